-- SPLICED by sprint.py: out of the kit's printer, with some functions by this session's own texts. No printed file. Lean checks it.
import Derived.Test.YtedaalklakokkaaPAllx0
import Derived.Test.YtedaalklakokkaaPAllx1
namespace Go.Proofs.Ytedaalklakokkaa.PAll
open Go.RowKit Go.Proofs.YtedaalklakokkaaW.PrintWords Go.Proofs.YtedaalklakokkaaW.PrintLast Go.Proofs.YtedaalklakokkaaW.PrintMore
attribute [local go_sem] max2_int min2_int max_two min_two max_three min_three max_four min_four   -- for this text's walks alone
set_option linter.unusedVariables false
set_option linter.unusedSimpArgs false

theorem by_extract (s : ByteArray) (a b : Nat) : bytesOf (s.extract a b) = ((bytesOf s).drop a).take (b - a) := by
  unfold bytesOf
  rw [Lib.extract_data, List.map_take, List.map_drop]
theorem by_from (s : ByteArray) (a : Nat) : bytesOf (s.extract a s.size) = (bytesOf s).drop a := by
  rw [by_extract, List.take_of_length_le]
  rw [List.length_drop, bytesOf_length]; exact Nat.le_refl _
theorem dec_ok_pos (l : List Int) (hl : ∀ x ∈ l, 0 ≤ x ∧ x ≤ 255) (h : (dec l).2.2 = true) : 1 ≤ (dec l).2.1 ∧ (dec l).2.1 ≤ 4 ∧ (dec l).2.1 ≤ l.length := by
  rcases front_shape l hl with k | ⟨k, hk, _⟩ | ⟨k, hk, _⟩ | ⟨k, hk, _⟩ | ⟨k, hk, _⟩
  · unfold dec at h; rw [if_pos (by omega)] at h; cases h
  all_goals
    unfold dec; rw [k]; simp; omega
/-- The place of the first fault, from place i on; -1: there is none. -/
def faultF (l : List Int) : Nat → Nat → Int
  | 0, _ => -1
  | f + 1, i => if i < l.length then (if (dec (l.drop i)).2.2 = true then faultF l f (i + (dec (l.drop i)).2.1.toNat) else (i : Int)) else -1
theorem getbang (s : ByteArray) (i : Nat) (h : i < s.size) : ((s.get! i).toNat : Int) = (bytesOf s).getD i 0 := by
  have e : s.get! i = s[i]'h := by
    have := get_at s i h
    simpa using this
  rw [e, bt_lit]
theorem getD_drop (l : List Int) (i k : Nat) : (l.drop i).getD k 0 = l.getD (i + k) 0 := by
  simp [List.getD_eq_getElem?_getD, List.getElem?_drop]
/-- The model's own reading of what begins at a place. -/
theorem utf8_ok (s : ByteArray) (i : Nat) (h : (dec ((bytesOf s).drop i)).2.2 = true) : ((Utf8.decode s i).1 : Int) = (dec ((bytesOf s).drop i)).1 ∧ ((Utf8.decode s i).2 : Int) = (dec ((bytesOf s).drop i)).2.1 := by
  have hl : ∀ x ∈ (bytesOf s).drop i, 0 ≤ x ∧ x ≤ 255 := fun x hx => bytes_rng s x (List.mem_of_mem_drop hx)
  have hlen : ((bytesOf s).drop i).length = s.size - i := by rw [List.length_drop, bytesOf_length]
  rcases front_shape ((bytesOf s).drop i) hl with k | ⟨k, hk, b0⟩ | ⟨k, hk, b0, b1⟩ | ⟨k, hk, b0, b1, b2⟩ | ⟨k, hk, b0, b1, b2, b3⟩
  · unfold dec at h; rw [if_pos (by omega)] at h; cases h
  · rw [hlen] at hk
    have g0 := getbang s (i + 0) (by omega)
    rw [← getD_drop] at g0
    have e : dec ((bytesOf s).drop i) = (((bytesOf s).drop i).getD 0 0, 1, true) := by unfold dec; rw [k]; simp [valI]
    rw [e]
    have h1 : (s.get! (i + 0)).toNat < 128 := by omega
    simp only [Utf8.decode, h1, if_true]
    omega
  · rw [hlen] at hk
    have g0 := getbang s (i + 0) (by omega)
    have g1 := getbang s (i + 1) (by omega)
    rw [← getD_drop] at g0 g1
    have e : dec ((bytesOf s).drop i) = ((((bytesOf s).drop i).getD 0 0 - 192) * 64 + (((bytesOf s).drop i).getD 1 0 - 128), 2, true) := by unfold dec; rw [k]; simp [valI]
    rw [e]
    have h1 : ¬ (s.get! (i + 0)).toNat < 128 := by omega
    have h2 : ((s.get! (i + 0)).toNat / 32 == 6) = true := by rw [beq_iff_eq]; omega
    have h3 : (decide (i + 1 < s.size) && (s.get! (i + 1)).toNat / 64 == 2) = true := by rw [Bool.and_eq_true, decide_eq_true_eq, beq_iff_eq]; omega
    have h4 : (s.get! (i + 0)).toNat % 32 * 64 + (s.get! (i + 1)).toNat % 64 ≥ 128 := by omega
    simp only [Utf8.decode, h1, if_false, h2, h3, Bool.and_self, if_true, h4]
    omega
  · rw [hlen] at hk
    have g0 := getbang s (i + 0) (by omega)
    have g1 := getbang s (i + 1) (by omega)
    have g2 := getbang s (i + 2) (by omega)
    rw [← getD_drop] at g0 g1 g2
    have e : dec ((bytesOf s).drop i) = ((((bytesOf s).drop i).getD 0 0 - 224) * 4096 + (((bytesOf s).drop i).getD 1 0 - 128) * 64 + (((bytesOf s).drop i).getD 2 0 - 128), 3, true) := by unfold dec; rw [k]; simp [valI]
    rw [e]
    have h1 : ¬ (s.get! (i + 0)).toNat < 128 := by omega
    have h2 : ((s.get! (i + 0)).toNat / 32 == 6) = false := by rw [beq_eq_false_iff_ne]; omega
    have h2' : ((s.get! (i + 0)).toNat / 16 == 14) = true := by rw [beq_iff_eq]; omega
    have h3 : (decide (i + 1 < s.size) && (s.get! (i + 1)).toNat / 64 == 2) = true := by rw [Bool.and_eq_true, decide_eq_true_eq, beq_iff_eq]; omega
    have h3' : (decide (i + 2 < s.size) && (s.get! (i + 2)).toNat / 64 == 2) = true := by rw [Bool.and_eq_true, decide_eq_true_eq, beq_iff_eq]; omega
    have h4 : ((s.get! (i + 0)).toNat % 16 * 4096 + (s.get! (i + 1)).toNat % 64 * 64 + (s.get! (i + 2)).toNat % 64 ≥ 2048) := by omega
    have h5 : Utf8.valid (((s.get! (i + 0)).toNat % 16 * 4096 + (s.get! (i + 1)).toNat % 64 * 64 + (s.get! (i + 2)).toNat % 64 : Nat) : Int) = true := by
      unfold Utf8.valid
      simp only [Bool.or_eq_true, Bool.and_eq_true, decide_eq_true_eq]
      omega
    simp only [Utf8.decode, h1, if_false, h2, h2', h3, h3', Bool.and_self, Bool.false_and, Bool.false_eq_true, if_true, h4, h5, decide_true]
    omega
  · rw [hlen] at hk
    have g0 := getbang s (i + 0) (by omega)
    have g1 := getbang s (i + 1) (by omega)
    have g2 := getbang s (i + 2) (by omega)
    have g3 := getbang s (i + 3) (by omega)
    rw [← getD_drop] at g0 g1 g2 g3
    have e : dec ((bytesOf s).drop i) = ((((bytesOf s).drop i).getD 0 0 - 240) * 262144 + (((bytesOf s).drop i).getD 1 0 - 128) * 4096 + (((bytesOf s).drop i).getD 2 0 - 128) * 64 + (((bytesOf s).drop i).getD 3 0 - 128), 4, true) := by unfold dec; rw [k]; simp [valI]
    rw [e]
    have h1 : ¬ (s.get! (i + 0)).toNat < 128 := by omega
    have h2 : ((s.get! (i + 0)).toNat / 32 == 6) = false := by rw [beq_eq_false_iff_ne]; omega
    have h2' : ((s.get! (i + 0)).toNat / 16 == 14) = false := by rw [beq_eq_false_iff_ne]; omega
    have h2'' : ((s.get! (i + 0)).toNat / 8 == 30) = true := by rw [beq_iff_eq]; omega
    have h3 : (decide (i + 1 < s.size) && (s.get! (i + 1)).toNat / 64 == 2) = true := by rw [Bool.and_eq_true, decide_eq_true_eq, beq_iff_eq]; omega
    have h3' : (decide (i + 2 < s.size) && (s.get! (i + 2)).toNat / 64 == 2) = true := by rw [Bool.and_eq_true, decide_eq_true_eq, beq_iff_eq]; omega
    have h3'' : (decide (i + 3 < s.size) && (s.get! (i + 3)).toNat / 64 == 2) = true := by rw [Bool.and_eq_true, decide_eq_true_eq, beq_iff_eq]; omega
    have h4 : ((s.get! (i + 0)).toNat % 8 * 262144 + (s.get! (i + 1)).toNat % 64 * 4096 + (s.get! (i + 2)).toNat % 64 * 64 + (s.get! (i + 3)).toNat % 64 ≥ 65536) := by omega
    have h5 : Utf8.valid (((s.get! (i + 0)).toNat % 8 * 262144 + (s.get! (i + 1)).toNat % 64 * 4096 + (s.get! (i + 2)).toNat % 64 * 64 + (s.get! (i + 3)).toNat % 64 : Nat) : Int) = true := by
      unfold Utf8.valid
      simp only [Bool.or_eq_true, Bool.and_eq_true, decide_eq_true_eq]
      omega
    simp only [Utf8.decode, h1, if_false, h2, h2', h2'', h3, h3', h3'', Bool.and_self, Bool.false_and, Bool.false_eq_true, if_true, h4, h5, decide_true]
    omega
theorem inr_of (l : List Int) (k : Nat) (lo hi : Int) (h : k < l.length) (h1 : lo ≤ l.getD k 0) (h2 : l.getD k 0 ≤ hi) : inr l k lo hi = true := by
  unfold inr
  rw [List.getElem?_eq_getElem h]
  have e : l.getD k 0 = l[k] := by simp [List.getD_eq_getElem?_getD, h]
  rw [e] at h1 h2
  simp [h1, h2]
theorem dec_of (l : List Int) (h : (0 < l.length ∧ l.getD 0 0 < 128) ∨ (1 < l.length ∧ (194 ≤ l.getD 0 0 ∧ l.getD 0 0 ≤ 223) ∧ 128 ≤ l.getD 1 0 ∧ l.getD 1 0 ≤ 191) ∨
    (2 < l.length ∧ (224 ≤ l.getD 0 0 ∧ l.getD 0 0 ≤ 239) ∧ ((128 ≤ l.getD 1 0 ∧ l.getD 1 0 ≤ 191) ∧ (l.getD 0 0 = 224 → 160 ≤ l.getD 1 0) ∧ (l.getD 0 0 = 237 → l.getD 1 0 ≤ 159)) ∧ 128 ≤ l.getD 2 0 ∧ l.getD 2 0 ≤ 191) ∨
    (3 < l.length ∧ (240 ≤ l.getD 0 0 ∧ l.getD 0 0 ≤ 244) ∧ ((128 ≤ l.getD 1 0 ∧ l.getD 1 0 ≤ 191) ∧ (l.getD 0 0 = 240 → 144 ≤ l.getD 1 0) ∧ (l.getD 0 0 = 244 → l.getD 1 0 ≤ 143)) ∧ (128 ≤ l.getD 2 0 ∧ l.getD 2 0 ≤ 191) ∧ 128 ≤ l.getD 3 0 ∧ l.getD 3 0 ≤ 191)) : (dec l).2.2 = true := by
  have ne : ∀ {n : Nat}, n < l.length → ¬ l = [] := fun h e => by rw [e] at h; exact absurd h (Nat.not_lt_zero _)
  have key : ∀ n : Int, ¬ n = 0 → frontI l = (n, n) → (dec l).2.2 = true := by
    intro n hn e
    unfold dec
    rw [e, if_neg (by simp; exact hn)]
  rcases h with ⟨h1, h2⟩ | ⟨h1, h2, h3, h4⟩ | ⟨h1, h2, h3, h4⟩ | ⟨h1, h2, h3, h4, h5⟩
  · refine key 1 (by decide) ?_
    unfold frontI
    rw [if_neg (ne h1)]
    have e : shp (l.getD 0 0) = (1, 0, 0) := by unfold shp; rw [if_pos h2]
    rw [e]; rfl
  · refine key 2 (by decide) ?_
    unfold frontI
    rw [if_neg (ne h1)]
    have e : shp (l.getD 0 0) = (2, 128, 191) := by unfold shp; rw [if_neg (by omega), if_pos h2]
    rw [e]
    simp [inr_of l 1 128 191 (by omega) h3 h4]
  · refine key 3 (by decide) ?_
    unfold frontI
    rw [if_neg (ne h1)]
    have i2 := inr_of l 2 128 191 (by omega) h4.1 h4.2
    by_cases a : l.getD 0 0 = 224
    · have e : shp (l.getD 0 0) = (3, 160, 191) := by rw [a]; rfl
      rw [e]
      simp [inr_of l 1 160 191 (by omega) (h3.2.1 a) h3.1.2, i2]
    by_cases b : l.getD 0 0 = 237
    · have e : shp (l.getD 0 0) = (3, 128, 159) := by rw [b]; rfl
      rw [e]
      simp [inr_of l 1 128 159 (by omega) h3.1.1 (h3.2.2 b), i2]
    · have e : shp (l.getD 0 0) = (3, 128, 191) := by unfold shp; rw [if_neg (by omega), if_neg (by omega), if_neg a, if_neg b, if_pos (by omega)]
      rw [e]
      simp [inr_of l 1 128 191 (by omega) h3.1.1 h3.1.2, i2]
  · refine key 4 (by decide) ?_
    unfold frontI
    rw [if_neg (ne h1)]
    have i2 := inr_of l 2 128 191 (by omega) h4.1 h4.2
    have i3 := inr_of l 3 128 191 (by omega) h5.1 h5.2
    by_cases a : l.getD 0 0 = 240
    · have e : shp (l.getD 0 0) = (4, 144, 191) := by rw [a]; rfl
      rw [e]
      simp [inr_of l 1 144 191 (by omega) (h3.2.1 a) h3.1.2, i2, i3]
    by_cases b : l.getD 0 0 = 244
    · have e : shp (l.getD 0 0) = (4, 128, 143) := by rw [b]; rfl
      rw [e]
      simp [inr_of l 1 128 143 (by omega) h3.1.1 (h3.2.2 b), i2, i3]
    · have e : shp (l.getD 0 0) = (4, 128, 191) := by unfold shp; rw [if_neg (by omega), if_neg (by omega), if_neg (by omega), if_neg (by omega), if_neg (by omega), if_neg a, if_neg b, if_pos (by omega)]
      rw [e]
      simp [inr_of l 1 128 191 (by omega) h3.1.1 h3.1.2, i2, i3]
theorem utf8_bad (s : ByteArray) (i : Nat) (hi : i < s.size) (h : (dec ((bytesOf s).drop i)).2.2 = false) : (Utf8.decode s i).1 = 65533 ∧ (Utf8.decode s i).2 = 1 := by
  have hlen : ((bytesOf s).drop i).length = s.size - i := by rw [List.length_drop, bytesOf_length]
  have g : ∀ k, i + k < s.size → ((s.get! (i + k)).toNat : Int) = ((bytesOf s).drop i).getD k 0 := fun k hk => by rw [getbang s (i + k) hk, getD_drop]
  have no := mt (dec_of ((bytesOf s).drop i)) (by rw [h]; decide)
  rw [hlen] at no
  have g0 := g 0 (by omega)
  have r0 := (s.get! (i + 0)).toNat_lt
  have r1 := (s.get! (i + 1)).toNat_lt
  have r2 := (s.get! (i + 2)).toNat_lt
  have r3 := (s.get! (i + 3)).toNat_lt
  simp only [Utf8.decode, Utf8.runeError]
  split
  · exact absurd (.inl ⟨by omega, by omega⟩) no
  split
  · rename_i q1 q2
    simp only [Bool.and_eq_true, decide_eq_true_eq, beq_iff_eq] at q2
    have g1 := g 1 q2.2.1
    split
    · rename_i q3
      exact absurd (.inr (.inl ⟨by omega, by omega, by omega, by omega⟩)) no
    · exact ⟨rfl, rfl⟩
  split
  · rename_i q1 q2 q3
    simp only [Bool.and_eq_true, decide_eq_true_eq, beq_iff_eq] at q3
    have g1 := g 1 q3.1.2.1
    have g2 := g 2 q3.2.1
    split
    · rename_i q4
      simp only [Bool.and_eq_true, decide_eq_true_eq, Utf8.valid, Bool.or_eq_true] at q4
      exact absurd (.inr (.inr (.inl ⟨by omega, by omega, ⟨by omega, by omega, by omega⟩, by omega, by omega⟩))) no
    · exact ⟨rfl, rfl⟩
  split
  · rename_i q1 q2 q3 q4
    simp only [Bool.and_eq_true, decide_eq_true_eq, beq_iff_eq] at q4
    have g1 := g 1 q4.1.1.2.1
    have g2 := g 2 q4.1.2.1
    have g3 := g 3 q4.2.1
    split
    · rename_i q5
      simp only [Bool.and_eq_true, decide_eq_true_eq, Utf8.valid, Bool.or_eq_true] at q5
      exact absurd (.inr (.inr (.inr ⟨by omega, by omega, ⟨by omega, by omega, by omega⟩, ⟨by omega, by omega⟩, by omega, by omega⟩))) no
    · exact ⟨rfl, rfl⟩
  · exact ⟨rfl, rfl⟩
theorem iter_at (w : World) (k : Nat) (s : ByteArray) (pos : Nat) (hk : k < w.heap.size) : (w.iterAt k s pos).heap[k]? = some (.stringIter s pos) := by
  unfold World.iterAt
  simp [hk]
theorem below_iterAt {B : Nat} {w w1 : World} (h : Below B w w1) (k : Nat) (hk : B ≤ k) (s : ByteArray) (pos : Nat) : Below B w (w1.iterAt k s pos) := by
  refine ⟨h.os, h.tape, h.output, ?_, fun i hi => ?_⟩
  · have := h.size; simpa [World.iterAt] using this
  · rw [← h.block i hi]
    unfold World.iterAt
    simp only
    rw [Array.getElem?_setIfInBounds_ne (by omega)]
theorem below_heap {B : Nat} {w w1 : World} (h : Below B w w1) {k : Nat} {o : Obj} (hk : k < B) (ho : w.heap[k]? = some o) : w1.heap[k]? = some o := (h.block k hk).trans ho
set_option maxHeartbeats 1000000 in
theorem fault_any (s : ByteArray) (w : World) (hs : s.size ≤ 140737488355328) :
    Calls Try.prog 11 #[.string s] w fun e w' => e = .returned (.int .i64 (faultF (bytesOf s) (s.size + 1) 0)) ∧ Below w.heap.size w w' := by
  obtain ⟨R, hR⟩ : ∃ R, R = faultF (bytesOf s) (s.size + 1) 0 := ⟨_, rfl⟩
  rw [← hR]
  have HR := Aside0.mk hR.symm
  clear hR
  go_enter Try.func11, Try.ntmps11
  go_wp2
  go_loopg [3] (s.size + 1) (fun kq v3 wr => ∃ pos : Nat, Aside0 (wr.heap[w.heap.size]? = some (.stringIter s pos) ∧ pos ≤ s.size ∧ s.size < kq + pos ∧ Below w.heap.size w wr ∧ faultF (bytesOf s) kq pos = R))
  case atStart => exact ⟨0, ⟨World.iter_heap _ _ _, Nat.zero_le _, by omega, below_alloc (Below.refl _ _) _, HR.out⟩⟩
  case round =>
    obtain ⟨pos, HI⟩ := hrel
    cases gk with
    | zero => have := HI.out.2.1; have := HI.out.2.2.1; omega
    | succ g =>
      have hlt := (Array.getElem?_eq_some_iff.1 HI.out.1).1
      by_cases hp : pos < s.size
      · have hn := fun ty => Lib.run_next_any_at (P := Try.prog) wr w.heap.size s pos ty HI.out.1 hp
        have hF := HI.out.2.2.2.2
        rw [show faultF (bytesOf s) (g + 1) pos = if (dec ((bytesOf s).drop pos)).2.2 = true then faultF (bytesOf s) g (pos + (dec ((bytesOf s).drop pos)).2.1.toNat) else (pos : Int) by
          conv => lhs; unfold faultF
          rw [if_pos (by rw [bytesOf_length]; exact hp)]] at hF
        have HF := Aside0.mk hF
        clear hF
        cases hd : (dec ((bytesOf s).drop pos)).2.2 with
        | true =>
          have hu := utf8_ok s pos hd
          have hpos := dec_ok_pos ((bytesOf s).drop pos) (fun x hx => bytes_rng s x (List.mem_of_mem_drop hx)) hd
          rw [List.length_drop, bytesOf_length] at hpos
          rw [hd, if_pos rfl] at HF
          obtain ⟨c, hc⟩ : ∃ c, c = (Utf8.decode s pos).1 := ⟨_, rfl⟩
          obtain ⟨d, hdd⟩ : ∃ d, d = (Utf8.decode s pos).2 := ⟨_, rfl⟩
          rw [← hc, ← hdd] at hn
          rw [← hdd] at hu
          have ed : (dec ((bytesOf s).drop pos)).2.1.toNat = d := by omega
          rw [ed] at HF
          have hd1 : 1 ≤ d ∧ d ≤ s.size - pos := by omega
          have HREL := Aside0.mk (show (wr.iterAt w.heap.size s (pos + d)).heap[w.heap.size]? = some (.stringIter s (pos + d)) ∧ pos + d ≤ s.size ∧ s.size < g + (pos + d) ∧ Below w.heap.size w (wr.iterAt w.heap.size s (pos + d)) ∧ faultF (bytesOf s) g (pos + d) = R from
            ⟨iter_at _ _ _ _ hlt, by omega, by have := HI.out.2.2.1; omega, below_iterAt HI.out.2.2.2.1 _ (Nat.le_refl _) _ _, HF.out⟩)
          have HD := Aside0.mk hd
          clear ed hu hpos hc hdd hd
          by_cases hc3 : ((c : Int) != 65533) = true
          · go_wp2
            go_roundg g
            case measure => omega
            case rel => exact ⟨pos + d, HREL⟩
          · have hc4 : ((c : Int) != 65533) = false := by simpa using hc3
            clear hc3
            have hdc := decode_any (s.extract pos s.size) (wr.iterAt w.heap.size s (pos + d)) (by rw [ByteArray.size_extract]; omega)
            rw [by_from] at hdc
            have HDC := Aside0.mk hdc
            clear hdc
            have HD' := HD.out
            obtain ⟨x, hx⟩ : ∃ x, x = dec ((bytesOf s).drop pos) := ⟨_, rfl⟩
            rw [← hx] at HDC HD'
            obtain ⟨x1, x2, x3⟩ := x
            simp only at HD'
            subst HD'
            clear hx HD
            go_wp2_with (first | (go_at_call 9; refine HDC.out.mono ?_; rintro e w2 ⟨rfl, hb⟩; have HB := Aside0.mk hb; clear hb))
            go_roundg g
            case measure => omega
            case rel => exact ⟨pos + d, ⟨below_heap HB.out (by simpa [World.iterAt] using hlt) HREL.out.1, HREL.out.2.1, HREL.out.2.2.1, HREL.out.2.2.2.1.trans (HB.out.mono (by have := HREL.out.2.2.2.1.size; exact this)), HREL.out.2.2.2.2⟩⟩
        | false =>
          have hu := utf8_bad s pos hp hd
          rw [hd, if_neg (by decide)] at HF
          rw [hu.1, hu.2] at hn
          have HREL := Aside0.mk (below_iterAt HI.out.2.2.2.1 w.heap.size (Nat.le_refl _) s (pos + 1))
          have hdc := decode_any (s.extract pos s.size) (wr.iterAt w.heap.size s (pos + 1)) (by rw [ByteArray.size_extract]; omega)
          rw [by_from] at hdc
          have HDC := Aside0.mk hdc
          clear hdc hu
          obtain ⟨x, hx⟩ : ∃ x, x = dec ((bytesOf s).drop pos) := ⟨_, rfl⟩
          rw [← hx] at HDC hd
          obtain ⟨x1, x2, x3⟩ := x
          simp only at hd
          subst hd
          clear hx
          go_wp2_with (first | (go_at_call 9; refine HDC.out.mono ?_; rintro e w2 ⟨rfl, hb⟩; have HB := Aside0.mk hb; clear hb))
          go_ret
          exact ⟨by rw [HF.out]; rfl, HREL.out.trans (HB.out.mono HREL.out.size)⟩
      · have hn := fun ty => Lib.run_next_end_at (P := Try.prog) wr w.heap.size s pos ty HI.out.1 hp
        have hF := HI.out.2.2.2.2
        rw [show faultF (bytesOf s) (g + 1) pos = -1 by
          conv => lhs; unfold faultF
          rw [if_neg (by rw [bytesOf_length]; exact hp)]] at hF
        have HF := Aside0.mk hF
        clear hF
        go_wp2
        go_ret
        exact ⟨by rw [← HF.out]; rfl, HI.out.2.2.2.1⟩

/-! ### utf_Fault: function 11 (own text) -/
def utf_Fault.f (a0 : ByteArray) : Option Int := if a0.size ≤ 140737488355328 then some (faultF (bytesOf a0) (a0.size + 1) 0) else none
theorem utf_Fault.calls (a0 : ByteArray) (r : Int) (w : World) (h : utf_Fault.f a0 = some r) :
    Calls Try.prog 11 #[.string a0] w fun e w' => e = .returned (.int .i64 r) ∧ Below w.heap.size w w' := by
  unfold utf_Fault.f at h
  by_cases hs : a0.size ≤ 140737488355328
  · rw [if_pos hs] at h
    obtain rfl := Option.some.inj h
    exact fault_any a0 w hs
  · rw [if_neg hs] at h
    cases h

/-! ### utf_Valid: function 13 -/
def utf_Valid.f (a0 : ByteArray) : Option (Bool) := (utf_Fault.f a0).bind fun t104 => (some (decide (t104 < 0)))
set_option maxHeartbeats 8000000 in
set_option maxRecDepth 100000 in
theorem utf_Valid.calls (a0 : ByteArray) (r : Bool) (w : World) (h : utf_Valid.f a0 = some r) :
    Calls Try.prog 13 #[.string a0] w fun e w' => e = .returned (.bool r) ∧ Below w.heap.size w w' := by
  have HB := Aside0.mk (Below.refl w.heap.size w)
  have H : ((utf_Fault.f a0).bind fun t104 => (some (decide (t104 < 0)))) = some r := h
  clear h
  replace H := Option.bind_eq_some_iff.mp H
  obtain ⟨t104, A20, H⟩ := H
  replace H : (some (decide (t104 < 0))) = some r := H
  have A2 := Aside0.mk A20
  clear A20
  obtain rfl := Option.some.inj H
  go_enter Try.func13, Try.ntmps13
  go_wp2_with (first | ((with_reducible refine gate_callee (f := 11) rfl ?_); refine goesL_ (some 4) rfl rfl Try.func11 (by kernel_rfl) rfl #[.string a0] rfl (by (try simp only [List.map_toArray, List.map_cons, List.map_nil]); first | done | rfl | (simp only [List.length_drop, List.length_take]; rfl)) ?_; (with_reducible refine (utf_Fault.calls a0 t104 _ A2.out).mono ?_); rintro e w3 ⟨rfl, hb⟩; refine ⟨_, rfl, ?_⟩; have n0_ := Aside0.mk (below_step (by repeat (first | (with_reducible first | exact HB.out | apply below_alloc | apply pw_below_drewN | apply below_drew1) | exact HB.out)) hb); clear HB; have HB := n0_; clear n0_; (try clear hb); (try clear hb2); (try clear hk); (try clear hi)))
  go_ret
  exact ⟨by first | rfl | (simp [errW_none, errW_some] <;> rfl) | (simp [*, errW_none, errW_some] <;> rfl), by repeat (first | (with_reducible first | exact HB.out | apply below_alloc | apply pw_below_drewN | apply below_drew1) | exact HB.out)⟩

/-! ### utf_Scalar: function 15 -/
def utf_Scalar.f (a0 : Int) : Option (Bool) := if a0 ≥ 0 then (if a0 ≤ 55295 then (some true) else (if a0 ≥ 57344 then (some (decide (a0 ≤ 1114111))) else (some false))) else (if a0 ≥ 57344 then (some (decide (a0 ≤ 1114111))) else (some false))
set_option maxHeartbeats 8000000 in
set_option maxRecDepth 100000 in
theorem utf_Scalar.calls (a0 : Int) (r : Bool) (w : World) (h : utf_Scalar.f a0 = some r) :
    Calls Try.prog 15 #[.int .i32 a0] w fun e w' => e = .returned (.bool r) ∧ Drawn0 w w' := by
  have H : (if a0 ≥ 0 then (if a0 ≤ 55295 then (some true) else (if a0 ≥ 57344 then (some (decide (a0 ≤ 1114111))) else (some false))) else (if a0 ≥ 57344 then (some (decide (a0 ≤ 1114111))) else (some false))) = some r := h
  clear h
  by_cases c2 : a0 ≥ 0
  · rw [if_pos c2] at H
    have c2b0 : decide (0 ≤ a0) = true := decide_eq_true c2
    clear c2
    by_cases c3 : a0 ≤ 55295
    · rw [if_pos c3] at H
      have c3b0 : decide (a0 ≤ 55295) = true := decide_eq_true c3
      clear c3
      obtain rfl := Option.some.inj H
      go_enter Try.func15, Try.ntmps15
      go_wp2
      go_ret
      exact ⟨by first | rfl | (simp; done) | (simp [*]; done), by repeat (first | exact Drawn0.refl _ | apply Drawn0.step)⟩
    · rw [if_neg c3] at H
      have c3b0 : decide (a0 ≤ 55295) = false := decide_eq_false c3
      clear c3
      by_cases c4 : a0 ≥ 57344
      · rw [if_pos c4] at H
        have c4b0 : decide (57344 ≤ a0) = true := decide_eq_true c4
        clear c4
        obtain rfl := Option.some.inj H
        go_enter Try.func15, Try.ntmps15
        go_wp2
        go_ret
        exact ⟨by first | rfl | (simp; done) | (simp [*]; done), by repeat (first | exact Drawn0.refl _ | apply Drawn0.step)⟩
      · rw [if_neg c4] at H
        have c4b0 : decide (57344 ≤ a0) = false := decide_eq_false c4
        clear c4
        obtain rfl := Option.some.inj H
        go_enter Try.func15, Try.ntmps15
        go_wp2
        go_ret
        exact ⟨by first | rfl | (simp; done) | (simp [*]; done), by repeat (first | exact Drawn0.refl _ | apply Drawn0.step)⟩
  · rw [if_neg c2] at H
    have c2b0 : decide (0 ≤ a0) = false := decide_eq_false c2
    clear c2
    by_cases c5 : a0 ≥ 57344
    · rw [if_pos c5] at H
      have c5b0 : decide (57344 ≤ a0) = true := decide_eq_true c5
      clear c5
      obtain rfl := Option.some.inj H
      go_enter Try.func15, Try.ntmps15
      go_wp2
      go_ret
      exact ⟨by first | rfl | (simp; done) | (simp [*]; done), by repeat (first | exact Drawn0.refl _ | apply Drawn0.step)⟩
    · rw [if_neg c5] at H
      have c5b0 : decide (57344 ≤ a0) = false := decide_eq_false c5
      clear c5
      obtain rfl := Option.some.inj H
      go_enter Try.func15, Try.ntmps15
      go_wp2
      go_ret
      exact ⟨by first | rfl | (simp; done) | (simp [*]; done), by repeat (first | exact Drawn0.refl _ | apply Drawn0.step)⟩

/-- Is it a scalar value? -/
def scaB (r : Int) : Bool := decide ((0 ≤ r ∧ r ≤ 55295) ∨ (57344 ≤ r ∧ r ≤ 1114111))
theorem scalar_eq (r : Int) : utf_Scalar.f r = some (scaB r) := by
  unfold utf_Scalar.f scaB
  repeat' split
  all_goals (congr 1; first | (rw [eq_comm, decide_eq_true_eq]; omega) | (rw [eq_comm, decide_eq_false_iff_not]; omega) | (rw [decide_eq_decide]; omega))
theorem encode_any (r : Int) (w : World) :
    Calls Try.prog 14 #[.int .i32 r] w fun e w' => e = .returned (.string (if scaB r = true then Utf8.encode r else ⟨#[]⟩)) ∧ Drawn0 w w' := by
  have H := Aside0.mk (scalar_eq r)
  obtain ⟨b, hb⟩ : ∃ b, b = scaB r := ⟨_, rfl⟩
  rw [← hb] at H ⊢
  clear hb
  cases b with
  | true =>
    rw [if_pos rfl]
    go_enter Try.func14, Try.ntmps14
    go_wp2_with (first | (go_at_call 15; refine (utf_Scalar.calls r true _ H.out).mono ?_; rintro e w1 ⟨rfl, ⟨nd, rfl⟩⟩))
    go_ret
    exact ⟨rfl, ⟨⟨_, rfl⟩⟩⟩
  | false =>
    rw [if_neg (by decide)]
    go_enter Try.func14, Try.ntmps14
    go_wp2_with (first | (go_at_call 15; refine (utf_Scalar.calls r false _ H.out).mono ?_; rintro e w1 ⟨rfl, ⟨nd, rfl⟩⟩))
    go_ret
    exact ⟨rfl, ⟨⟨_, rfl⟩⟩⟩

/-! ### utf_Encode: function 14 (own text) -/
def utf_Encode.f (a0 : Int) : Option ByteArray := some (if scaB a0 = true then Utf8.encode a0 else ⟨#[]⟩)
theorem utf_Encode.calls (a0 : Int) (r : ByteArray) (w : World) (h : utf_Encode.f a0 = some r) :
    Calls Try.prog 14 #[.int .i32 a0] w fun e w' => e = .returned (.string r) ∧ Drawn0 w w' := by
  obtain rfl := Option.some.inj h
  exact encode_any a0 w

/-! ### utf_Count: function 18 -/
def utf_Count.l0 : Nat → ByteArray → Int → Option (Int)
  | 0, _, _ => none
  | k + 1, x0, x3 => if (x0.size : Int) > 0 then ((utf_Decode.f x0).bind fun bt105 => (if 0 ≤ bt105.2.1 then (if bt105.2.1 ≤ (x0.size : Int) then (utf_Count.l0 k (x0.extract (bt105.2.1 : Int).toNat x0.size) (wrap64 (x3 + 1))) else (none)) else (none))) else (some x3)
def utf_Count.f (k : Nat) (a0 : ByteArray) : Option (Int) := utf_Count.l0 k a0 0
theorem utf_Count.mono_l : ∀ k, (∀ y0 y1, LeO (utf_Count.l0 k y0 y1) (utf_Count.l0 (k + 1) y0 y1))
  | 0 => fun _ _ r h => by simp [utf_Count.l0] at h
  | k + 1 => by
    have ih0 := utf_Count.mono_l k
    · intro y0 y1
      unfold utf_Count.l0
      repeat' first
      | (with_reducible exact ih0 _ _)
      | (with_reducible exact LeO.refl _)
      | (with_reducible exact LeO.none _)
      | (with_reducible refine LeO.ite ?_ ?_)
      | (with_reducible refine LeO.bind ?_ (fun _ => ?_))
      | exact ih0 _ _
      | exact LeO.none _
      | refine LeO.ite ?_ ?_
      | refine LeO.bind ?_ (fun _ => ?_)
theorem utf_Count.mono : ∀ a0 k, LeO (utf_Count.f k a0) (utf_Count.f (k + 1) a0) := by
  intro a0 k
  have ih0 := utf_Count.mono_l k
  unfold utf_Count.f
  repeat' first
      | (with_reducible exact ih0 _ _)
      | (with_reducible exact LeO.refl _)
      | (with_reducible exact LeO.none _)
      | (with_reducible refine LeO.ite ?_ ?_)
      | (with_reducible refine LeO.bind ?_ (fun _ => ?_))
      | exact ih0 _ _
      | exact LeO.none _
      | refine LeO.ite ?_ ?_
      | refine LeO.bind ?_ (fun _ => ?_)
set_option maxHeartbeats 8000000 in
set_option maxRecDepth 100000 in
theorem utf_Count.calls (k : Nat) (a0 : ByteArray) (r : Int) (w : World) (h : utf_Count.f k a0 = some r) :
    Calls Try.prog 18 #[.string a0] w fun e w' => e = .returned (.int .i64 r) ∧ Below w.heap.size w w' := by
  have HB := Aside0.mk (Below.refl w.heap.size w)
  have H : (utf_Count.l0 k a0 0) = some r := h
  clear h
  have H' := Aside0.mk H
  clear H
  go_enter Try.func18, Try.ntmps18
  go_wp2
  go_loopg [0, 3] k (fun kq v0 v3 w' => ∃ (x0_1 : ByteArray) (x3_1 : Int), v0 = .string x0_1 ∧ v3 = .int .i64 x3_1 ∧ Aside0 (utf_Count.l0 kq x0_1 x3_1 = some r) ∧ Aside0 (kq ≤ k) ∧ Aside0 (Below w.heap.size w w'))
  case atStart => exact ⟨(a0), (0), (by first | rfl | (simp; done) | (simp [*]; done)), (by first | rfl | (simp; done) | (simp [*]; done)), H', ⟨Nat.le_refl _⟩, ⟨by repeat (first | (with_reducible first | exact HB.out | apply below_alloc | apply pw_below_drewN | apply below_drew1) | exact HB.out)⟩⟩
  case round =>
    clear H'
    try clear c1
    obtain ⟨x0_1, x3_1, rfl, rfl, HA, HK1, HB⟩ := hrel
    cases gk with
    | zero => exact absurd HA.out (by simp [utf_Count.l0])
    | succ k1 =>
      have H := HA.out
      clear HA
      simp only [utf_Count.l0] at H
      by_cases c2 : (x0_1.size : Int) > 0
      · rw [if_pos c2] at H
        have c2b0 : decide (0 < (x0_1.size : Int)) = true := decide_eq_true c2
        have c2b1 : decide (0 < x0_1.size) = true := decide_eq_true (by omega)
        clear c2
        replace H := Option.bind_eq_some_iff.mp H
        obtain ⟨⟨t105, t106, t107⟩, A30, H⟩ := H
        replace H : (if 0 ≤ t106 then (if t106 ≤ (x0_1.size : Int) then (utf_Count.l0 k1 (x0_1.extract (t106 : Int).toNat x0_1.size) (wrap64 (x3_1 + 1))) else (none)) else (none)) = some r := H
        have A3 := Aside0.mk A30
        clear A30
        by_cases c4 : 0 ≤ t106
        · rw [if_pos c4] at H
          have c4b0 := eq_true c4
          have c4b1 : decide (0 ≤ t106) = true := decide_eq_true c4
          clear c4
          by_cases c5 : t106 ≤ (x0_1.size : Int)
          · rw [if_pos c5] at H
            have c5b0 := eq_true c5
            have c5b1 : decide (t106 ≤ (x0_1.size : Int)) = true := decide_eq_true c5
            clear c5
            have H' := Aside0.mk H
            clear H
            go_wp2_with (first | ((with_reducible refine gate_callee (f := 9) rfl ?_); refine goesL_ (some 12) rfl rfl Try.func9 (by kernel_rfl) rfl #[.string x0_1] rfl (by (try simp only [List.map_toArray, List.map_cons, List.map_nil]); first | done | rfl | (simp only [List.length_drop, List.length_take]; rfl)) ?_; (with_reducible refine (utf_Decode.calls x0_1 t105 t106 t107 _ A3.out).mono ?_); rintro e w6 ⟨rfl, hb⟩; refine ⟨_, rfl, ?_⟩; have n0_ := Aside0.mk (below_step (by repeat (first | (with_reducible first | exact HB.out | apply below_alloc | apply pw_below_drewN | apply below_drew1) | exact HB.out)) hb); clear HB; have HB := n0_; clear n0_; (try clear hb); (try clear hb2); (try clear hk); (try clear hi)))
            go_roundg k1
            case measure => have := HK1.out; omega
            case rel => exact ⟨(x0_1.extract (t106 : Int).toNat x0_1.size), (wrap64 (x3_1 + 1)), (by first | rfl | (simp; done) | (simp [*]; done)), (by first | rfl | (simp; done) | (simp [*]; done)), H', ⟨by have := HK1.out; omega⟩, ⟨by repeat (first | (with_reducible first | exact HB.out | apply below_alloc | apply pw_below_drewN | apply below_drew1) | exact HB.out)⟩⟩
          · rw [if_neg c5] at H
            exact absurd H (by simp)
        · rw [if_neg c4] at H
          exact absurd H (by simp)
      · rw [if_neg c2] at H
        have c2b0 : decide (0 < (x0_1.size : Int)) = false := decide_eq_false c2
        have c2b1 : decide (0 < x0_1.size) = false := decide_eq_false (by omega)
        clear c2
        obtain rfl := Option.some.inj H
        go_wp2
        go_ret
        exact ⟨by first | rfl | (simp [errW_none, errW_some] <;> rfl) | (simp [*, errW_none, errW_some] <;> rfl), by repeat (first | (with_reducible first | exact HB.out | apply below_alloc | apply pw_below_drewN | apply below_drew1) | exact HB.out)⟩

/-! ### monikerlaw02_awake: function 8 -/
def monikerlaw02_awake.f (k : Nat)  : Option (Bool) := (utf_Decode.f (⟨#[226, 130]⟩ : ByteArray)).bind fun bt108 => ((utf_Encode.f 252).bind fun t111 => (if t111.toList = ([195, 188] : List UInt8) then (if bt108.2.1 = 2 then (if bt108.2.2 = true then (some false) else ((utf_Count.f k (⟨#[192, 128]⟩ : ByteArray)).bind fun t112 => (if t112 = 2 then ((utf_Valid.f (⟨#[255]⟩ : ByteArray)).bind fun t113 => (some (!t113))) else (some false)))) else (some false)) else (some false)))
theorem monikerlaw02_awake.mono : ∀ k, LeO (monikerlaw02_awake.f k ) (monikerlaw02_awake.f (k + 1) ) := by
  intro  k
  unfold monikerlaw02_awake.f
  repeat' first
      | (with_reducible exact utf_Count.mono _ _)
      | (with_reducible exact LeO.refl _)
      | (with_reducible exact LeO.none _)
      | (with_reducible refine LeO.ite ?_ ?_)
      | (with_reducible refine LeO.bind ?_ (fun _ => ?_))
      | exact utf_Count.mono _ _
      | exact LeO.none _
      | refine LeO.ite ?_ ?_
      | refine LeO.bind ?_ (fun _ => ?_)
set_option maxHeartbeats 8000000 in
set_option maxRecDepth 100000 in
theorem monikerlaw02_awake.calls (k : Nat)  (r : Bool) (w : World) (h : monikerlaw02_awake.f k  = some r) :
    Calls Try.prog 8 #[] w fun e w' => e = .returned (.bool r) ∧ Below w.heap.size w w' := by
  have HB := Aside0.mk (Below.refl w.heap.size w)
  have H : ((utf_Decode.f (⟨#[226, 130]⟩ : ByteArray)).bind fun bt108 => ((utf_Encode.f 252).bind fun t111 => (if t111.toList = ([195, 188] : List UInt8) then (if bt108.2.1 = 2 then (if bt108.2.2 = true then (some false) else ((utf_Count.f k (⟨#[192, 128]⟩ : ByteArray)).bind fun t112 => (if t112 = 2 then ((utf_Valid.f (⟨#[255]⟩ : ByteArray)).bind fun t113 => (some (!t113))) else (some false)))) else (some false)) else (some false)))) = some r := h
  clear h
  replace H := Option.bind_eq_some_iff.mp H
  obtain ⟨⟨t108, t109, t110⟩, A10, H⟩ := H
  replace H : ((utf_Encode.f 252).bind fun t111 => (if t111.toList = ([195, 188] : List UInt8) then (if t109 = 2 then (if t110 = true then (some false) else ((utf_Count.f k (⟨#[192, 128]⟩ : ByteArray)).bind fun t112 => (if t112 = 2 then ((utf_Valid.f (⟨#[255]⟩ : ByteArray)).bind fun t113 => (some (!t113))) else (some false)))) else (some false)) else (some false))) = some r := H
  have A1 := Aside0.mk A10
  clear A10
  replace H := Option.bind_eq_some_iff.mp H
  obtain ⟨t111, A20, H⟩ := H
  replace H : (if t111.toList = ([195, 188] : List UInt8) then (if t109 = 2 then (if t110 = true then (some false) else ((utf_Count.f k (⟨#[192, 128]⟩ : ByteArray)).bind fun t112 => (if t112 = 2 then ((utf_Valid.f (⟨#[255]⟩ : ByteArray)).bind fun t113 => (some (!t113))) else (some false)))) else (some false)) else (some false)) = some r := H
  have A2 := Aside0.mk A20
  clear A20
  by_cases c3 : t111.toList = ([195, 188] : List UInt8)
  · rw [if_pos c3] at H
    have c3b0 : (t111.toList == ([195, 188] : List UInt8)) = true := beq_iff_eq.mpr c3
    have c3b1 : (t111.toList != ([195, 188] : List UInt8)) = false := bne_eq_false_iff_eq.mpr c3
    clear c3
    by_cases c4 : t109 = 2
    · rw [if_pos c4] at H
      have c4b0 : (t109 == 2) = true := beq_iff_eq.mpr c4
      have c4b1 : (t109 != 2) = false := bne_eq_false_iff_eq.mpr c4
      clear c4
      by_cases c5 : t110 = true
      · subst c5
        have H1 : (some false) = some r := by rw [if_pos rfl] at H; exact H
        clear H
        have H := H1
        clear H1
        obtain rfl := Option.some.inj H
        go_enter Try.func8, Try.ntmps8
        go_wp2_with (first | ((with_reducible refine gate_callee (f := 9) rfl ?_); refine goesL_ (some 5) rfl rfl Try.func9 (by kernel_rfl) rfl #[.string (⟨#[226, 130]⟩ : ByteArray)] rfl (by (try simp only [List.map_toArray, List.map_cons, List.map_nil]); first | done | rfl | (simp only [List.length_drop, List.length_take]; rfl)) ?_; (with_reducible refine (utf_Decode.calls (⟨#[226, 130]⟩ : ByteArray) t108 t109 true _ A1.out).mono ?_); rintro e w6 ⟨rfl, hb⟩; refine ⟨_, rfl, ?_⟩; have n0_ := Aside0.mk (below_step (by repeat (first | (with_reducible first | exact HB.out | apply below_alloc | apply pw_below_drewN | apply below_drew1) | exact HB.out)) hb); clear HB; have HB := n0_; clear n0_; (try clear hb); (try clear hb2); (try clear hk); (try clear hi)) | ((with_reducible refine gate_callee (f := 14) rfl ?_); refine goesL_ (some 9) rfl rfl Try.func14 (by kernel_rfl) rfl #[.int .i32 252] rfl (by (try simp only [List.map_toArray, List.map_cons, List.map_nil]); first | done | rfl | (simp only [List.length_drop, List.length_take]; rfl)) ?_; (with_reducible refine (utf_Encode.calls 252 t111 _ A2.out).mono ?_); rintro e w' ⟨rfl, ⟨nd, rfl⟩⟩; refine ⟨_, rfl, ?_⟩))
        go_ret
        exact ⟨by first | rfl | (simp [errW_none, errW_some] <;> rfl) | (simp [*, errW_none, errW_some] <;> rfl), by repeat (first | (with_reducible first | exact HB.out | apply below_alloc | apply pw_below_drewN | apply below_drew1) | exact HB.out)⟩
      · replace c5 := Bool.eq_false_iff.mpr c5
        subst c5
        have H1 : ((utf_Count.f k (⟨#[192, 128]⟩ : ByteArray)).bind fun t112 => (if t112 = 2 then ((utf_Valid.f (⟨#[255]⟩ : ByteArray)).bind fun t113 => (some (!t113))) else (some false))) = some r := by rw [if_neg (show ¬ (false = true) by decide)] at H; exact H
        clear H
        have H := H1
        clear H1
        replace H := Option.bind_eq_some_iff.mp H
        obtain ⟨t112, A70, H⟩ := H
        replace H : (if t112 = 2 then ((utf_Valid.f (⟨#[255]⟩ : ByteArray)).bind fun t113 => (some (!t113))) else (some false)) = some r := H
        have A7 := Aside0.mk A70
        clear A70
        by_cases c8 : t112 = 2
        · rw [if_pos c8] at H
          have c8b0 : (t112 == 2) = true := beq_iff_eq.mpr c8
          have c8b1 : (t112 != 2) = false := bne_eq_false_iff_eq.mpr c8
          clear c8
          replace H := Option.bind_eq_some_iff.mp H
          obtain ⟨t113, A90, H⟩ := H
          replace H : (some (!t113)) = some r := H
          have A9 := Aside0.mk A90
          clear A90
          obtain rfl := Option.some.inj H
          go_enter Try.func8, Try.ntmps8
          go_wp2_with (first | ((with_reducible refine gate_callee (f := 9) rfl ?_); refine goesL_ (some 5) rfl rfl Try.func9 (by kernel_rfl) rfl #[.string (⟨#[226, 130]⟩ : ByteArray)] rfl (by (try simp only [List.map_toArray, List.map_cons, List.map_nil]); first | done | rfl | (simp only [List.length_drop, List.length_take]; rfl)) ?_; (with_reducible refine (utf_Decode.calls (⟨#[226, 130]⟩ : ByteArray) t108 t109 false _ A1.out).mono ?_); rintro e w10 ⟨rfl, hb⟩; refine ⟨_, rfl, ?_⟩; have n0_ := Aside0.mk (below_step (by repeat (first | (with_reducible first | exact HB.out | apply below_alloc | apply pw_below_drewN | apply below_drew1) | exact HB.out)) hb); clear HB; have HB := n0_; clear n0_; (try clear hb); (try clear hb2); (try clear hk); (try clear hi)) | ((with_reducible refine gate_callee (f := 14) rfl ?_); refine goesL_ (some 9) rfl rfl Try.func14 (by kernel_rfl) rfl #[.int .i32 252] rfl (by (try simp only [List.map_toArray, List.map_cons, List.map_nil]); first | done | rfl | (simp only [List.length_drop, List.length_take]; rfl)) ?_; (with_reducible refine (utf_Encode.calls 252 t111 _ A2.out).mono ?_); rintro e w' ⟨rfl, ⟨nd, rfl⟩⟩; refine ⟨_, rfl, ?_⟩) | (go_at_call 18; (with_reducible refine (utf_Count.calls k (⟨#[192, 128]⟩ : ByteArray) t112 _ A7.out).mono ?_); rintro e w11 ⟨rfl, hb⟩; have n0_ := Aside0.mk (below_step (by repeat (first | (with_reducible first | exact HB.out | apply below_alloc | apply pw_below_drewN | apply below_drew1) | exact HB.out)) hb); clear HB; have HB := n0_; clear n0_; (try clear hb); (try clear hb2); (try clear hk); (try clear hi)) | (go_at_call 13; (with_reducible refine (utf_Valid.calls (⟨#[255]⟩ : ByteArray) t113 _ A9.out).mono ?_); rintro e w12 ⟨rfl, hb⟩; have n0_ := Aside0.mk (below_step (by repeat (first | (with_reducible first | exact HB.out | apply below_alloc | apply pw_below_drewN | apply below_drew1) | exact HB.out)) hb); clear HB; have HB := n0_; clear n0_; (try clear hb); (try clear hb2); (try clear hk); (try clear hi)))
          go_ret
          exact ⟨by first | rfl | (simp [errW_none, errW_some] <;> rfl) | (simp [*, errW_none, errW_some] <;> rfl), by repeat (first | (with_reducible first | exact HB.out | apply below_alloc | apply pw_below_drewN | apply below_drew1) | exact HB.out)⟩
        · rw [if_neg c8] at H
          have c8b0 : (t112 == 2) = false := beq_eq_false_iff_ne.mpr c8
          have c8b1 : (t112 != 2) = true := bne_iff_ne.mpr c8
          obtain rfl := Option.some.inj H
          go_enter Try.func8, Try.ntmps8
          go_wp2_with (first | ((with_reducible refine gate_callee (f := 9) rfl ?_); refine goesL_ (some 5) rfl rfl Try.func9 (by kernel_rfl) rfl #[.string (⟨#[226, 130]⟩ : ByteArray)] rfl (by (try simp only [List.map_toArray, List.map_cons, List.map_nil]); first | done | rfl | (simp only [List.length_drop, List.length_take]; rfl)) ?_; (with_reducible refine (utf_Decode.calls (⟨#[226, 130]⟩ : ByteArray) t108 t109 false _ A1.out).mono ?_); rintro e w13 ⟨rfl, hb⟩; refine ⟨_, rfl, ?_⟩; have n0_ := Aside0.mk (below_step (by repeat (first | (with_reducible first | exact HB.out | apply below_alloc | apply pw_below_drewN | apply below_drew1) | exact HB.out)) hb); clear HB; have HB := n0_; clear n0_; (try clear hb); (try clear hb2); (try clear hk); (try clear hi)) | ((with_reducible refine gate_callee (f := 14) rfl ?_); refine goesL_ (some 9) rfl rfl Try.func14 (by kernel_rfl) rfl #[.int .i32 252] rfl (by (try simp only [List.map_toArray, List.map_cons, List.map_nil]); first | done | rfl | (simp only [List.length_drop, List.length_take]; rfl)) ?_; (with_reducible refine (utf_Encode.calls 252 t111 _ A2.out).mono ?_); rintro e w' ⟨rfl, ⟨nd, rfl⟩⟩; refine ⟨_, rfl, ?_⟩) | (go_at_call 18; (with_reducible refine (utf_Count.calls k (⟨#[192, 128]⟩ : ByteArray) t112 _ A7.out).mono ?_); rintro e w14 ⟨rfl, hb⟩; have n0_ := Aside0.mk (below_step (by repeat (first | (with_reducible first | exact HB.out | apply below_alloc | apply pw_below_drewN | apply below_drew1) | exact HB.out)) hb); clear HB; have HB := n0_; clear n0_; (try clear hb); (try clear hb2); (try clear hk); (try clear hi)))
          go_ret
          exact ⟨by first | rfl | (simp [errW_none, errW_some] <;> rfl) | (simp [*, errW_none, errW_some] <;> rfl), by repeat (first | (with_reducible first | exact HB.out | apply below_alloc | apply pw_below_drewN | apply below_drew1) | exact HB.out)⟩
    · rw [if_neg c4] at H
      have c4b0 : (t109 == 2) = false := beq_eq_false_iff_ne.mpr c4
      have c4b1 : (t109 != 2) = true := bne_iff_ne.mpr c4
      obtain rfl := Option.some.inj H
      go_enter Try.func8, Try.ntmps8
      go_wp2_with (first | ((with_reducible refine gate_callee (f := 9) rfl ?_); refine goesL_ (some 5) rfl rfl Try.func9 (by kernel_rfl) rfl #[.string (⟨#[226, 130]⟩ : ByteArray)] rfl (by (try simp only [List.map_toArray, List.map_cons, List.map_nil]); first | done | rfl | (simp only [List.length_drop, List.length_take]; rfl)) ?_; (with_reducible refine (utf_Decode.calls (⟨#[226, 130]⟩ : ByteArray) t108 t109 t110 _ A1.out).mono ?_); rintro e w15 ⟨rfl, hb⟩; refine ⟨_, rfl, ?_⟩; have n0_ := Aside0.mk (below_step (by repeat (first | (with_reducible first | exact HB.out | apply below_alloc | apply pw_below_drewN | apply below_drew1) | exact HB.out)) hb); clear HB; have HB := n0_; clear n0_; (try clear hb); (try clear hb2); (try clear hk); (try clear hi)) | ((with_reducible refine gate_callee (f := 14) rfl ?_); refine goesL_ (some 9) rfl rfl Try.func14 (by kernel_rfl) rfl #[.int .i32 252] rfl (by (try simp only [List.map_toArray, List.map_cons, List.map_nil]); first | done | rfl | (simp only [List.length_drop, List.length_take]; rfl)) ?_; (with_reducible refine (utf_Encode.calls 252 t111 _ A2.out).mono ?_); rintro e w' ⟨rfl, ⟨nd, rfl⟩⟩; refine ⟨_, rfl, ?_⟩))
      go_ret
      exact ⟨by first | rfl | (simp [errW_none, errW_some] <;> rfl) | (simp [*, errW_none, errW_some] <;> rfl), by repeat (first | (with_reducible first | exact HB.out | apply below_alloc | apply pw_below_drewN | apply below_drew1) | exact HB.out)⟩
  · rw [if_neg c3] at H
    have c3b0 : (t111.toList == ([195, 188] : List UInt8)) = false := beq_eq_false_iff_ne.mpr c3
    have c3b1 : (t111.toList != ([195, 188] : List UInt8)) = true := bne_iff_ne.mpr c3
    obtain rfl := Option.some.inj H
    go_enter Try.func8, Try.ntmps8
    go_wp2_with (first | ((with_reducible refine gate_callee (f := 9) rfl ?_); refine goesL_ (some 5) rfl rfl Try.func9 (by kernel_rfl) rfl #[.string (⟨#[226, 130]⟩ : ByteArray)] rfl (by (try simp only [List.map_toArray, List.map_cons, List.map_nil]); first | done | rfl | (simp only [List.length_drop, List.length_take]; rfl)) ?_; (with_reducible refine (utf_Decode.calls (⟨#[226, 130]⟩ : ByteArray) t108 t109 t110 _ A1.out).mono ?_); rintro e w16 ⟨rfl, hb⟩; refine ⟨_, rfl, ?_⟩; have n0_ := Aside0.mk (below_step (by repeat (first | (with_reducible first | exact HB.out | apply below_alloc | apply pw_below_drewN | apply below_drew1) | exact HB.out)) hb); clear HB; have HB := n0_; clear n0_; (try clear hb); (try clear hb2); (try clear hk); (try clear hi)) | ((with_reducible refine gate_callee (f := 14) rfl ?_); refine goesL_ (some 9) rfl rfl Try.func14 (by kernel_rfl) rfl #[.int .i32 252] rfl (by (try simp only [List.map_toArray, List.map_cons, List.map_nil]); first | done | rfl | (simp only [List.length_drop, List.length_take]; rfl)) ?_; (with_reducible refine (utf_Encode.calls 252 t111 _ A2.out).mono ?_); rintro e w' ⟨rfl, ⟨nd, rfl⟩⟩; refine ⟨_, rfl, ?_⟩))
    go_ret
    exact ⟨by first | rfl | (simp [errW_none, errW_some] <;> rfl) | (simp [*, errW_none, errW_some] <;> rfl), by repeat (first | (with_reducible first | exact HB.out | apply below_alloc | apply pw_below_drewN | apply below_drew1) | exact HB.out)⟩

-- NOT PRINTED: function 28 (monikerref02_row)

-- NOT PRINTED: function 29 (monikerref02_fits)

end Go.Proofs.Ytedaalklakokkaa.PAll
