/- Plain facts on UTF-8 as lists of byte values: what begins a text, its pieces, its repair. No condition but those that each names. -/
import Derived.Test.YtedaalklakokkaaPAllx2
import Derived.Test.YtedaalklakokkaaBy
namespace Go.Proofs.Ytedaalklakokkaa.P02
open Go.RowKit Go.Proofs.Ytedaalklakokkaa.PAll Go.Proofs.Ytedaalklakokkaa.By Go.Proofs.YtedaalklakokkaaW.PrintWords Go.Proofs.YtedaalklakokkaaW.PrintLast
set_option linter.unusedVariables false

theorem w64 {x : Int} (h : 0 ≤ x) (h2 : x < 9223372036854775808) : wrap64 x = x := by unfold wrap64; omega
def Byt (l : List Int) : Prop := ∀ x ∈ l, 0 ≤ x ∧ x ≤ 255
theorem byt_drop {l : List Int} (h : Byt l) (n : Nat) : Byt (l.drop n) := fun x hx => h x (List.mem_of_mem_drop hx)
theorem byt_take {l : List Int} (h : Byt l) (n : Nat) : Byt (l.take n) := fun x hx => h x (List.mem_of_mem_take hx)
theorem byt_app {a b : List Int} (h : Byt a) (h2 : Byt b) : Byt (a ++ b) := fun x hx => (List.mem_append.1 hx).elim (h x) (h2 x)
theorem byt_of (s : ByteArray) : Byt (bytesOf s) := bytes_range s

/-- The bytes of a scalar value. -/
def encI (r : Int) : List Int :=
  if r < 128 then [r] else if r < 2048 then [192 + r / 64, 128 + r % 64] else if r < 65536 then [224 + r / 4096, 128 + r / 64 % 64, 128 + r % 64]
  else [240 + r / 262144, 128 + r / 4096 % 64, 128 + r / 64 % 64, 128 + r % 64]
theorem sca_iff (r : Int) : scaB r = true ↔ (0 ≤ r ∧ r ≤ 55295) ∨ (57344 ≤ r ∧ r ≤ 1114111) := by unfold scaB; exact decide_eq_true_iff

theorem dec_nil : dec [] = (0, 0, false) := by simp [dec, frontI]
theorem dec1 (a : Int) (t : List Int) (h : a < 128) : dec (a :: t) = (a, 1, true) := by
  have e : shp a = (1, 0, 0) := by unfold shp; rw [if_pos h]
  simp [dec, frontI, e, valI]
theorem inr_1 (a b : Int) (t : List Int) (lo hi : Int) : inr (a :: b :: t) 1 lo hi = decide (lo ≤ b ∧ b ≤ hi) := rfl
theorem inr_2 (a b c : Int) (t : List Int) (lo hi : Int) : inr (a :: b :: c :: t) 2 lo hi = decide (lo ≤ c ∧ c ≤ hi) := rfl
theorem inr_3 (a b c d : Int) (t : List Int) (lo hi : Int) : inr (a :: b :: c :: d :: t) 3 lo hi = decide (lo ≤ d ∧ d ≤ hi) := rfl
theorem dec2 (a b : Int) (t : List Int) (h : 194 ≤ a ∧ a ≤ 223) (h2 : 128 ≤ b ∧ b ≤ 191) : dec (a :: b :: t) = ((a - 192) * 64 + (b - 128), 2, true) := by
  have e : shp a = (2, 128, 191) := by unfold shp; rw [if_neg (by omega), if_pos h]
  simp [dec, frontI, e, valI, inr_1, h2]
theorem dec3 (a b c : Int) (t : List Int) (h : 224 ≤ a ∧ a ≤ 239) (h2 : (128 ≤ b ∧ b ≤ 191) ∧ (a = 224 → 160 ≤ b) ∧ (a = 237 → b ≤ 159)) (h3 : 128 ≤ c ∧ c ≤ 191) :
    dec (a :: b :: c :: t) = ((a - 224) * 4096 + (b - 128) * 64 + (c - 128), 3, true) := by
  have e : ∃ lo hi, shp a = (3, lo, hi) ∧ lo ≤ b ∧ b ≤ hi := by
    by_cases a1 : a = 224
    · exact ⟨160, 191, by rw [a1]; rfl, h2.2.1 a1, h2.1.2⟩
    by_cases a2 : a = 237
    · exact ⟨128, 159, by rw [a2]; rfl, h2.1.1, h2.2.2 a2⟩
    · exact ⟨128, 191, by unfold shp; rw [if_neg (by omega), if_neg (by omega), if_neg a1, if_neg a2, if_pos (by omega)], h2.1⟩
  obtain ⟨lo, hi, e, h4⟩ := e
  simp [dec, frontI, e, valI, inr_1, inr_2, h4, h3]
theorem dec4 (a b c d : Int) (t : List Int) (h : 240 ≤ a ∧ a ≤ 244) (h2 : (128 ≤ b ∧ b ≤ 191) ∧ (a = 240 → 144 ≤ b) ∧ (a = 244 → b ≤ 143)) (h3 : 128 ≤ c ∧ c ≤ 191) (h4 : 128 ≤ d ∧ d ≤ 191) :
    dec (a :: b :: c :: d :: t) = ((a - 240) * 262144 + (b - 128) * 4096 + (c - 128) * 64 + (d - 128), 4, true) := by
  have e : ∃ lo hi, shp a = (4, lo, hi) ∧ lo ≤ b ∧ b ≤ hi := by
    by_cases a1 : a = 240
    · exact ⟨144, 191, by rw [a1]; rfl, h2.2.1 a1, h2.1.2⟩
    by_cases a2 : a = 244
    · exact ⟨128, 143, by rw [a2]; rfl, h2.1.1, h2.2.2 a2⟩
    · exact ⟨128, 191, by unfold shp; rw [if_neg (by omega), if_neg (by omega), if_neg (by omega), if_neg (by omega), if_neg (by omega), if_neg a1, if_neg a2, if_pos (by omega)], h2.1⟩
  obtain ⟨lo, hi, e, h5⟩ := e
  simp [dec, frontI, e, valI, inr_1, inr_2, inr_3, h5, h3, h4]
/-- A scalar value's bytes, read: itself, whatever stands behind. -/
theorem dec_enc (r : Int) (t : List Int) (h : scaB r = true) : dec (encI r ++ t) = (r, ((encI r).length : Int), true) := by
  rw [sca_iff] at h
  unfold encI
  by_cases c1 : r < 128
  · simp only [c1, if_true, List.cons_append, List.nil_append]
    rw [dec1 r t c1]; rfl
  by_cases c2 : r < 2048
  · simp only [c1, c2, if_true, if_false, List.cons_append, List.nil_append]
    rw [dec2 _ _ t (by omega) (by omega)]
    refine Prod.ext ?_ rfl
    simp only; omega
  by_cases c3 : r < 65536
  · simp only [c1, c2, c3, if_true, if_false, List.cons_append, List.nil_append]
    rw [dec3 _ _ _ t (by omega) (by omega) (by omega)]
    refine Prod.ext ?_ rfl
    simp only; omega
  · simp only [c1, c2, c3, if_false, List.cons_append, List.nil_append]
    rw [dec4 _ _ _ _ t (by omega) (by omega) (by omega) (by omega)]
    refine Prod.ext ?_ rfl
    simp only; omega
theorem enc_pos (r : Int) : 1 ≤ (encI r).length ∧ (encI r).length ≤ 4 := by
  unfold encI
  repeat' split
  all_goals simp
theorem enc_byt (r : Int) (h : scaB r = true) : Byt (encI r) := by
  rw [sca_iff] at h
  unfold encI
  repeat' split
  all_goals
    intro x hx
    simp at hx
    omega
/-- What begins a text and is a code point: a scalar value by its bytes. -/
theorem dec_good (l : List Int) (hl : Byt l) (h : (dec l).2.2 = true) : scaB (dec l).1 = true ∧ l.take (dec l).2.1.toNat = encI (dec l).1 ∧ (dec l).2.1 = ((encI (dec l).1).length : Int) := by
  rcases front_shape l hl with k | ⟨k, hk, b0⟩ | ⟨k, hk, b0, b1⟩ | ⟨k, hk, b0, b1, b2⟩ | ⟨k, hk, b0, b1, b2, b3⟩
  · unfold dec at h; rw [if_pos (by omega)] at h; cases h
  · match l, hk with
    | a :: t, _ =>
      simp only [List.getD_cons_zero] at b0
      have := hl a (by simp)
      rw [dec1 a t b0, sca_iff]
      simp only
      unfold encI
      rw [if_pos b0]
      exact ⟨by omega, rfl, rfl⟩
  · match l, hk with
    | a :: b :: t, _ =>
      simp at b0 b1
      rw [dec2 a b t b0 b1, sca_iff]
      simp only
      generalize hr : (a - 192) * 64 + (b - 128) = r
      unfold encI
      rw [if_neg (by omega), if_pos (by omega)]
      refine ⟨by omega, ?_, rfl⟩
      show [a, b] = _
      congr 1; omega
      congr 1; omega
  · match l, hk with
    | a :: b :: c :: t, _ =>
      simp at b0 b1 b2
      rw [dec3 a b c t b0 b1 b2, sca_iff]
      simp only
      generalize hr : (a - 224) * 4096 + (b - 128) * 64 + (c - 128) = r
      unfold encI
      rw [if_neg (by omega), if_neg (by omega), if_pos (by omega)]
      refine ⟨by omega, ?_, rfl⟩
      show [a, b, c] = _
      congr 1; omega
      congr 1; omega
      congr 1; omega
  · match l, hk with
    | a :: b :: c :: d :: t, _ =>
      simp at b0 b1 b2 b3
      rw [dec4 a b c d t b0 b1 b2 b3, sca_iff]
      simp only
      generalize hr : (a - 240) * 262144 + (b - 128) * 4096 + (c - 128) * 64 + (d - 128) = r
      unfold encI
      rw [if_neg (by omega), if_neg (by omega), if_neg (by omega)]
      refine ⟨by omega, ?_, rfl⟩
      show [a, b, c, d] = _
      congr 1; omega
      congr 1; omega
      congr 1; omega
      congr 1; omega
/-- Something begins each text. -/
theorem dec_len (l : List Int) (hl : Byt l) (h : l ≠ []) : 1 ≤ (dec l).2.1 ∧ (dec l).2.1 ≤ l.length ∧ (dec l).2.1 ≤ 4 := by
  cases hk : (dec l).2.2 with
  | true => have := dec_ok_pos l hl hk; omega
  | false =>
    have hlen : ∀ k lo hi, inr l k lo hi = true → k < l.length := by
      intro k lo hi h
      unfold inr at h
      by_cases hk : k < l.length
      · exact hk
      · rw [List.getElem?_eq_none (by omega)] at h; cases h
    have hp : 1 ≤ l.length := by cases l with | nil => exact absurd rfl h | cons a t => simp
    have key : 1 ≤ (frontI l).1 ∧ (frontI l).1 ≤ l.length ∧ (frontI l).1 ≤ 4 := by
      unfold frontI
      rw [if_neg h]
      simp only
      split
      · simp; omega
      split
      · simp; omega
      split
      · rename_i i1
        have := hlen _ _ _ i1
        split
        · simp; omega
        split
        · rename_i i2
          have := hlen _ _ _ i2
          split
          · simp; omega
          split
          · rename_i i3
            have := hlen _ _ _ i3
            simp; omega
          · simp; omega
        · simp; omega
      · simp; omega
    unfold dec at hk ⊢
    split at hk
    · rename_i c; rw [if_pos c]; exact key
    · cases hk
/-- A code point is read alike, whatever stands behind it. -/
theorem dec_app (l t : List Int) (hl : Byt l) (h : (dec l).2.2 = true) : dec (l ++ t) = dec l := by
  obtain ⟨h1, h2, h3⟩ := dec_good l hl h
  have e : l ++ t = encI (dec l).1 ++ (l.drop (dec l).2.1.toNat ++ t) := by
    rw [← h2, ← List.append_assoc, List.take_append_drop]
  rw [e, dec_enc _ _ h1, ← h3, ← h]
end Go.Proofs.Ytedaalklakokkaa.P02
