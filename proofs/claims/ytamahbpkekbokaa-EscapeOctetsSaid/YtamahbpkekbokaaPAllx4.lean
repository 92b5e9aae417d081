-- SPLICED by sprint.py: out of the kit's printer, with some functions by this session's own texts. No printed file. Lean checks it.
import Derived.Test.YtamahbpkekbokaaPAllx0
import Derived.Test.YtamahbpkekbokaaPAllx1
import Derived.Test.YtamahbpkekbokaaPAllx2
import Derived.Test.YtamahbpkekbokaaPAllx3
namespace Go.Proofs.Ytamahbpkekbokaa.PAll
open Go.RowKit Go.Proofs.YtamahbpkekbokaaW.PrintWords Go.Proofs.YtamahbpkekbokaaW.PrintLast Go.Proofs.YtamahbpkekbokaaW.PrintMore
attribute [local go_sem] max2_int min2_int max_two min_two max_three min_three max_four min_four   -- for this text's walks alone
set_option linter.unusedVariables false
set_option linter.unusedSimpArgs false

/-! ### what stands at a place -/
def hexV (b : Int) : Option Int := if 48 ≤ b ∧ b ≤ 57 then some (b - 48) else if 97 ≤ b ∧ b ≤ 102 then some (b - 87) else if 65 ≤ b ∧ b ≤ 70 then some (b - 55) else none
def tellV : Option Int → Int × Bool
  | some v => (v, true)
  | none => (0, false)
/-- The octet of the escape at a place. -/
def atV (s : ByteArray) (i : Nat) : Option Int :=
  if i + 3 ≤ s.size ∧ bt s i = 37 then (match hexV (bt s ((i + 1 : Nat) : Int)), hexV (bt s ((i + 2 : Nat) : Int)) with
    | some a, some b => some (16 * a + b)
    | _, _ => none) else none
theorem value_all : ∀ n : Fin 256, octet_Value.f 20 (n.val : Int) = some (tellV (hexV (n.val : Int))) := by decide +kernel
theorem value_eq {b : Int} (h0 : 0 ≤ b) (h1 : b ≤ 255) : octet_Value.f 20 b = some (tellV (hexV b)) := by
  have := value_all ⟨b.toNat, by omega⟩
  rwa [show ((b.toNat : Nat) : Int) = b by omega] at this
theorem hexV_range {b v : Int} (h : hexV b = some v) : 0 ≤ v ∧ v ≤ 15 := by
  unfold hexV at h
  split at h
  · obtain rfl := Option.some.inj h; omega
  split at h
  · obtain rfl := Option.some.inj h; omega
  split at h
  · obtain rfl := Option.some.inj h; omega
  · cases h
theorem join_all : ∀ a b : Fin 16, (Go.bits .or .i64 (wrap64 ((a.val : Int) * 16)) (b.val : Int)) % 256 = 16 * (a.val : Int) + b.val := by decide +kernel
theorem join_eq {a b : Int} (ha : 0 ≤ a ∧ a ≤ 15) (hb : 0 ≤ b ∧ b ≤ 15) : (Go.bits .or .i64 (wrap64 (a * 16)) b) % 256 = 16 * a + b := by
  have := join_all ⟨a.toNat, by omega⟩ ⟨b.toNat, by omega⟩
  rwa [show ((a.toNat : Nat) : Int) = a by omega, show ((b.toNat : Nat) : Int) = b by omega] at this
theorem atV_range {s : ByteArray} {i : Nat} {v : Int} (h : atV s i = some v) : i + 3 ≤ s.size ∧ 0 ≤ v ∧ v ≤ 255 := by
  unfold atV at h
  split at h
  · rename_i hc
    cases ha : hexV (bt s ((i + 1 : Nat) : Int)) with
    | none => rw [ha] at h; cases h
    | some a =>
      cases hb : hexV (bt s ((i + 2 : Nat) : Int)) with
      | none => rw [ha, hb] at h; cases h
      | some b =>
        rw [ha, hb] at h
        obtain rfl := Option.some.inj h
        have := hexV_range ha
        have := hexV_range hb
        exact ⟨hc.1, by omega, by omega⟩
  · cases h
theorem w64e {x : Int} (h1 : -9223372036854775808 ≤ x) (h2 : x ≤ 9223372036854775807) : wrap64 x = x := by unfold wrap64; omega
theorem at_eq (s : ByteArray) (i : Nat) (hs : s.size ≤ 140737488355328) (hi : i ≤ 140737488355328) : escape_At.f 30 s (i : Int) = some (tellV (atV s i)) := by
  have hw : wrap64 ((s.size : Int) - 3) = (s.size : Int) - 3 := w64e (by omega) (by omega)
  have hw1 : wrap64 ((i : Int) + 1) = ((i + 1 : Nat) : Int) := by rw [w64e (by omega) (by omega)]; omega
  have hw2 : wrap64 ((i : Int) + 2) = ((i + 2 : Nat) : Int) := by rw [w64e (by omega) (by omega)]; omega
  have hv := fun x => value_eq (bt_range s x).1 (bt_range s x).2
  unfold escape_At.f
  rw [if_neg (by omega), hw]
  by_cases h3 : i + 3 ≤ s.size
  · rw [if_neg (by omega), if_pos (by omega), if_pos (by omega)]
    by_cases h37 : bt s (i : Int) = 37
    · rw [bne_eq_false_iff_eq.2 h37]
      have e : escape_At.j0 30 s (i : Int) false = escape_At.j0 (29 + 1) s (i : Int) false := rfl
      rw [e]
      have hv29 := fun x => at_rounds (g := fun k => octet_Value.f k (bt s x)) (fun k => octet_Value.mono _ k) (show 20 ≤ 29 by decide) (hv x)
      simp only [escape_At.j0, Bool.false_eq_true, if_false, hw1, hw2]
      rw [if_pos (by omega), if_pos (by omega), hv29]
      simp only [Option.bind_some]
      rw [if_pos (by omega), if_pos (by omega), hv29]
      simp only [Option.bind_some]
      unfold atV
      rw [if_pos (show i + 3 ≤ s.size ∧ bt s (i : Int) = 37 from ⟨h3, h37⟩)]
      cases ha : hexV (bt s ((i + 1 : Nat) : Int)) with
      | none =>
        cases hb : hexV (bt s ((i + 2 : Nat) : Int)) <;> rfl
      | some a =>
        cases hb : hexV (bt s ((i + 2 : Nat) : Int)) with
        | none => rfl
        | some b =>
          simp only [tellV, if_true]
          rw [join_eq (hexV_range ha) (hexV_range hb)]
    · rw [bne_iff_ne.2 h37]
      have e : escape_At.j0 30 s (i : Int) true = escape_At.j0 (29 + 1) s (i : Int) true := rfl
      rw [e]
      simp only [escape_At.j0, if_true]
      unfold atV
      rw [if_neg (fun h => h37 h.2)]
      rfl
  · rw [if_pos (by omega)]
    have e : escape_At.j0 30 s (i : Int) true = escape_At.j0 (29 + 1) s (i : Int) true := rfl
    rw [e]
    simp only [escape_At.j0, if_true]
    unfold atV
    rw [if_neg (fun h => h3 h.1)]
    rfl
theorem at_calls (s : ByteArray) (i : Nat) (hs : s.size ≤ 140737488355328) (hi : i ≤ 140737488355328) (w : World) :
    Calls Try.prog 12 #[.string s, .int .i64 i] w fun e w' => e = .returned (.tuple #[.int .u8 (tellV (atV s i)).1, .bool (tellV (atV s i)).2]) ∧ Drawn0 w w' := by
  have h := at_eq s i hs hi
  rw [show tellV (atV s i) = ((tellV (atV s i)).1, (tellV (atV s i)).2) from rfl] at h
  exact escape_At.calls 30 s i _ _ w h
/-! ### the places of a text's escapes -/
def escL (s : ByteArray) : Nat → Nat → List (Nat × Int)
  | 0, _ => []
  | f + 1, i => if i < s.size then (match atV s i with
    | some b => (i, b) :: escL s f (i + 3)
    | none => escL s f (i + 1)) else []
theorem escL_fuel (s : ByteArray) : ∀ (f g i : Nat), s.size ≤ i + f → s.size ≤ i + g → escL s f i = escL s g i
  | 0, 0, i, _, _ => rfl
  | 0, g + 1, i, h, _ => by simp only [escL]; rw [if_neg (by omega)]
  | f + 1, 0, i, _, h => by simp only [escL]; rw [if_neg (by omega)]
  | f + 1, g + 1, i, hf, hg => by
    simp only [escL]
    by_cases hi : i < s.size
    · rw [if_pos hi, if_pos hi]
      cases atV s i with
      | none => exact escL_fuel s f g (i + 1) (by omega) (by omega)
      | some b => simp only; rw [escL_fuel s f g (i + 3) (by omega) (by omega)]
    · rw [if_neg hi, if_neg hi]
/-- The escapes from a place on. -/
def esc (s : ByteArray) (i : Nat) : List (Nat × Int) := escL s (s.size + 1) i
theorem esc_some {s : ByteArray} {i : Nat} {b : Int} (h : atV s i = some b) : esc s i = (i, b) :: esc s (i + 3) := by
  have := (atV_range h).1
  unfold esc
  rw [show escL s (s.size + 1) i = _ from rfl, escL, if_pos (by omega), h]
  simp only
  rw [escL_fuel s s.size (s.size + 1) (i + 3) (by omega) (by omega)]
theorem esc_none {s : ByteArray} {i : Nat} (hi : i < s.size) (h : atV s i = none) : esc s i = esc s (i + 1) := by
  unfold esc
  rw [show escL s (s.size + 1) i = _ from rfl, escL, if_pos hi, h]
  simp only
  rw [escL_fuel s s.size (s.size + 1) (i + 1) (by omega) (by omega)]
theorem esc_end {s : ByteArray} {i : Nat} (hi : s.size ≤ i) : esc s i = [] := by
  unfold esc
  rw [escL, if_neg (by omega)]
/-- Which round may come next. -/
def Next (s : ByteArray) (pre : List (Nat × Int)) (x : Nat × Int) : Prop := ∃ rest, esc s 0 = pre ++ x :: rest
def encs (x : Nat × Int) : Array Value := #[.int .i64 (x.1 : Int), .int .u8 x.2]
/-- The iterator's box lies as it lay. -/
def Kb (Bs : Nat) (s : ByteArray) (W W' : World) : Prop := W.cell? ⟨Bs, 0, none⟩ = some (.string s) → W'.cell? ⟨Bs, 0, none⟩ = some (.string s)
section
attribute [local go_sem] Oper.semAt_some
set_option maxRecDepth 100000 in
set_option maxHeartbeats 2000000 in
/-- The iterator. -/
theorem all1_in (n : Nat) (hn : 1 ≤ n) (l Bs : Nat) (s : ByteArray) (hs : s.size ≤ 1048576) (J Jx : List (Nat × Int) → World → Prop) (B : Nat) (hJ : AbidesFrom B J)
    (hY : ∀ pre x W1, J pre W1 → Next s pre x → YieldAt Fence.wide (n - 1) Try.prog l (encs x) W1 fun e W' =>
      (e = .returned (.bool true) ∧ J (pre ++ [x]) W' ∧ Kb Bs s W1 W') ∨ (e = .returned (.bool false) ∧ Jx (pre ++ [x]) W'))
    (W : World) (hBs : W.cell? ⟨Bs, 0, none⟩ = some (.string s)) (h0 : J [] W) :
    CallsIn Fence.wide n Try.prog 35 #[.func (.yield l) #[] #[], .pointer (some ⟨Bs, 0, none⟩)] W fun e W' => (∃ v, e = .returned v) ∧
      ((∃ ys, ys = esc s 0 ∧ J ys W') ∨ (∃ pre, pre <+: esc s 0 ∧ Jx pre W')) := by
  refine callsIn_of_wp Try.func35 rfl trivial ?_ rfl
  simp only [Try.ntmps35, List.size_toArray, List.length_cons, List.length_nil, Nat.reduceAdd, Nat.reduceSub, Array.replicate_succ, Array.replicate_zero, List.push_toArray, List.append_toArray, List.nil_append, List.cons_append]
  gi_wp2
  gi_loopw [3] (fun v3 wr => ∃ (k : Nat) (pre : List (Nat × Int)), v3 = .int .i64 k ∧ Aside0 (esc s 0 = pre ++ esc s k) ∧ Aside0 (k ≤ s.size) ∧ J pre wr ∧ wr.cell? ⟨Bs, 0, none⟩ = some (.string s))
    (fun v3 _ => s.size + 3 - (intOf v3).toNat)
  case atStart => exact ⟨0, [], rfl, ⟨rfl⟩, ⟨Nat.zero_le _⟩, h0, hBs⟩
  case round =>
    obtain ⟨k, pre, rfl, HE, HK, hJs, hc⟩ := hrel
    have hk := HK.out
    by_cases hlt : k < s.size
    · have HA := Aside0.mk (fun w => callsIn_wide (n := n - 1).2 (at_calls s k (by omega) (by omega) w))
      cases ha : atV s k with
      | none =>
        rw [ha, show tellV none = (0, false) from rfl] at HA
        have HN := Aside0.mk (esc_none hlt ha)
        gi_wp2_with (refine ⟨trivial, ?_⟩; gi_at_call 12; refine (HA.out _).mono ?_; rintro e w' ⟨rfl, ⟨m, rfl⟩⟩)
        have hJd := hJ pre wr (wr.drewN m) none hJs (grown_of_below (pw_below_drewN (Below.refl _ _) _) none) (fun r e => by cases e)
        go_roundw
        case rel => exact ⟨k + 1, pre, by go_num, ⟨by rw [HE.out, HN.out]⟩, ⟨by omega⟩, hJd, hc⟩
        case measure => simp [intOf]; omega
      | some b =>
        rw [ha, show tellV (some b) = (b, true) from rfl] at HA
        have HN := Aside0.mk (esc_some ha)
        have hr := (atV_range ha).1
        clear ha
        gi_wp2_with (refine ⟨trivial, ?_⟩; gi_at_call 12; refine (HA.out _).mono ?_; rintro e w' ⟨rfl, ⟨m, rfl⟩⟩)
        have hJd := hJ pre wr (wr.drewN m) none hJs (grown_of_below (pw_below_drewN (Below.refl _ _) _) none) (fun r e => by cases e)
        obtain ⟨fn, tmps, assign, body, hy, hR⟩ := hY pre (k, b) (wr.drewN m) hJd ⟨esc s (k + 3), by rw [HE.out, HN.out]⟩
        dsimp only [encs] at hy
        rw [hy, Oper.uponIn_round]
        refine ⟨fun _ => hn, hR.mono ?_⟩
        rintro e W3 (⟨rfl, hJ3, hk3⟩ | ⟨rfl, hJx3⟩)
        · gi_wp2
          have hc3 := hk3 hc
          go_roundw
          case rel => exact ⟨k + 3, pre ++ [(k, b)], by (try simp only [Value.int.injEq, true_and]); omega, ⟨by rw [HE.out, HN.out]; simp⟩, ⟨by omega⟩, hJ3, hc3⟩
          case measure => simp [intOf]; omega
        · gi_wp2
          refine bodyPost_ret (results_none rfl _ _ _) rfl ?_
          exact ⟨⟨_, rfl⟩, .inr ⟨pre ++ [(k, b)], ⟨esc s (k + 3), by rw [HE.out, HN.out]; simp⟩, hJx3⟩⟩
    · obtain rfl : k = s.size := by omega
      gi_wp2
      go_end0
      exact ⟨⟨_, rfl⟩, .inl ⟨pre, by rw [HE.out, esc_end (Nat.le_refl _), List.append_nil], hJs⟩⟩
theorem all_calls (n : Nat) (s : ByteArray) (w : World) :
    CallsIn Fence.wide n Try.prog 30 #[.string s] w fun e w' => e = .returned (.func (.func 35) #[] #[.pointer (some ⟨w.heap.size, 0, none⟩)]) ∧ w' = w.alloc (.cells #[.string s] 9) := by
  refine callsIn_of_wp Try.func30 rfl trivial ?_ rfl
  simp only [Try.ntmps30, List.size_toArray, List.length_cons, List.length_nil, Nat.reduceAdd, Nat.reduceSub, Array.replicate_succ, Array.replicate_zero, List.push_toArray, List.append_toArray, List.nil_append, List.cons_append]
  gi_wp2
  go_ret
  exact ⟨rfl, rfl⟩
theorem all_stops (n : Nat) (hn : 1 ≤ n) (Bs : Nat) (s : ByteArray) (hs : s.size ≤ 1048576) (w : World) (hc : w.cell? ⟨Bs, 0, none⟩ = some (.string s)) :
    Rg.Stops n Try.prog 35 #[.pointer (some ⟨Bs, 0, none⟩)] encs (Next s) (Kb Bs s) (fun ys => ys = esc s 0) (fun pre => pre <+: esc s 0) w := fun l J Jx W hW hJ hJx hY h0 =>
  all1_in n hn l Bs s hs J Jx _ hJ hY W (pw_cell_below hW hc) h0
end
theorem kb_t {Bs : Nat} {s : ByteArray} {A B C : World} (h : Kb Bs s A B) (k : Kb Bs s B C) : Kb Bs s A C := fun e => k (h e)
theorem kb_b {Bs : Nat} {s : ByteArray} (W : World) (l : Nat) (o o' : Obj) (hl : W.heap[l]? = some o) (ho : o.isCells = false) : Kb Bs s W (W.putObj l o') := fun e =>
  cell_kept e (grownBy_putObj' W l o') (fun r er => by cases er; exact ⟨o, hl, ho⟩)
theorem kb_set {Bs : Nat} {s : ByteArray} {W : World} {p : Addr} {v : Value} (h : Bs ≠ p.block) : Kb Bs s W (W.setCell p v) := fun e => by
  unfold World.cell? at e ⊢
  rw [Below.heap_setCell W p v Bs h]
  exact e
theorem kb_below {Bs : Nat} {s : ByteArray} {W W' : World} (h : Below W.heap.size W W') : Kb Bs s W W' := fun e => pw_cell_below h e
/-! ### is there a percent sign? -/
/-- No percent sign from place a to place b. -/
def noP (s : ByteArray) (a b : Nat) : Bool := decide (∀ j, j < b → a ≤ j → bt s (j : Int) ≠ 37)
theorem find_from (s : ByteArray) (hs : s.size ≤ 1048576) : ∀ (d i k : Nat), i + d = s.size → 4 * d + 4 < k → ∃ r, octet_Find.l0 k s ⟨#[37]⟩ (i : Int) = some r ∧ decide (0 ≤ r) = !noP s i s.size := by
  intro d
  induction d with
  | zero =>
    intro i k hi hk
    obtain ⟨k, rfl⟩ : ∃ m, k = m + 1 := ⟨k - 1, by omega⟩
    refine ⟨-1, by simp only [octet_Find.l0]; rw [if_neg (by omega)], ?_⟩
    have : noP s i s.size = true := decide_eq_true (fun j h1 h2 => by omega)
    rw [this]; rfl
  | succ d ih =>
    intro i k hi hk
    obtain ⟨k, rfl⟩ : ∃ m, k = m + 3 := ⟨k - 3, by omega⟩
    have hz : (⟨#[37]⟩ : ByteArray).size = 1 := rfl
    have hb : bt (⟨#[37]⟩ : ByteArray) 0 = 37 := rfl
    have w0 : wrap64 ((0 : Int) + 1) = 1 := by unfold wrap64; omega
    have w1 : wrap64 ((i : Int) + 1) = ((i + 1 : Nat) : Int) := by unfold wrap64; omega
    simp only [octet_Find.l0, octet_Find.l1, hz, hb]
    by_cases h37 : bt s (i : Int) = 37
    · refine ⟨(i : Int), ?_, ?_⟩
      · rw [if_pos (by omega), if_pos (by omega), if_pos (by omega), if_pos (by omega), if_pos (by omega), if_pos (by omega), if_pos h37]
      · have : noP s i s.size = false := decide_eq_false (fun h => h i (by omega) (Nat.le_refl _) h37)
        rw [this]
        exact decide_eq_true (by omega)
    · obtain ⟨r, hr, hd⟩ := ih (i + 1) k (by omega) (by omega)
      refine ⟨r, ?_, ?_⟩
      · rw [if_pos (by omega), if_pos (by omega), if_pos (by omega), if_pos (by omega), if_pos (by omega), if_pos (by omega), if_neg h37, w0]
        rw [if_neg (by omega), w1]
        exact hr
      · rw [hd]
        have : noP s (i + 1) s.size = noP s i s.size := by
          unfold noP
          rw [decide_eq_decide]
          exact ⟨fun h j h1 h2 => by
            by_cases e : j = i
            · rw [e]; exact h37
            · exact h j h1 (by omega), fun h j h1 h2 => h j h1 (by omega)⟩
        rw [this]
theorem find_calls (s : ByteArray) (hs : s.size ≤ 1048576) (i : Nat) (hi : i ≤ s.size) : ∃ r : Int, decide (0 ≤ r) = !noP s i s.size ∧
    ∀ w, Calls Try.prog 31 #[.string s, .int .i64 i, .string ⟨#[37]⟩] w fun e w' => e = .returned (.int .i64 r) ∧ Below w.heap.size w w' := by
  obtain ⟨r, hr, hd⟩ := find_from s hs (s.size - i) i (4 * s.size + 10) (by omega) (by omega)
  refine ⟨r, hd, fun w => octet_Find.calls (4 * s.size + 10) s i ⟨#[37]⟩ r w ?_⟩
  unfold octet_Find.f
  rw [show mx (i : Int) 0 = (i : Int) by unfold mx; omega]
  exact hr

/-- Where what is gone through ends. -/
def atE (pre : List (Nat × Int)) : Nat := match pre.getLast? with
  | some x => x.1 + 3
  | none => 0
theorem atE_snoc (pre : List (Nat × Int)) (x : Nat × Int) : atE (pre ++ [x]) = x.1 + 3 := by simp [atE]
/-- The gaps ahead of some escapes hold no percent sign. -/
def gapsB (s : ByteArray) : List (Nat × Int) → Nat → Bool
  | [], a => noP s a s.size
  | x :: r, a => noP s a x.1 && gapsB s r (x.1 + 3)
/-- The escapes stand one behind the other. -/
theorem escL_ge (s : ByteArray) : ∀ (f i : Nat), ∀ x ∈ escL s f i, i ≤ x.1 ∧ x.1 + 3 ≤ s.size
  | 0, i, x, hx => by cases hx
  | f + 1, i, x, hx => by
    simp only [escL] at hx
    split at hx
    · cases ha : atV s i with
      | none =>
        rw [ha] at hx
        have := escL_ge s f (i + 1) x hx
        omega
      | some b =>
        rw [ha] at hx
        rcases List.mem_cons.1 hx with rfl | hx
        · exact ⟨Nat.le_refl _, (atV_range ha).1⟩
        · have := escL_ge s f (i + 3) x hx
          omega
    · cases hx
theorem escL_chain (s : ByteArray) : ∀ (f i : Nat) (pre : List (Nat × Int)) (x : Nat × Int) (rest : List (Nat × Int)), escL s f i = pre ++ x :: rest → (pre = [] → i ≤ x.1) ∧ (pre ≠ [] → atE pre ≤ x.1)
  | 0, i, pre, x, rest, h => by simp [escL] at h
  | f + 1, i, pre, x, rest, h => by
    simp only [escL] at h
    split at h
    · cases ha : atV s i with
      | none =>
        rw [ha] at h
        have := escL_chain s f (i + 1) pre x rest h
        exact ⟨fun e => by have := this.1 e; omega, this.2⟩
      | some b =>
        rw [ha] at h
        cases pre with
        | nil =>
          simp only [List.nil_append, List.cons.injEq] at h
          exact ⟨fun _ => by rw [← h.1]; exact Nat.le_refl _, fun e => absurd rfl e⟩
        | cons y t =>
          simp only [List.cons_append, List.cons.injEq] at h
          have := escL_chain s f (i + 3) t x rest h.2
          refine ⟨fun e => absurd e (List.cons_ne_nil _ _), fun _ => ?_⟩
          cases t with
          | nil =>
            have := this.1 rfl
            simp only [atE, List.getLast?_singleton]
            rw [← h.1]
            exact this
          | cons z u =>
            have := this.2 (List.cons_ne_nil _ _)
            simpa [atE] using this
    · simp at h
theorem next_le {s : ByteArray} {pre : List (Nat × Int)} {x : Nat × Int} (h : Next s pre x) : atE pre ≤ x.1 ∧ x.1 + 3 ≤ s.size ∧ 0 ≤ x.2 ∧ x.2 ≤ 255 := by
  obtain ⟨rest, hr⟩ := h
  unfold esc at hr
  have hm : x ∈ escL s (s.size + 1) 0 := by rw [hr]; simp
  have h1 := escL_ge s _ _ x hm
  have h2 := escL_chain s _ _ _ _ _ hr
  have hv : ∀ (f i : Nat), ∀ y ∈ escL s f i, 0 ≤ y.2 ∧ y.2 ≤ 255 := by
    intro f
    induction f with
    | zero => intro i y hy; cases hy
    | succ f ih =>
      intro i y hy
      simp only [escL] at hy
      split at hy
      · cases ha : atV s i with
        | none => rw [ha] at hy; exact ih _ y hy
        | some b =>
          rw [ha] at hy
          rcases List.mem_cons.1 hy with rfl | hy
          · exact (atV_range ha).2
          · exact ih _ y hy
      · cases hy
  refine ⟨?_, h1.2, hv _ _ x hm⟩
  cases pre with
  | nil => exact Nat.zero_le _
  | cons y t => exact h2.2 (List.cons_ne_nil _ _)
theorem gapsB_snoc (s : ByteArray) : ∀ (pre : List (Nat × Int)) (x : Nat × Int) (rest : List (Nat × Int)) (a : Nat), gapsB s (pre ++ x :: rest) a = true → noP s (if pre = [] then a else atE pre) x.1 = true
  | [], x, rest, a, h => by
    simp only [List.nil_append, gapsB, Bool.and_eq_true] at h
    rw [if_pos rfl]; exact h.1
  | y :: t, x, rest, a, h => by
    simp only [List.cons_append, gapsB, Bool.and_eq_true] at h
    have := gapsB_snoc s t x rest (y.1 + 3) h.2
    rw [if_neg (List.cons_ne_nil _ _)]
    by_cases ht : t = []
    · subst ht
      rw [if_pos rfl] at this
      simpa [atE] using this
    · rw [if_neg ht] at this
      have e : atE (y :: t) = atE t := by
        cases t with
        | nil => exact absurd rfl ht
        | cons z u => simp [atE]
      rw [e]; exact this
/-- All gaps ahead of the last escape. -/
def okPre (s : ByteArray) : List (Nat × Int) → Nat → Bool
  | [], _ => true
  | x :: r, a => noP s a x.1 && okPre s r (x.1 + 3)
theorem okPre_snoc (s : ByteArray) : ∀ (pre : List (Nat × Int)) (x : Nat × Int) (a : Nat), okPre s (pre ++ [x]) a = (okPre s pre a && noP s (if pre = [] then a else atE pre) x.1)
  | [], x, a => by simp [okPre]
  | y :: t, x, a => by
    rw [List.cons_append, okPre, okPre, okPre_snoc s t x (y.1 + 3), if_neg (List.cons_ne_nil _ _), Bool.and_assoc]
    congr 2
    by_cases ht : t = []
    · subst ht; simp [atE]
    · rw [if_neg ht]
      cases t with
      | nil => exact absurd rfl ht
      | cons z u => simp [atE]
theorem gapsB_pre (s : ByteArray) : ∀ (pre : List (Nat × Int)) (a : Nat), gapsB s pre a = (okPre s pre a && noP s (if pre = [] then a else atE pre) s.size)
  | [], a => by simp [okPre, gapsB]
  | y :: t, a => by
    rw [gapsB, okPre, gapsB_pre s t (y.1 + 3), if_neg (List.cons_ne_nil _ _), Bool.and_assoc]
    congr 2
    by_cases ht : t = []
    · subst ht; simp [atE]
    · rw [if_neg ht]
      cases t with
      | nil => exact absurd rfl ht
      | cons z u => simp [atE]
/-- Does each percent sign begin an escape? -/
def rightB (s : ByteArray) : Bool := gapsB s (esc s 0) 0
theorem atE_if (pre : List (Nat × Int)) : (if pre = [] then 0 else atE pre) = atE pre := by
  split
  · rename_i h; subst h; rfl
  · rfl
theorem rightB_bad {s : ByteArray} {pre : List (Nat × Int)} {x : Nat × Int} (h : (pre ++ [x]) <+: esc s 0) (hb : noP s (atE pre) x.1 = false) : rightB s = false := by
  obtain ⟨rest, hr⟩ := h
  cases hg : rightB s with
  | false => rfl
  | true =>
    unfold rightB at hg
    rw [← hr, List.append_assoc] at hg
    have := gapsB_snoc s pre x rest 0 hg
    rw [atE_if, hb] at this
    cases this
theorem noP_cut (s : ByteArray) (a b : Nat) (hb : b ≤ s.size) (ha : a ≤ b) : noP (s.extract a b) 0 (s.extract a b).size = noP s a b := by
  have hz : (s.extract a b).size = b - a := by rw [ByteArray.size_extract]; omega
  have hbt : ∀ j, j < b - a → bt (s.extract a b) (j : Int) = bt s ((a + j : Nat) : Int) := by
    intro j hj
    rw [By.bt_getD, By.bt_getD, By.bytes_extract]
    simp [List.getD_eq_getElem?_getD, List.getElem?_drop, hj]
  unfold noP
  rw [decide_eq_decide, hz]
  constructor
  · intro h j h1 h2
    have := h (j - a) (by omega) (Nat.zero_le _)
    rw [hbt _ (by omega), show a + (j - a) = j by omega] at this
    exact this
  · intro h j h1 h2
    rw [hbt _ h1]
    exact h (a + j) (by omega) (by omega)
theorem boxed_kept {W W' : World} {row : Option Nat} {B : Nat} {t : TypeId} {v : Value} (h : Boxed W B t v) (hg : W.grownBy W' row) (hr : ∀ r, row = some r → ∃ o : Obj, W.heap[r]? = some o ∧ o.isCells = false) : Boxed W' B t v :=
  h.kept hg (fun e => by
    obtain ⟨o, ho, hc⟩ := hr _ e.symm
    rw [show W.heap[B]? = _ from h] at ho
    cases ho
    cases hc)
theorem boxed_below {W W' : World} {B : Nat} {t : TypeId} {v : Value} (h : Boxed W B t v) (hb : Below W.heap.size W W') : Boxed W' B t v := blk_below h hb
theorem boxed_other {W : World} {B : Nat} {t : TypeId} {v u : Value} (h : Boxed W B t v) {p : Addr} (hne : B ≠ p.block) : Boxed (W.setCell p u) B t v := (Below.heap_setCell W p u B hne).trans h
theorem keepsFrom_below {B : Nat} {W W' : World} (h : Below W.heap.size W W') : KeepsFrom B W W' := ⟨h.size, fun k o _ hk _ => blk_below hk h⟩
/-- What the rounds of Right keep. -/
structure RI (s : ByteArray) (b : Nat) (pre : List (Nat × Int)) (W : World) : Prop where
  h0 : Boxed W b 9 (.string s)
  h1 : Boxed W (b + 1) 4 (.bool false)
  h2 : Boxed W (b + 1 + 1) 3 (.int .i64 ((atE pre : Nat) : Int))
  ok : okPre s pre 0 = true
theorem RI.own (s : ByteArray) (b : Nat) : Own (fun (pre : List (Nat × Int)) W => RI s b pre W) := fun pre A B row h hg hr => ⟨boxed_kept h.h0 hg hr, boxed_kept h.h1 hg hr, boxed_kept h.h2 hg hr, h.ok⟩
structure RX (s : ByteArray) (b : Nat) (c : Code) (pre : List (Nat × Int)) (W : World) : Prop where
  ret : c = .ret
  bad : ∃ ini last, pre = ini ++ [last] ∧ noP s (atE ini) last.1 = false
  h1 : Boxed W (b + 1) 4 (.bool false)
theorem RX.own (s : ByteArray) (b : Nat) (c : Code) : Own (fun (pre : List (Nat × Int)) W => RX s b c pre W) := fun pre A B row h hg hr => ⟨h.ret, h.bad, boxed_kept h.h1 hg hr⟩
theorem atE_le (s : ByteArray) : atE (esc s 0) ≤ s.size := by
  unfold atE
  cases hl : (esc s 0).getLast? with
  | none => exact Nat.zero_le _
  | some x => exact (escL_ge s _ _ x (List.mem_of_getLast? hl)).2
theorem blk_far' {w : World} {g : Nat} {o : Obj} (h : w.heap[g]? = some o) {p : Addr} (hp : g ≠ p.block) (u : Value) : (w.setCell p u).heap[g]? = some o := (Below.heap_setCell w p u g hp).trans h
section
attribute [local go_sem] Oper.semAt_some
set_option maxRecDepth 100000 in
set_option maxHeartbeats 4000000 in
theorem right_in (s : ByteArray) (hs : s.size ≤ 1048576) (w : World) : CallsIn Fence.wide 8 Try.prog 18 #[.string s] w fun e W' => e = .returned (.bool (rightB s)) ∧ Below w.heap.size w W' := by
  refine callsIn_of_wp_marks Try.func18 rfl trivial ?_ rfl
  simp only [Try.ntmps18, List.size_toArray, List.length_cons, List.length_nil, Nat.reduceAdd, Nat.reduceSub, Array.replicate_succ, Array.replicate_zero, List.push_toArray, List.append_toArray, List.nil_append, List.cons_append]
  gi_wp2_with (refine ⟨trivial, ?_⟩; gi_at_call 30; refine (all_calls _ s _).mono ?_; rintro e w' ⟨rfl, rfl⟩)
  have b0 := (((Boxed.new w 9 (.string s)).alloc (.cells #[.bool false] 4)).alloc (.cells #[.int .i64 0] 3)).alloc (.cells #[.string s] 9)
  have b1 := ((Boxed.new (w.alloc (.cells #[.string s] 9)) 4 (.bool false)).alloc (.cells #[.int .i64 0] 3)).alloc (.cells #[.string s] 9)
  have b2 := (Boxed.new ((w.alloc (.cells #[.string s] 9)).alloc (.cells #[.bool false] 4)) 3 (.int .i64 0)).alloc (.cells #[.string s] 9)
  have b3 := Boxed.new (((w.alloc (.cells #[.string s] 9)).alloc (.cells #[.bool false] 4)).alloc (.cells #[.int .i64 0] 3)) 9 (.string s)
  have hB0 : Below w.heap.size w ((((w.alloc (.cells #[.string s] 9)).alloc (.cells #[.bool false] 4)).alloc (.cells #[.int .i64 0] 3)).alloc (.cells #[.string s] 9)) := below_alloc (below_alloc (below_alloc (below_alloc (Below.refl _ _) _) _) _) _
  have hz : ((((w.alloc (.cells #[.string s] 9)).alloc (.cells #[.bool false] 4)).alloc (.cells #[.int .i64 0] 3)).alloc (.cells #[.string s] 9)).heap.size = w.heap.size + 1 + 1 + 1 + 1 := by simp
  simp only [World.size_alloc] at b1 b2 b3
  generalize (((w.alloc (.cells #[.string s] 9)).alloc (.cells #[.bool false] 4)).alloc (.cells #[.int .i64 0] 3)).alloc (.cells #[.string s] 9) = W0 at b0 b1 b2 b3 hB0 hz ⊢
  refine Rg.range (by decide) (gf := 35) (lb := #[.pointer (some ⟨w.heap.size + 1 + 1 + 1, 0, none⟩)]) rfl (enters_of Try.func35 (by kernel_rfl) rfl)
    (all_stops 7 (by decide) (w.heap.size + 1 + 1 + 1) s hs W0 b3.cell) kb_t (fun W l o o' _ hl ho _ => kb_b W l o o' hl ho) (Below.refl _ _) (fun _ => rfl)
    (fun pre W => RI s w.heap.size pre W ∧ Below w.heap.size w W)
    (fun c pre W => RX s w.heap.size c pre W ∧ Below w.heap.size w W)
    (OwnFrom.and ((RI.own s w.heap.size).from _) (ownFrom_below (Nat.le_refl _) (by omega)))
    (fun c => OwnFrom.and ((RX.own s w.heap.size c).from _) (ownFrom_below (Nat.le_refl _) (by omega)))
    ⟨⟨b0, b1, b2, rfl⟩, hB0⟩
    (fun x => { tmps := #[.string s, .pointer (some ⟨w.heap.size, 0, none⟩), .pointer (some ⟨w.heap.size + 1, 0, none⟩), .pointer (some ⟨w.heap.size + 1 + 1, 0, none⟩), .int .i64 (x.1 : Int), .string s, .func (.func 35) #[] #[.pointer (some ⟨w.heap.size + 1 + 1 + 1, 0, none⟩)], .int .i64 (x.1 : Int), .int .u8 x.2, undef, undef, undef, undef, undef, undef, undef, undef, undef, undef, undef, undef], defers := [] }) ?assign ?body ?done ?stop
  case assign =>
    intro l x W K hK
    dsimp only [encs]
    gi_wp2
    exact hK
  case body =>
    rintro l pre x W ⟨hI, hB⟩ hN
    obtain ⟨hle, h3, _⟩ := next_le hN
    have c0 := hI.h0.cell
    have c2 := hI.h2.cell
    obtain ⟨a, ha⟩ : ∃ a, a = atE pre := ⟨_, rfl⟩
    obtain ⟨i, b⟩ := x
    simp only at hle h3
    rw [← ha] at hle c2
    obtain ⟨r, hd, hf⟩ := find_calls (s.extract a i) (by rw [ByteArray.size_extract]; omega) 0 (Nat.zero_le _)
    rw [noP_cut s a i (by omega) hle] at hd
    have HF := Aside0.mk hf
    have HI := Aside0.mk hI
    have HB := Aside0.mk hB
    have HA := Aside0.mk ha
    have p1 : (0 : Int) ≤ (a : Int) := by omega
    have p2 : (a : Int) ≤ (i : Int) := by omega
    have p3 : (i : Int) ≤ (s.size : Int) := by omega
    clear hf hI hB ha
    cases hp : noP s a i with
    | false =>
      rw [hp] at hd
      have hr : (0 : Int) ≤ r := of_decide_eq_true (by rw [hd]; rfl)
      gi_wp2_with (refine ⟨trivial, ?_⟩; gi_at_call 31; refine (CallsIn.inRound l (callsIn_wide.2 (HF.out _))).mono ?_; rintro e w' ⟨rfl, hb⟩; have e1 := (boxed_below HI.out.h1 hb).cell; have g1 := (boxed_below HI.out.h1 hb).frozen; have HB1 := Aside0.mk hb; clear hb)
      exact ⟨(keepsFrom_below HB1.out).trans ((KeepsOthers.setCell _ _ _).from _), ⟨rfl, ⟨pre, (i, b), rfl, by rw [← HA.out]; exact hp⟩, (boxed_below HI.out.h1 HB1.out).set _⟩, (below_then HB.out HB.out.size HB1.out).setCell (p := ⟨w.heap.size + 1, 0, none⟩) (by simp) _⟩
    | true =>
      rw [hp] at hd
      have hr : ¬ (0 : Int) ≤ r := of_decide_eq_false (by rw [hd]; rfl)
      gi_wp2_with (refine ⟨trivial, ?_⟩; gi_at_call 31; refine (CallsIn.inRound l (callsIn_wide.2 (HF.out _))).mono ?_; rintro e w' ⟨rfl, hb⟩; have e2 := (boxed_below HI.out.h2 hb).cell; have g2 := (boxed_below HI.out.h2 hb).frozen; have HB1 := Aside0.mk hb; clear hb)
      refine ⟨(keepsFrom_below HB1.out).trans ((KeepsOthers.setCell _ _ _).from _), kb_t (kb_below HB1.out) (kb_set (by simp)), ⟨boxed_other (boxed_below HI.out.h0 HB1.out) (by show w.heap.size ≠ w.heap.size + 1 + 1; omega), boxed_other (boxed_below HI.out.h1 HB1.out) (by show w.heap.size + 1 ≠ w.heap.size + 1 + 1; omega), ?_, ?_⟩, (below_then HB.out HB.out.size HB1.out).setCell (p := ⟨w.heap.size + 1 + 1, 0, none⟩) (by simp; omega) _⟩
      · rw [atE_snoc]
        exact (boxed_below HI.out.h2 HB1.out).set _
      · rw [okPre_snoc, HI.out.ok, atE_if, ← HA.out, hp]; rfl
  case done =>
    rintro D ys W hD rfl ⟨hI, hB⟩ hK
    obtain ⟨a, ha⟩ : ∃ a, a = atE (esc s 0) := ⟨_, rfl⟩
    have hle : a ≤ s.size := by rw [ha]; exact atE_le s
    obtain ⟨r, hd, hf⟩ := find_calls s hs a hle
    have hR : rightB s = decide (r < 0) := by
      unfold rightB
      rw [gapsB_pre, hI.ok, atE_if, ← ha, Bool.true_and]
      cases hn : noP s a s.size with
      | true => rw [hn] at hd; have : ¬ (0 ≤ r) := of_decide_eq_false (by rw [hd]; rfl); rw [decide_eq_true (by omega)]
      | false => rw [hn] at hd; have : 0 ≤ r := of_decide_eq_true (by rw [hd]; rfl); rw [decide_eq_false (by omega)]
    have c0 := hI.h0.cell
    have c2 := hI.h2.cell
    rw [← ha] at c2
    have HR := Aside0.mk hR
    have HF := Aside0.mk hf
    have HI := Aside0.mk hI
    have HB := Aside0.mk hB
    have HD := Aside0.mk hK
    clear hf hI hB ha hR hd hK
    gi_wp2_with (refine ⟨trivial, ?_⟩; gi_at_call 31; refine (callsIn_wide.2 (HF.out _)).mono ?_; rintro e w' ⟨rfl, hb⟩; have e1 := (boxed_below HI.out.h1 hb).cell; have g1 := (boxed_below HI.out.h1 hb).frozen; have HB1 := Aside0.mk hb; clear hb)
    have hK' := blk_far' (blk_below HD.out HB1.out) (p := ⟨w.heap.size + 1, 0, none⟩) (by have := HB.out.size; simp; omega) (.bool (decide (r < 0)))
    refine ⟨by simp, .inl ⟨_, _, rfl, run_takeDeferred hK', ?_⟩⟩
    have hc5 := cell_kept ((boxed_below HI.out.h1 HB1.out).set (.bool (decide (r < 0)))).cell (grownBy_putObj' _ D (.deferred none)) (fun r e => by cases e; exact ⟨_, hK', rfl⟩)
    refine ⟨.bool (decide (r < 0)), ?_, by rw [HR.out], ((below_then HB.out HB.out.size HB1.out).setCell (p := ⟨w.heap.size + 1, 0, none⟩) (by simp) _).trans (belowK_b (w := w) (Nat.le_refl _) _ D _ _ (by omega) hK' rfl rfl)⟩
    simp [results, Try.f18, go_sem, hc5]
  case stop =>
    rintro D c pre W hD hp ⟨hX, hB⟩ hK
    obtain ⟨ini, last, rfl, hb⟩ := hX.bad
    obtain rfl := hX.ret
    have HR := Aside0.mk (rightB_bad hp hb)
    have hc1 := hX.h1
    gi_wp2
    refine ⟨by simp, .inl ⟨_, _, rfl, run_takeDeferred hK, ?_⟩⟩
    have hc5 := cell_kept hc1.cell (grownBy_putObj' _ D (.deferred none)) (fun r e => by cases e; exact ⟨_, hK, rfl⟩)
    refine ⟨.bool false, ?_, by rw [HR.out], hB.trans (belowK_b (w := w) (Nat.le_refl _) W D _ _ (by omega) hK rfl rfl)⟩
    simp [results, Try.f18, go_sem, hc5]
end

/-- What a round of replace does to what is written and to the place. -/
def rstep (s : ByteArray) (T : Int → ByteArray) (K : Int → Bool) (st : List Int × Nat) (x : Nat × Int) : List Int × Nat :=
  if K x.2 = true then (st.1 ++ bytesOf (s.extract st.2 x.1) ++ bytesOf (T x.2), x.1 + 3) else st
def rst (s : ByteArray) (T : Int → ByteArray) (K : Int → Bool) (pre : List (Nat × Int)) : List Int × Nat := pre.foldl (rstep s T K) ([], 0)
theorem rst_snoc (s : ByteArray) (T : Int → ByteArray) (K : Int → Bool) (pre : List (Nat × Int)) (x : Nat × Int) : rst s T K (pre ++ [x]) = rstep s T K (rst s T K pre) x := by unfold rst; rw [List.foldl_append]; rfl
/-- What replace answers. -/
def repl (s : ByteArray) (T : Int → ByteArray) (K : Int → Bool) : ByteArray := strOfNums ((rst s T K (esc s 0)).1 ++ bytesOf (s.extract (rst s T K (esc s 0)).2 s.size))
theorem rst_at (s : ByteArray) (T : Int → ByteArray) (K : Int → Bool) (hT : ∀ b, (T b).size ≤ 3) : ∀ pre, pre <+: esc s 0 → (rst s T K pre).2 ≤ atE pre ∧ (rst s T K pre).1.length ≤ (rst s T K pre).2 := by
  have key : ∀ (n : Nat) (pre : List (Nat × Int)), pre.length = n → pre <+: esc s 0 → (rst s T K pre).2 ≤ atE pre ∧ (rst s T K pre).1.length ≤ (rst s T K pre).2 := by
    intro n
    induction n with
    | zero =>
      intro pre hn _
      obtain rfl := List.eq_nil_of_length_eq_zero hn
      exact ⟨Nat.le_refl _, Nat.le_refl _⟩
    | succ n ih =>
      intro pre hn hp
      rcases List.eq_nil_or_concat pre with rfl | ⟨ini, x, rfl⟩
      · exact ⟨Nat.le_refl _, Nat.le_refl _⟩
      rw [List.concat_eq_append] at hn hp ⊢
      have hp0 : ini <+: esc s 0 := (List.prefix_append ini [x]).trans hp
      obtain ⟨h1, h2⟩ := ih ini (by simpa using hn) hp0
      have hN : Next s ini x := by
        obtain ⟨rest, hr⟩ := hp
        exact ⟨rest, by rw [← hr]; simp⟩
      obtain ⟨hle, h3, _⟩ := next_le hN
      rw [rst_snoc, atE_snoc]
      unfold rstep
      split
      · refine ⟨Nat.le_refl _, ?_⟩
        simp only [List.length_append, bytesOf_length, ByteArray.size_extract]
        have := hT x.2
        omega
      · exact ⟨by omega, h2⟩
  exact fun pre => key pre.length pre rfl
theorem next_prefix {s : ByteArray} {pre : List (Nat × Int)} {x : Nat × Int} (h : Next s pre x) : pre <+: esc s 0 := by
  obtain ⟨rest, hr⟩ := h
  exact ⟨x :: rest, hr.symm⟩
/-- What the rounds of replace keep. -/
structure PI (s : ByteArray) (T : Int → ByteArray) (K : Int → Bool) (tf : Nat) (lb : Array Value) (b : Nat) (pre : List (Nat × Int)) (W : World) : Prop where
  h0 : Boxed W b 9 (.string s)
  h1 : Boxed W (b + 1) 35 (.func (.func tf) #[] lb)
  h2 : ∃ v, Boxed W (b + 1 + 1) 36 v ∧ W.ownsRow (b + 1 + 1 + 1 + 1 + 1) 5 1 v (rst s T K pre).1.length (nums .u8 (rst s T K pre).1)
  h3 : Boxed W (b + 1 + 1 + 1) 3 (.int .i64 (((rst s T K pre).2 : Nat) : Int))
  sz : b + 5 ≤ W.heap.size
theorem PI.own (s : ByteArray) (T : Int → ByteArray) (K : Int → Bool) (tf : Nat) (lb : Array Value) (b : Nat) : Own (fun (pre : List (Nat × Int)) W => PI s T K tf lb b pre W) := fun pre A B row h hg hr => by
  obtain ⟨v, hv, hro⟩ := h.h2
  have hA := Aside0.mk h
  exact ⟨boxed_kept h.h0 hg hr, boxed_kept h.h1 hg hr, ⟨v, boxed_kept hv hg hr, own_move hro (fun k hk => hg.block k (own_lt hro k hk) (fun e => by
    obtain ⟨o, ho, hc⟩ := hr k e.symm
    obtain ⟨cells, hcl⟩ := own_typed hro k hk
    rw [hcl] at ho
    cases ho
    cases hc))⟩, boxed_kept h.h3 hg hr, Nat.le_trans h.sz hg.size⟩
theorem PI.below {s : ByteArray} {T : Int → ByteArray} {K : Int → Bool} {tf : Nat} {lb : Array Value} {b : Nat} {pre : List (Nat × Int)} {W W' : World} (h : PI s T K tf lb b pre W) (hb : Below W.heap.size W W') : PI s T K tf lb b pre W' := by
  obtain ⟨v, hv, hro⟩ := h.h2
  exact ⟨boxed_below h.h0 hb, boxed_below h.h1 hb, ⟨v, boxed_below hv hb, own_move hro (fun k hk => hb.block k (own_lt hro k hk))⟩, boxed_below h.h3 hb, Nat.le_trans h.sz hb.size⟩
theorem PI.same {s : ByteArray} {T : Int → ByteArray} {K : Int → Bool} {tf : Nat} {lb : Array Value} {b : Nat} {pre pre' : List (Nat × Int)} {W : World} (h : PI s T K tf lb b pre W) (e : rst s T K pre' = rst s T K pre) : PI s T K tf lb b pre' W :=
  ⟨h.h0, h.h1, by rw [e]; exact h.h2, by rw [e]; exact h.h3, h.sz⟩
theorem own_slice {w : World} {base e size n : Nat} {v : Value} {xs : List Value} (h : w.ownsRow base e size v n xs) : ∃ A c, v = .slice A n c ∧ n ≤ c := by
  rcases h.2 with ⟨rfl, rfl⟩ | ⟨g, cap, cur, rfl, _, _, hl, _⟩
  · exact ⟨none, 0, rfl, Nat.le_refl _⟩
  · exact ⟨_, cap, rfl, hl⟩
theorem own_slice' {w : World} {base e size n : Nat} {v : Value} {xs : List Value} (h : w.ownsRow base e size v n xs) : ∃ A k c, v = .slice A k c := by
  obtain ⟨A, c, rfl, _⟩ := own_slice h
  exact ⟨A, n, c, rfl⟩
theorem info5e : (Try.prog.info? 5).map (fun i => (i.zero, i.size, i.bytes)) = some (some (.int .u8 0), 1, 1) := by kernel_rfl
/-- A text behind an own row. -/
theorem append_run (w : World) (base : Nat) (v : Value) (xs : List Int) (y : ByteArray) (ho : w.ownsRow base 5 1 v xs.length (nums .u8 xs)) (hl : xs.length + y.size ≤ 140737488355328) (hb : base ≤ w.heap.size) :
    ∃ v' w', (Builtin.append_ #[36, 9] 36 #[v, .string y]).run Try.prog w = .ok v' w' ∧ w'.ownsRow base 5 1 v' (xs ++ bytesOf y).length (nums .u8 (xs ++ bytesOf y)) ∧ w.grownBy w' v.ownBlock := by
  obtain ⟨i0, hi, hz0, hz1, hz2⟩ := info_parts info5e
  obtain ⟨v', w', h1, h2, h3, _⟩ := Lib.run_append_own_string (P := Try.prog) w base 36 9 36 5 i0 Try.underlying36 Try.underlying9 hi hz0 hz1 hz2 v xs.length (nums .u8 xs) ho y (by unfold maxLen; omega) hl hb
  refine ⟨v', w', h1, ?_, h3⟩
  have e1 : (xs ++ bytesOf y).length = xs.length + y.size := by rw [List.length_append, bytesOf_length]
  have e2 : nums .u8 (xs ++ bytesOf y) = nums .u8 xs ++ Lib.strCells y := by
    rw [nums_append]
    congr 1
    simp [nums, bytesOf, Lib.strCells]
  rw [e1, e2]
  exact h2
/-- The same, with what is written and the place as letters. -/
structure PJ (s : ByteArray) (tf : Nat) (lb : Array Value) (b : Nat) (v : Value) (xs : List Int) (a : Nat) (W : World) : Prop where
  h0 : Boxed W b 9 (.string s)
  h1 : Boxed W (b + 1) 35 (.func (.func tf) #[] lb)
  h2 : Boxed W (b + 1 + 1) 36 v
  ho : W.ownsRow (b + 1 + 1 + 1 + 1 + 1) 5 1 v xs.length (nums .u8 xs)
  h3 : Boxed W (b + 1 + 1 + 1) 3 (.int .i64 ((a : Nat) : Int))
  sz : b + 5 ≤ W.heap.size
theorem PI.toPJ {s : ByteArray} {T : Int → ByteArray} {K : Int → Bool} {tf : Nat} {lb : Array Value} {b : Nat} {pre : List (Nat × Int)} {W : World} (h : PI s T K tf lb b pre W) : ∃ v, PJ s tf lb b v (rst s T K pre).1 (rst s T K pre).2 W := by
  obtain ⟨v, hv, ho⟩ := h.h2
  exact ⟨v, h.h0, h.h1, hv, ho, h.h3, h.sz⟩
theorem PJ.toPI {s : ByteArray} {T : Int → ByteArray} {K : Int → Bool} {tf : Nat} {lb : Array Value} {b : Nat} {pre : List (Nat × Int)} {v : Value} {xs : List Int} {a : Nat} {W : World} (h : PJ s tf lb b v xs a W) (e : rst s T K pre = (xs, a)) : PI s T K tf lb b pre W :=
  ⟨h.h0, h.h1, ⟨v, h.h2, by rw [e]; exact h.ho⟩, by rw [e]; exact h.h3, h.sz⟩
/-- What a step of replace keeps. -/
structure PK (s : ByteArray) (b : Nat) (W W' : World) : Prop where
  below : Below b W W'
  keeps : ∀ B, KeepsFrom B W W'
  kb : Kb (b + 1 + 1 + 1 + 1) s W W'
theorem PK.trans {s : ByteArray} {b : Nat} {A B C : World} (h : PK s b A B) (k : PK s b B C) : PK s b A C := ⟨h.below.trans k.below, fun B => (h.keeps B).trans (k.keeps B), kb_t h.kb k.kb⟩
theorem PK.set (s : ByteArray) (b : Nat) (W : World) (p : Addr) (u : Value) (h : b ≤ p.block) (hn : b + 1 + 1 + 1 + 1 ≠ p.block) : PK s b W (W.setCell p u) :=
  ⟨(Below.refl b W).setCell h u, fun B => (KeepsOthers.setCell _ _ _).from B, kb_set hn⟩
theorem PK.of_below {s : ByteArray} {b : Nat} {W W' : World} (h : Below W.heap.size W W') (hb : b ≤ W.heap.size) : PK s b W W' :=
  ⟨⟨h.os, h.tape, h.output, h.size, fun k hk => h.block k (by omega)⟩, fun B => keepsFrom_below h, kb_below h⟩
theorem PJ.append {s : ByteArray} {tf : Nat} {lb : Array Value} {b : Nat} {v : Value} {xs : List Int} {a : Nat} {W : World} (h : PJ s tf lb b v xs a W) (y : ByteArray) (hl : xs.length + y.size ≤ 140737488355328) :
    ∃ A k c w1, (Builtin.append_ #[36, 9] 36 #[v, .string y]).run Try.prog W = .ok (.slice A k c) w1 ∧ w1.frozen? ⟨b + 1 + 1, 0, none⟩ = false ∧ w1.cell? ⟨b + 1 + 1, 0, none⟩ = some v ∧
      PJ s tf lb b (.slice A k c) (xs ++ bytesOf y) a (w1.setCell ⟨b + 1 + 1, 0, none⟩ (.slice A k c)) ∧ PK s b W (w1.setCell ⟨b + 1 + 1, 0, none⟩ (.slice A k c)) := by
  obtain ⟨v1, w1, hrun, ho1, hg⟩ := append_run W (b + 1 + 1 + 1 + 1 + 1) v xs y h.ho hl h.sz
  obtain ⟨A, k, c, rfl⟩ := own_slice' ho1
  have hb := own_base h.ho
  have b0 : Boxed w1 b 9 (.string s) := h.h0.kept hg (fun e => by have := hb _ e.symm; omega)
  have b1 : Boxed w1 (b + 1) 35 (.func (.func tf) #[] lb) := h.h1.kept hg (fun e => by have := hb _ e.symm; omega)
  have b2 : Boxed w1 (b + 1 + 1) 36 v := h.h2.kept hg (fun e => by have := hb _ e.symm; omega)
  have b3 : Boxed w1 (b + 1 + 1 + 1) 3 (.int .i64 ((a : Nat) : Int)) := h.h3.kept hg (fun e => by have := hb _ e.symm; omega)
  have hk : PK s b W w1 := by
    refine ⟨(Below.refl b W).grown hg (by have := h.sz; omega) (fun k hk => by have := hb k hk; omega), fun B => ⟨hg.size, fun k o _ hk ho => ?_⟩, fun e => ?_⟩
    · refine (hg.block k (Array.getElem?_eq_some_iff.1 hk).1 (fun e => ?_)).trans hk
      obtain ⟨cells, hcl⟩ := own_typed h.ho k e.symm
      rw [hcl] at hk
      cases hk
      cases ho
    · unfold World.cell? at e ⊢
      rw [hg.block (b + 1 + 1 + 1 + 1) (by have := h.sz; omega) (fun e => by have := hb _ e.symm; omega)]
      exact e
  refine ⟨A, k, c, w1, hrun, b2.frozen, b2.cell, ⟨boxed_other b0 (by show b ≠ b + 1 + 1; omega), boxed_other b1 (by show b + 1 ≠ b + 1 + 1; omega), b2.set _, own_move ho1 (fun j hj => Below.heap_setCell _ _ _ _ (by have := own_base ho1 j hj; show j ≠ b + 1 + 1; omega)), boxed_other b3 (by show b + 1 + 1 + 1 ≠ b + 1 + 1; omega), ?_⟩, hk.trans (PK.set _ _ _ _ _ (by show b ≤ b + 1 + 1; omega) (by show b + 1 + 1 + 1 + 1 ≠ b + 1 + 1; omega))⟩
  rw [World.size_setCell]
  exact Nat.le_trans h.sz hg.size
theorem PJ.drew {s : ByteArray} {tf : Nat} {lb : Array Value} {b : Nat} {v : Value} {xs : List Int} {a : Nat} {W : World} (h : PJ s tf lb b v xs a W) : PJ s tf lb b v xs a W.drew := ⟨h.h0, h.h1, h.h2, h.ho, h.h3, h.sz⟩
theorem PK.drew {s : ByteArray} {b : Nat} {W X : World} (h : PK s b W.drew X) : PK s b W X := ⟨⟨h.below.os, h.below.tape, h.below.output, h.below.size, h.below.block⟩, fun B => ⟨(h.keeps B).size, (h.keeps B).same⟩, h.kb⟩
theorem PJ.step {s : ByteArray} {tf : Nat} {lb : Array Value} {b : Nat} {v : Value} {xs : List Int} {a : Nat} {W : World} (h : PJ s tf lb b v xs a W) (a' : Nat) : PJ s tf lb b v xs a' (W.setCell ⟨b + 1 + 1 + 1, 0, none⟩ (.int .i64 (a' : Int))) ∧ PK s b W (W.setCell ⟨b + 1 + 1 + 1, 0, none⟩ (.int .i64 (a' : Int))) :=
  ⟨⟨boxed_other h.h0 (by show b ≠ b + 1 + 1 + 1; omega), boxed_other h.h1 (by show b + 1 ≠ b + 1 + 1 + 1; omega), boxed_other h.h2 (by show b + 1 + 1 ≠ b + 1 + 1 + 1; omega), own_move h.ho (fun j hj => Below.heap_setCell _ _ _ _ (by have := own_base h.ho j hj; show j ≠ b + 1 + 1 + 1; omega)), h.h3.set _, by rw [World.size_setCell]; exact h.sz⟩,
    PK.set _ _ _ _ _ (by show b ≤ b + 1 + 1 + 1; omega) (by show b + 1 + 1 + 1 + 1 ≠ b + 1 + 1 + 1; omega)⟩
theorem cutX {X G : Prop} (f : X → G) (x : X) : G := f x
section
attribute [local go_sem] Oper.semAt_some
attribute [-go_sem] Builtin.append_
set_option maxRecDepth 100000 in
set_option maxHeartbeats 4000000 in
theorem replace21_in (s : ByteArray) (hs : s.size ≤ 1048576) (T : Int → ByteArray) (K : Int → Bool) (hT : ∀ b, (T b).size ≤ 3) (lb : Array Value) (w : World)
    (ht : ∀ (W : World) (i b : Int), Below w.heap.size w W → 0 ≤ b → b ≤ 255 → Calls Try.prog 21 (#[.int .i64 i, .int .u8 b] ++ lb) W fun e w' => e = .returned (.tuple #[.string (T b), .bool (K b)]) ∧ Below W.heap.size W w') :
    CallsIn Fence.wide 8 Try.prog 20 #[.string s, .func (.func 21) #[] lb] w fun e W' => e = .returned (.string (repl s T K)) ∧ Below w.heap.size w W' := by
  refine callsIn_of_wp_marks Try.func20 rfl trivial ?_ rfl
  simp only [Try.ntmps20, List.size_toArray, List.length_cons, List.length_nil, Nat.reduceAdd, Nat.reduceSub, Array.replicate_succ, Array.replicate_zero, List.push_toArray, List.append_toArray, List.nil_append, List.cons_append]
  gi_wp2_with (refine ⟨trivial, ?_⟩; gi_at_call 30; refine (all_calls _ s _).mono ?_; rintro e w' ⟨rfl, rfl⟩)
  have b0 := ((((Boxed.new w 9 (.string s)).alloc (.cells #[.func (.func 21) #[] lb] 35)).alloc (.cells #[.slice none 0 0] 36)).alloc (.cells #[.int .i64 0] 3)).alloc (.cells #[.string s] 9)
  have b1 := (((Boxed.new (w.alloc (.cells #[.string s] 9)) 35 (.func (.func 21) #[] lb)).alloc (.cells #[.slice none 0 0] 36)).alloc (.cells #[.int .i64 0] 3)).alloc (.cells #[.string s] 9)
  have b2 := ((Boxed.new ((w.alloc (.cells #[.string s] 9)).alloc (.cells #[.func (.func 21) #[] lb] 35)) 36 (.slice none 0 0)).alloc (.cells #[.int .i64 0] 3)).alloc (.cells #[.string s] 9)
  have b3 := (Boxed.new (((w.alloc (.cells #[.string s] 9)).alloc (.cells #[.func (.func 21) #[] lb] 35)).alloc (.cells #[.slice none 0 0] 36)) 3 (.int .i64 0)).alloc (.cells #[.string s] 9)
  have b4 := Boxed.new ((((w.alloc (.cells #[.string s] 9)).alloc (.cells #[.func (.func 21) #[] lb] 35)).alloc (.cells #[.slice none 0 0] 36)).alloc (.cells #[.int .i64 0] 3)) 9 (.string s)
  have hB0 : Below w.heap.size w (((((w.alloc (.cells #[.string s] 9)).alloc (.cells #[.func (.func 21) #[] lb] 35)).alloc (.cells #[.slice none 0 0] 36)).alloc (.cells #[.int .i64 0] 3)).alloc (.cells #[.string s] 9)) := below_alloc (below_alloc (below_alloc (below_alloc (below_alloc (Below.refl _ _) _) _) _) _) _
  have hz : (((((w.alloc (.cells #[.string s] 9)).alloc (.cells #[.func (.func 21) #[] lb] 35)).alloc (.cells #[.slice none 0 0] 36)).alloc (.cells #[.int .i64 0] 3)).alloc (.cells #[.string s] 9)).heap.size = w.heap.size + 1 + 1 + 1 + 1 + 1 := by simp
  simp only [World.size_alloc] at b1 b2 b3 b4
  generalize ((((w.alloc (.cells #[.string s] 9)).alloc (.cells #[.func (.func 21) #[] lb] 35)).alloc (.cells #[.slice none 0 0] 36)).alloc (.cells #[.int .i64 0] 3)).alloc (.cells #[.string s] 9) = W0 at b0 b1 b2 b3 b4 hB0 hz ⊢
  refine Rg.range (by decide) (gf := 35) (lb := #[.pointer (some ⟨w.heap.size + 1 + 1 + 1 + 1, 0, none⟩)]) rfl (enters_of Try.func35 (by kernel_rfl) rfl)
    (all_stops 7 (by decide) (w.heap.size + 1 + 1 + 1 + 1) s hs W0 b4.cell) kb_t (fun W l o o' _ hl ho _ => kb_b W l o o' hl ho) (Below.refl _ _) (fun _ => rfl)
    (fun pre W => PI s T K 21 lb w.heap.size pre W ∧ Below w.heap.size w W)
    (fun _ _ _ => False)
    (OwnFrom.and ((PI.own s T K 21 lb w.heap.size).from _) (ownFrom_below (Nat.le_refl _) (by omega)))
    (fun _ _ _ _ _ hs _ _ => hs)
    ⟨⟨b0, b1, ⟨_, b2, World.ownsRow_nil _ _ _ _⟩, b3, by omega⟩, hB0⟩
    (fun x => { tmps := #[.string s, .func (.func 21) #[] lb, .pointer (some ⟨w.heap.size, 0, none⟩), .pointer (some ⟨w.heap.size + 1, 0, none⟩), .string ⟨#[]⟩, .pointer (some ⟨w.heap.size + 1 + 1, 0, none⟩), .pointer (some ⟨w.heap.size + 1 + 1 + 1, 0, none⟩), .int .i64 (x.1 : Int), .int .u8 x.2, undef, undef, .string s, .func (.func 35) #[] #[.pointer (some ⟨w.heap.size + 1 + 1 + 1 + 1, 0, none⟩)], .int .i64 (x.1 : Int), .int .u8 x.2, undef, undef, undef, undef, undef, undef, undef, undef, undef, undef, undef, undef, undef, undef, undef, undef, undef, undef, undef, undef, undef, undef, undef, undef, undef], defers := [] }) ?assign ?body ?done ?stop
  case assign =>
    intro l x W K hK
    dsimp only [encs]
    gi_wp2
    exact hK
  case body =>
    rintro l pre x W ⟨hI, hB⟩ hN
    obtain ⟨hle, h3, hx0, hx1⟩ := next_le hN
    obtain ⟨hat, hlen⟩ := rst_at s T K hT pre (next_prefix hN)
    have c1 := hI.h1.cell
    obtain ⟨i, b⟩ := x
    simp only at hle h3 hx0 hx1
    have HT := Aside0.mk (fun W' (h : Below w.heap.size w W') => ht W' (i : Int) b h hx0 hx1)
    have HI := Aside0.mk hI
    have HB := Aside0.mk hB
    clear hI hB
    cases hk : K b with
    | false =>
      rw [hk] at HT
      gi_wp2_with (refine ⟨trivial, ?_⟩; refine (CallsIn.inRound l (callsIn_wide.2 (HT.out _ HB.out))).mono ?_; rintro e w' ⟨rfl, hb⟩; have HB1 := Aside0.mk hb; clear hb)
      have hI1 := HI.out.below HB1.out
      refine ⟨keepsFrom_below HB1.out, kb_below HB1.out, ?_, below_then HB.out HB.out.size HB1.out⟩
      have e : rst s T K (pre ++ [(i, b)]) = rst s T K pre := by rw [rst_snoc, rstep, if_neg (by rw [hk]; decide)]
      exact hI1.same e
    | true =>
      rw [hk] at HT
      gi_wp2_with (refine ⟨trivial, ?_⟩; refine (CallsIn.inRound l (callsIn_wide.2 (HT.out _ HB.out))).mono ?_; rintro e w' ⟨rfl, hb⟩; have HB1 := Aside0.mk hb; clear hb)
      obtain ⟨v, hJ⟩ := (HI.out.below HB1.out).toPJ
      obtain ⟨a, ha⟩ : ∃ a, a = (rst s T K pre).2 := ⟨_, rfl⟩
      obtain ⟨xs, hxs⟩ : ∃ xs, xs = (rst s T K pre).1 := ⟨_, rfl⟩
      rw [← ha] at hat hlen
      rw [← hxs] at hlen
      rw [← hxs, ← ha] at hJ
      have q0 := hJ.h0.cell
      have q3 := hJ.h3.cell
      have q2 := hJ.h2.cell
      have hsz : (s.extract a i).size = i - a := by rw [ByteArray.size_extract]; omega
      obtain ⟨A1, n1, m1, w1, hrun1, f1, k1, hJ1, hK1⟩ := hJ.drew.append (s.extract a i) (by omega)
      have p1 : (0 : Int) ≤ (a : Int) := by omega
      have p2 : (a : Int) ≤ (i : Int) := by omega
      have p3 : (i : Int) ≤ (s.size : Int) := by omega
      have HA := Aside0.mk ha
      have HX := Aside0.mk hxs
      have HJ := Aside0.mk hJ
      have HJ1 := Aside0.mk hJ1
      have HK1 := Aside0.mk hK1
      clear ha hxs hJ hJ1 hK1
      apply cutX
      · intro H
        gi_region
        all_goals exact H
      clear hrun1 f1 k1 q0 q2 q3
      have q2 := HJ1.out.h2.cell
      obtain ⟨A2, n2, m2, w2, hrun2, f2, k2, hJ2, hK2⟩ := HJ1.out.append (T b) (by have := hT b; rw [List.length_append, bytesOf_length]; omega)
      have HJ2 := Aside0.mk hJ2
      have HK2 := Aside0.mk hK2
      clear hJ2 hK2
      have q3 := HJ2.out.h3.cell
      have f3 := HJ2.out.h3.frozen
      gi_wp2
      obtain ⟨hJ3, hK3⟩ := HJ2.out.step (i + 3)
      have e3 : ((i + 3 : Nat) : Int) = (i : Int) + 3 := by omega
      rw [e3] at hJ3 hK3
      have hKK := (PK.of_below HB1.out HB.out.size).trans (HK1.out.drew.trans (HK2.out.trans hK3))
      refine ⟨hKK.keeps _, hKK.kb, hJ3.toPI ?_, HB.out.trans hKK.below⟩
      rw [rst_snoc, rstep, if_pos hk, ← HA.out, ← HX.out]
  case done =>
    rintro D ys W hD rfl ⟨hI, hB⟩ hK
    obtain ⟨v, hJ⟩ := hI.toPJ
    obtain ⟨hat, hlen⟩ := rst_at s T K hT (esc s 0) (List.prefix_refl _)
    have hle := atE_le s
    have HR := Aside0.mk (show repl s T K = strOfNums ((rst s T K (esc s 0)).1 ++ bytesOf (s.extract (rst s T K (esc s 0)).2 s.size)) from rfl)
    obtain ⟨a, ha⟩ : ∃ a, a = (rst s T K (esc s 0)).2 := ⟨_, rfl⟩
    obtain ⟨xs, hxs⟩ : ∃ xs, xs = (rst s T K (esc s 0)).1 := ⟨_, rfl⟩
    rw [← ha] at hat hlen
    rw [← hxs] at hlen
    rw [← hxs, ← ha] at hJ HR
    have q0 := hJ.h0.cell
    have q3 := hJ.h3.cell
    have q2 := hJ.h2.cell
    have hsz : (s.extract a s.size).size = s.size - a := by rw [ByteArray.size_extract]; omega
    obtain ⟨v1, w1, hrun1, ho1, hg⟩ := append_run W.drew (w.heap.size + 1 + 1 + 1 + 1 + 1) v xs (s.extract a s.size) hJ.ho (by omega) hJ.sz
    obtain ⟨A1, n1, m1, rfl⟩ := own_slice' ho1
    have hcv := own_string Try.underlying36 Try.underlying5 Try.underlying9 ho1
    have hK' : w1.heap[D]? = some (.deferred (some [])) := (hg.block D (Array.getElem?_eq_some_iff.1 hK).1 (fun e => by
      obtain ⟨cells, hcl⟩ := own_typed hJ.ho D e.symm
      rw [show W.heap[D]? = _ from hK] at hcl
      cases hcl)).trans hK
    have hB1 : Below w.heap.size w w1 := hB.grown (w' := w1) (row := v.ownBlock) ⟨hg.os, hg.tape, hg.output, hg.size, hg.block⟩ hB.size (fun k hk => by have := own_base hJ.ho k hk; omega)
    have p1 : (0 : Int) ≤ (a : Int) := by omega
    have p2 : (a : Int) ≤ (s.size : Int) := by omega
    have HJ := Aside0.mk hJ
    have HB1 := Aside0.mk hB1
    have HK := Aside0.mk hK'
    clear ha hxs hJ hB1 hK' hI hB hK ho1 hg
    gi_wp2
    apply cutX
    · intro H
      gi_region
      all_goals exact H
    clear hrun1 q0 q2 q3 hcv
    gi_wp2
    refine ⟨by simp, .inl ⟨_, _, rfl, run_takeDeferred HK.out, ?_⟩⟩
    refine ⟨.string _, ?_, by rw [HR.out], HB1.out.trans (belowK_b (w := w) (Nat.le_refl _) _ D _ _ (by omega) HK.out rfl rfl)⟩
    simp [results, Try.f20, go_sem]
  case stop =>
    rintro D c pre W _ _ h _
    exact h.elim
end
section
attribute [local go_sem] Oper.semAt_some
attribute [-go_sem] Builtin.append_
set_option maxRecDepth 100000 in
set_option maxHeartbeats 4000000 in
theorem replace22_in (s : ByteArray) (hs : s.size ≤ 1048576) (T : Int → ByteArray) (K : Int → Bool) (hT : ∀ b, (T b).size ≤ 3) (lb : Array Value) (w : World)
    (ht : ∀ (W : World) (i b : Int), Below w.heap.size w W → 0 ≤ b → b ≤ 255 → Calls Try.prog 22 (#[.int .i64 i, .int .u8 b] ++ lb) W fun e w' => e = .returned (.tuple #[.string (T b), .bool (K b)]) ∧ Below W.heap.size W w') :
    CallsIn Fence.wide 8 Try.prog 20 #[.string s, .func (.func 22) #[] lb] w fun e W' => e = .returned (.string (repl s T K)) ∧ Below w.heap.size w W' := by
  refine callsIn_of_wp_marks Try.func20 rfl trivial ?_ rfl
  simp only [Try.ntmps20, List.size_toArray, List.length_cons, List.length_nil, Nat.reduceAdd, Nat.reduceSub, Array.replicate_succ, Array.replicate_zero, List.push_toArray, List.append_toArray, List.nil_append, List.cons_append]
  gi_wp2_with (refine ⟨trivial, ?_⟩; gi_at_call 30; refine (all_calls _ s _).mono ?_; rintro e w' ⟨rfl, rfl⟩)
  have b0 := ((((Boxed.new w 9 (.string s)).alloc (.cells #[.func (.func 22) #[] lb] 35)).alloc (.cells #[.slice none 0 0] 36)).alloc (.cells #[.int .i64 0] 3)).alloc (.cells #[.string s] 9)
  have b1 := (((Boxed.new (w.alloc (.cells #[.string s] 9)) 35 (.func (.func 22) #[] lb)).alloc (.cells #[.slice none 0 0] 36)).alloc (.cells #[.int .i64 0] 3)).alloc (.cells #[.string s] 9)
  have b2 := ((Boxed.new ((w.alloc (.cells #[.string s] 9)).alloc (.cells #[.func (.func 22) #[] lb] 35)) 36 (.slice none 0 0)).alloc (.cells #[.int .i64 0] 3)).alloc (.cells #[.string s] 9)
  have b3 := (Boxed.new (((w.alloc (.cells #[.string s] 9)).alloc (.cells #[.func (.func 22) #[] lb] 35)).alloc (.cells #[.slice none 0 0] 36)) 3 (.int .i64 0)).alloc (.cells #[.string s] 9)
  have b4 := Boxed.new ((((w.alloc (.cells #[.string s] 9)).alloc (.cells #[.func (.func 22) #[] lb] 35)).alloc (.cells #[.slice none 0 0] 36)).alloc (.cells #[.int .i64 0] 3)) 9 (.string s)
  have hB0 : Below w.heap.size w (((((w.alloc (.cells #[.string s] 9)).alloc (.cells #[.func (.func 22) #[] lb] 35)).alloc (.cells #[.slice none 0 0] 36)).alloc (.cells #[.int .i64 0] 3)).alloc (.cells #[.string s] 9)) := below_alloc (below_alloc (below_alloc (below_alloc (below_alloc (Below.refl _ _) _) _) _) _) _
  have hz : (((((w.alloc (.cells #[.string s] 9)).alloc (.cells #[.func (.func 22) #[] lb] 35)).alloc (.cells #[.slice none 0 0] 36)).alloc (.cells #[.int .i64 0] 3)).alloc (.cells #[.string s] 9)).heap.size = w.heap.size + 1 + 1 + 1 + 1 + 1 := by simp
  simp only [World.size_alloc] at b1 b2 b3 b4
  generalize ((((w.alloc (.cells #[.string s] 9)).alloc (.cells #[.func (.func 22) #[] lb] 35)).alloc (.cells #[.slice none 0 0] 36)).alloc (.cells #[.int .i64 0] 3)).alloc (.cells #[.string s] 9) = W0 at b0 b1 b2 b3 b4 hB0 hz ⊢
  refine Rg.range (by decide) (gf := 35) (lb := #[.pointer (some ⟨w.heap.size + 1 + 1 + 1 + 1, 0, none⟩)]) rfl (enters_of Try.func35 (by kernel_rfl) rfl)
    (all_stops 7 (by decide) (w.heap.size + 1 + 1 + 1 + 1) s hs W0 b4.cell) kb_t (fun W l o o' _ hl ho _ => kb_b W l o o' hl ho) (Below.refl _ _) (fun _ => rfl)
    (fun pre W => PI s T K 22 lb w.heap.size pre W ∧ Below w.heap.size w W)
    (fun _ _ _ => False)
    (OwnFrom.and ((PI.own s T K 22 lb w.heap.size).from _) (ownFrom_below (Nat.le_refl _) (by omega)))
    (fun _ _ _ _ _ hs _ _ => hs)
    ⟨⟨b0, b1, ⟨_, b2, World.ownsRow_nil _ _ _ _⟩, b3, by omega⟩, hB0⟩
    (fun x => { tmps := #[.string s, .func (.func 22) #[] lb, .pointer (some ⟨w.heap.size, 0, none⟩), .pointer (some ⟨w.heap.size + 1, 0, none⟩), .string ⟨#[]⟩, .pointer (some ⟨w.heap.size + 1 + 1, 0, none⟩), .pointer (some ⟨w.heap.size + 1 + 1 + 1, 0, none⟩), .int .i64 (x.1 : Int), .int .u8 x.2, undef, undef, .string s, .func (.func 35) #[] #[.pointer (some ⟨w.heap.size + 1 + 1 + 1 + 1, 0, none⟩)], .int .i64 (x.1 : Int), .int .u8 x.2, undef, undef, undef, undef, undef, undef, undef, undef, undef, undef, undef, undef, undef, undef, undef, undef, undef, undef, undef, undef, undef, undef, undef, undef, undef], defers := [] }) ?assign ?body ?done ?stop
  case assign =>
    intro l x W K hK
    dsimp only [encs]
    gi_wp2
    exact hK
  case body =>
    rintro l pre x W ⟨hI, hB⟩ hN
    obtain ⟨hle, h3, hx0, hx1⟩ := next_le hN
    obtain ⟨hat, hlen⟩ := rst_at s T K hT pre (next_prefix hN)
    have c1 := hI.h1.cell
    obtain ⟨i, b⟩ := x
    simp only at hle h3 hx0 hx1
    have HT := Aside0.mk (fun W' (h : Below w.heap.size w W') => ht W' (i : Int) b h hx0 hx1)
    have HI := Aside0.mk hI
    have HB := Aside0.mk hB
    clear hI hB
    cases hk : K b with
    | false =>
      rw [hk] at HT
      gi_wp2_with (refine ⟨trivial, ?_⟩; refine (CallsIn.inRound l (callsIn_wide.2 (HT.out _ HB.out))).mono ?_; rintro e w' ⟨rfl, hb⟩; have HB1 := Aside0.mk hb; clear hb)
      have hI1 := HI.out.below HB1.out
      refine ⟨keepsFrom_below HB1.out, kb_below HB1.out, ?_, below_then HB.out HB.out.size HB1.out⟩
      have e : rst s T K (pre ++ [(i, b)]) = rst s T K pre := by rw [rst_snoc, rstep, if_neg (by rw [hk]; decide)]
      exact hI1.same e
    | true =>
      rw [hk] at HT
      gi_wp2_with (refine ⟨trivial, ?_⟩; refine (CallsIn.inRound l (callsIn_wide.2 (HT.out _ HB.out))).mono ?_; rintro e w' ⟨rfl, hb⟩; have HB1 := Aside0.mk hb; clear hb)
      obtain ⟨v, hJ⟩ := (HI.out.below HB1.out).toPJ
      obtain ⟨a, ha⟩ : ∃ a, a = (rst s T K pre).2 := ⟨_, rfl⟩
      obtain ⟨xs, hxs⟩ : ∃ xs, xs = (rst s T K pre).1 := ⟨_, rfl⟩
      rw [← ha] at hat hlen
      rw [← hxs] at hlen
      rw [← hxs, ← ha] at hJ
      have q0 := hJ.h0.cell
      have q3 := hJ.h3.cell
      have q2 := hJ.h2.cell
      have hsz : (s.extract a i).size = i - a := by rw [ByteArray.size_extract]; omega
      obtain ⟨A1, n1, m1, w1, hrun1, f1, k1, hJ1, hK1⟩ := hJ.drew.append (s.extract a i) (by omega)
      have p1 : (0 : Int) ≤ (a : Int) := by omega
      have p2 : (a : Int) ≤ (i : Int) := by omega
      have p3 : (i : Int) ≤ (s.size : Int) := by omega
      have HA := Aside0.mk ha
      have HX := Aside0.mk hxs
      have HJ := Aside0.mk hJ
      have HJ1 := Aside0.mk hJ1
      have HK1 := Aside0.mk hK1
      clear ha hxs hJ hJ1 hK1
      apply cutX
      · intro H
        gi_region
        all_goals exact H
      clear hrun1 f1 k1 q0 q2 q3
      have q2 := HJ1.out.h2.cell
      obtain ⟨A2, n2, m2, w2, hrun2, f2, k2, hJ2, hK2⟩ := HJ1.out.append (T b) (by have := hT b; rw [List.length_append, bytesOf_length]; omega)
      have HJ2 := Aside0.mk hJ2
      have HK2 := Aside0.mk hK2
      clear hJ2 hK2
      have q3 := HJ2.out.h3.cell
      have f3 := HJ2.out.h3.frozen
      gi_wp2
      obtain ⟨hJ3, hK3⟩ := HJ2.out.step (i + 3)
      have e3 : ((i + 3 : Nat) : Int) = (i : Int) + 3 := by omega
      rw [e3] at hJ3 hK3
      have hKK := (PK.of_below HB1.out HB.out.size).trans (HK1.out.drew.trans (HK2.out.trans hK3))
      refine ⟨hKK.keeps _, hKK.kb, hJ3.toPI ?_, HB.out.trans hKK.below⟩
      rw [rst_snoc, rstep, if_pos hk, ← HA.out, ← HX.out]
  case done =>
    rintro D ys W hD rfl ⟨hI, hB⟩ hK
    obtain ⟨v, hJ⟩ := hI.toPJ
    obtain ⟨hat, hlen⟩ := rst_at s T K hT (esc s 0) (List.prefix_refl _)
    have hle := atE_le s
    have HR := Aside0.mk (show repl s T K = strOfNums ((rst s T K (esc s 0)).1 ++ bytesOf (s.extract (rst s T K (esc s 0)).2 s.size)) from rfl)
    obtain ⟨a, ha⟩ : ∃ a, a = (rst s T K (esc s 0)).2 := ⟨_, rfl⟩
    obtain ⟨xs, hxs⟩ : ∃ xs, xs = (rst s T K (esc s 0)).1 := ⟨_, rfl⟩
    rw [← ha] at hat hlen
    rw [← hxs] at hlen
    rw [← hxs, ← ha] at hJ HR
    have q0 := hJ.h0.cell
    have q3 := hJ.h3.cell
    have q2 := hJ.h2.cell
    have hsz : (s.extract a s.size).size = s.size - a := by rw [ByteArray.size_extract]; omega
    obtain ⟨v1, w1, hrun1, ho1, hg⟩ := append_run W.drew (w.heap.size + 1 + 1 + 1 + 1 + 1) v xs (s.extract a s.size) hJ.ho (by omega) hJ.sz
    obtain ⟨A1, n1, m1, rfl⟩ := own_slice' ho1
    have hcv := own_string Try.underlying36 Try.underlying5 Try.underlying9 ho1
    have hK' : w1.heap[D]? = some (.deferred (some [])) := (hg.block D (Array.getElem?_eq_some_iff.1 hK).1 (fun e => by
      obtain ⟨cells, hcl⟩ := own_typed hJ.ho D e.symm
      rw [show W.heap[D]? = _ from hK] at hcl
      cases hcl)).trans hK
    have hB1 : Below w.heap.size w w1 := hB.grown (w' := w1) (row := v.ownBlock) ⟨hg.os, hg.tape, hg.output, hg.size, hg.block⟩ hB.size (fun k hk => by have := own_base hJ.ho k hk; omega)
    have p1 : (0 : Int) ≤ (a : Int) := by omega
    have p2 : (a : Int) ≤ (s.size : Int) := by omega
    have HJ := Aside0.mk hJ
    have HB1 := Aside0.mk hB1
    have HK := Aside0.mk hK'
    clear ha hxs hJ hB1 hK' hI hB hK ho1 hg
    gi_wp2
    apply cutX
    · intro H
      gi_region
      all_goals exact H
    clear hrun1 q0 q2 q3 hcv
    gi_wp2
    refine ⟨by simp, .inl ⟨_, _, rfl, run_takeDeferred HK.out, ?_⟩⟩
    refine ⟨.string _, ?_, by rw [HR.out], HB1.out.trans (belowK_b (w := w) (Nat.le_refl _) _ D _ _ (by omega) HK.out rfl rfl)⟩
    simp [results, Try.f20, go_sem]
  case stop =>
    rintro D c pre W _ _ h _
    exact h.elim
end
section
attribute [local go_sem] Oper.semAt_some
attribute [-go_sem] Builtin.append_
set_option maxRecDepth 100000 in
set_option maxHeartbeats 4000000 in
theorem replace29_in (s : ByteArray) (hs : s.size ≤ 1048576) (T : Int → ByteArray) (K : Int → Bool) (hT : ∀ b, (T b).size ≤ 3) (lb : Array Value) (w : World)
    (ht : ∀ (W : World) (i b : Int), Below w.heap.size w W → 0 ≤ b → b ≤ 255 → Calls Try.prog 29 (#[.int .i64 i, .int .u8 b] ++ lb) W fun e w' => e = .returned (.tuple #[.string (T b), .bool (K b)]) ∧ Below W.heap.size W w') :
    CallsIn Fence.wide 8 Try.prog 20 #[.string s, .func (.func 29) #[] lb] w fun e W' => e = .returned (.string (repl s T K)) ∧ Below w.heap.size w W' := by
  refine callsIn_of_wp_marks Try.func20 rfl trivial ?_ rfl
  simp only [Try.ntmps20, List.size_toArray, List.length_cons, List.length_nil, Nat.reduceAdd, Nat.reduceSub, Array.replicate_succ, Array.replicate_zero, List.push_toArray, List.append_toArray, List.nil_append, List.cons_append]
  gi_wp2_with (refine ⟨trivial, ?_⟩; gi_at_call 30; refine (all_calls _ s _).mono ?_; rintro e w' ⟨rfl, rfl⟩)
  have b0 := ((((Boxed.new w 9 (.string s)).alloc (.cells #[.func (.func 29) #[] lb] 35)).alloc (.cells #[.slice none 0 0] 36)).alloc (.cells #[.int .i64 0] 3)).alloc (.cells #[.string s] 9)
  have b1 := (((Boxed.new (w.alloc (.cells #[.string s] 9)) 35 (.func (.func 29) #[] lb)).alloc (.cells #[.slice none 0 0] 36)).alloc (.cells #[.int .i64 0] 3)).alloc (.cells #[.string s] 9)
  have b2 := ((Boxed.new ((w.alloc (.cells #[.string s] 9)).alloc (.cells #[.func (.func 29) #[] lb] 35)) 36 (.slice none 0 0)).alloc (.cells #[.int .i64 0] 3)).alloc (.cells #[.string s] 9)
  have b3 := (Boxed.new (((w.alloc (.cells #[.string s] 9)).alloc (.cells #[.func (.func 29) #[] lb] 35)).alloc (.cells #[.slice none 0 0] 36)) 3 (.int .i64 0)).alloc (.cells #[.string s] 9)
  have b4 := Boxed.new ((((w.alloc (.cells #[.string s] 9)).alloc (.cells #[.func (.func 29) #[] lb] 35)).alloc (.cells #[.slice none 0 0] 36)).alloc (.cells #[.int .i64 0] 3)) 9 (.string s)
  have hB0 : Below w.heap.size w (((((w.alloc (.cells #[.string s] 9)).alloc (.cells #[.func (.func 29) #[] lb] 35)).alloc (.cells #[.slice none 0 0] 36)).alloc (.cells #[.int .i64 0] 3)).alloc (.cells #[.string s] 9)) := below_alloc (below_alloc (below_alloc (below_alloc (below_alloc (Below.refl _ _) _) _) _) _) _
  have hz : (((((w.alloc (.cells #[.string s] 9)).alloc (.cells #[.func (.func 29) #[] lb] 35)).alloc (.cells #[.slice none 0 0] 36)).alloc (.cells #[.int .i64 0] 3)).alloc (.cells #[.string s] 9)).heap.size = w.heap.size + 1 + 1 + 1 + 1 + 1 := by simp
  simp only [World.size_alloc] at b1 b2 b3 b4
  generalize ((((w.alloc (.cells #[.string s] 9)).alloc (.cells #[.func (.func 29) #[] lb] 35)).alloc (.cells #[.slice none 0 0] 36)).alloc (.cells #[.int .i64 0] 3)).alloc (.cells #[.string s] 9) = W0 at b0 b1 b2 b3 b4 hB0 hz ⊢
  refine Rg.range (by decide) (gf := 35) (lb := #[.pointer (some ⟨w.heap.size + 1 + 1 + 1 + 1, 0, none⟩)]) rfl (enters_of Try.func35 (by kernel_rfl) rfl)
    (all_stops 7 (by decide) (w.heap.size + 1 + 1 + 1 + 1) s hs W0 b4.cell) kb_t (fun W l o o' _ hl ho _ => kb_b W l o o' hl ho) (Below.refl _ _) (fun _ => rfl)
    (fun pre W => PI s T K 29 lb w.heap.size pre W ∧ Below w.heap.size w W)
    (fun _ _ _ => False)
    (OwnFrom.and ((PI.own s T K 29 lb w.heap.size).from _) (ownFrom_below (Nat.le_refl _) (by omega)))
    (fun _ _ _ _ _ hs _ _ => hs)
    ⟨⟨b0, b1, ⟨_, b2, World.ownsRow_nil _ _ _ _⟩, b3, by omega⟩, hB0⟩
    (fun x => { tmps := #[.string s, .func (.func 29) #[] lb, .pointer (some ⟨w.heap.size, 0, none⟩), .pointer (some ⟨w.heap.size + 1, 0, none⟩), .string ⟨#[]⟩, .pointer (some ⟨w.heap.size + 1 + 1, 0, none⟩), .pointer (some ⟨w.heap.size + 1 + 1 + 1, 0, none⟩), .int .i64 (x.1 : Int), .int .u8 x.2, undef, undef, .string s, .func (.func 35) #[] #[.pointer (some ⟨w.heap.size + 1 + 1 + 1 + 1, 0, none⟩)], .int .i64 (x.1 : Int), .int .u8 x.2, undef, undef, undef, undef, undef, undef, undef, undef, undef, undef, undef, undef, undef, undef, undef, undef, undef, undef, undef, undef, undef, undef, undef, undef, undef], defers := [] }) ?assign ?body ?done ?stop
  case assign =>
    intro l x W K hK
    dsimp only [encs]
    gi_wp2
    exact hK
  case body =>
    rintro l pre x W ⟨hI, hB⟩ hN
    obtain ⟨hle, h3, hx0, hx1⟩ := next_le hN
    obtain ⟨hat, hlen⟩ := rst_at s T K hT pre (next_prefix hN)
    have c1 := hI.h1.cell
    obtain ⟨i, b⟩ := x
    simp only at hle h3 hx0 hx1
    have HT := Aside0.mk (fun W' (h : Below w.heap.size w W') => ht W' (i : Int) b h hx0 hx1)
    have HI := Aside0.mk hI
    have HB := Aside0.mk hB
    clear hI hB
    cases hk : K b with
    | false =>
      rw [hk] at HT
      gi_wp2_with (refine ⟨trivial, ?_⟩; refine (CallsIn.inRound l (callsIn_wide.2 (HT.out _ HB.out))).mono ?_; rintro e w' ⟨rfl, hb⟩; have HB1 := Aside0.mk hb; clear hb)
      have hI1 := HI.out.below HB1.out
      refine ⟨keepsFrom_below HB1.out, kb_below HB1.out, ?_, below_then HB.out HB.out.size HB1.out⟩
      have e : rst s T K (pre ++ [(i, b)]) = rst s T K pre := by rw [rst_snoc, rstep, if_neg (by rw [hk]; decide)]
      exact hI1.same e
    | true =>
      rw [hk] at HT
      gi_wp2_with (refine ⟨trivial, ?_⟩; refine (CallsIn.inRound l (callsIn_wide.2 (HT.out _ HB.out))).mono ?_; rintro e w' ⟨rfl, hb⟩; have HB1 := Aside0.mk hb; clear hb)
      obtain ⟨v, hJ⟩ := (HI.out.below HB1.out).toPJ
      obtain ⟨a, ha⟩ : ∃ a, a = (rst s T K pre).2 := ⟨_, rfl⟩
      obtain ⟨xs, hxs⟩ : ∃ xs, xs = (rst s T K pre).1 := ⟨_, rfl⟩
      rw [← ha] at hat hlen
      rw [← hxs] at hlen
      rw [← hxs, ← ha] at hJ
      have q0 := hJ.h0.cell
      have q3 := hJ.h3.cell
      have q2 := hJ.h2.cell
      have hsz : (s.extract a i).size = i - a := by rw [ByteArray.size_extract]; omega
      obtain ⟨A1, n1, m1, w1, hrun1, f1, k1, hJ1, hK1⟩ := hJ.drew.append (s.extract a i) (by omega)
      have p1 : (0 : Int) ≤ (a : Int) := by omega
      have p2 : (a : Int) ≤ (i : Int) := by omega
      have p3 : (i : Int) ≤ (s.size : Int) := by omega
      have HA := Aside0.mk ha
      have HX := Aside0.mk hxs
      have HJ := Aside0.mk hJ
      have HJ1 := Aside0.mk hJ1
      have HK1 := Aside0.mk hK1
      clear ha hxs hJ hJ1 hK1
      apply cutX
      · intro H
        gi_region
        all_goals exact H
      clear hrun1 f1 k1 q0 q2 q3
      have q2 := HJ1.out.h2.cell
      obtain ⟨A2, n2, m2, w2, hrun2, f2, k2, hJ2, hK2⟩ := HJ1.out.append (T b) (by have := hT b; rw [List.length_append, bytesOf_length]; omega)
      have HJ2 := Aside0.mk hJ2
      have HK2 := Aside0.mk hK2
      clear hJ2 hK2
      have q3 := HJ2.out.h3.cell
      have f3 := HJ2.out.h3.frozen
      gi_wp2
      obtain ⟨hJ3, hK3⟩ := HJ2.out.step (i + 3)
      have e3 : ((i + 3 : Nat) : Int) = (i : Int) + 3 := by omega
      rw [e3] at hJ3 hK3
      have hKK := (PK.of_below HB1.out HB.out.size).trans (HK1.out.drew.trans (HK2.out.trans hK3))
      refine ⟨hKK.keeps _, hKK.kb, hJ3.toPI ?_, HB.out.trans hKK.below⟩
      rw [rst_snoc, rstep, if_pos hk, ← HA.out, ← HX.out]
  case done =>
    rintro D ys W hD rfl ⟨hI, hB⟩ hK
    obtain ⟨v, hJ⟩ := hI.toPJ
    obtain ⟨hat, hlen⟩ := rst_at s T K hT (esc s 0) (List.prefix_refl _)
    have hle := atE_le s
    have HR := Aside0.mk (show repl s T K = strOfNums ((rst s T K (esc s 0)).1 ++ bytesOf (s.extract (rst s T K (esc s 0)).2 s.size)) from rfl)
    obtain ⟨a, ha⟩ : ∃ a, a = (rst s T K (esc s 0)).2 := ⟨_, rfl⟩
    obtain ⟨xs, hxs⟩ : ∃ xs, xs = (rst s T K (esc s 0)).1 := ⟨_, rfl⟩
    rw [← ha] at hat hlen
    rw [← hxs] at hlen
    rw [← hxs, ← ha] at hJ HR
    have q0 := hJ.h0.cell
    have q3 := hJ.h3.cell
    have q2 := hJ.h2.cell
    have hsz : (s.extract a s.size).size = s.size - a := by rw [ByteArray.size_extract]; omega
    obtain ⟨v1, w1, hrun1, ho1, hg⟩ := append_run W.drew (w.heap.size + 1 + 1 + 1 + 1 + 1) v xs (s.extract a s.size) hJ.ho (by omega) hJ.sz
    obtain ⟨A1, n1, m1, rfl⟩ := own_slice' ho1
    have hcv := own_string Try.underlying36 Try.underlying5 Try.underlying9 ho1
    have hK' : w1.heap[D]? = some (.deferred (some [])) := (hg.block D (Array.getElem?_eq_some_iff.1 hK).1 (fun e => by
      obtain ⟨cells, hcl⟩ := own_typed hJ.ho D e.symm
      rw [show W.heap[D]? = _ from hK] at hcl
      cases hcl)).trans hK
    have hB1 : Below w.heap.size w w1 := hB.grown (w' := w1) (row := v.ownBlock) ⟨hg.os, hg.tape, hg.output, hg.size, hg.block⟩ hB.size (fun k hk => by have := own_base hJ.ho k hk; omega)
    have p1 : (0 : Int) ≤ (a : Int) := by omega
    have p2 : (a : Int) ≤ (s.size : Int) := by omega
    have HJ := Aside0.mk hJ
    have HB1 := Aside0.mk hB1
    have HK := Aside0.mk hK'
    clear ha hxs hJ hB1 hK' hI hB hK ho1 hg
    gi_wp2
    apply cutX
    · intro H
      gi_region
      all_goals exact H
    clear hrun1 q0 q2 q3 hcv
    gi_wp2
    refine ⟨by simp, .inl ⟨_, _, rfl, run_takeDeferred HK.out, ?_⟩⟩
    refine ⟨.string _, ?_, by rw [HR.out], HB1.out.trans (belowK_b (w := w) (Nat.le_refl _) _ D _ _ (by omega) HK.out rfl rfl)⟩
    simp [results, Try.f20, go_sem]
  case stop =>
    rintro D c pre W _ _ h _
    exact h.elim
end

/-- The escape of a byte. -/
def ofS (b : Int) : ByteArray := strOfNums [37, hexD (b / 16).toNat, hexD (b % 16).toNat]
theorem ofS_size (b : Int) : (ofS b).size ≤ 3 := Nat.le_refl _
theorem ofS_all : ∀ b : Nat, b < 256 → escape_Of.f 30 (b : Int) = some (ofS b) := by decide +kernel
theorem of_eq (b : Int) (h0 : 0 ≤ b) (h1 : b ≤ 255) : escape_Of.f 30 b = some (ofS b) := by
  have := ofS_all b.toNat (by omega)
  rwa [Int.toNat_of_nonneg h0] at this
def clsV (b : Int) : Int := (octet_Class.f 30 b).getD 0
theorem clsV_all : ∀ b : Nat, b < 256 → octet_Class.f 30 (b : Int) = some (clsV b) := by decide +kernel
def isB (b c : Int) : Bool := (Go.bits .and .i64 (clsV b) c) != 0
theorem is_eq (b c : Int) (h0 : 0 ≤ b) (h1 : b ≤ 255) : octet_Is.f 30 b c = some (isB b c) := by
  have := clsV_all b.toNat (by omega)
  rw [Int.toNat_of_nonneg h0] at this
  unfold octet_Is.f
  rw [this]
  rfl
def oneS (b : Int) : ByteArray := strOfNums [b]
theorem one_conv (X : World) (g : Nat) (b : Int) (h : X.heap[g]? = some (.cells #[.int .u8 b] 5)) : Sem.run Try.prog (convert 36 9 (.slice (some ⟨g, 0, none⟩) 1 1)) X = .ok (.string (oneS b)) X :=
  own_string (base := g) (n := 1) (e' := 5) (xs := [b]) Try.underlying36 Try.underlying5 Try.underlying9 ⟨rfl, .inr ⟨g, 1, _, rfl, Nat.le_refl _, h, Nat.le_refl _, by unfold maxLen; omega, rfl, rfl⟩⟩
section
attribute [local go_sem] Oper.semAt_some
theorem tell21 (W : World) (i b : Int) (h0 : 0 ≤ b) (h1 : b ≤ 255) : Calls Try.prog 21 (#[.int .i64 i, .int .u8 b] ++ #[]) W fun e w' => e = .returned (.tuple #[.string (ofS b), .bool true]) ∧ Below W.heap.size W w' := by
  have HC := Aside0.mk (fun W => escape_Of.calls 30 b (ofS b) W (of_eq b h0 h1))
  show Calls Try.prog 21 #[.int .i64 i, .int .u8 b] W _
  go_enter Try.func21, Try.ntmps21
  go_wp2_with (go_at_call 11; refine (HC.out _).mono ?_; rintro e w' ⟨rfl, hb⟩; have HB := Aside0.mk hb; clear hb)
  go_ret2
  exact ⟨rfl, HB.out⟩
theorem tell29 (W : World) (i b : Int) (h0 : 0 ≤ b) (h1 : b ≤ 255) : Calls Try.prog 29 (#[.int .i64 i, .int .u8 b] ++ #[]) W fun e w' => e = .returned (.tuple #[.string (oneS b), .bool true]) ∧ Below W.heap.size W w' := by
  show Calls Try.prog 29 #[.int .i64 i, .int .u8 b] W _
  have hcv := one_conv (W.alloc (.cells #[.int .u8 b] 5)) W.heap.size b (World.alloc_heap_new _ _)
  go_enter Try.func29, Try.ntmps29
  go_wp2
  go_ret2
  exact ⟨rfl, below_alloc (Below.refl _ _) _⟩
set_option maxHeartbeats 4000000 in
theorem tell22 (W : World) (c i b : Int) (B : Nat) (hc : Boxed W B 3 (.int .i64 c)) (h0 : 0 ≤ b) (h1 : b ≤ 255) : Calls Try.prog 22 (#[.int .i64 i, .int .u8 b] ++ #[.pointer (some ⟨B, 0, none⟩)]) W fun e w' => e = .returned (.tuple #[.string (oneS b), .bool (isB b c)]) ∧ Below W.heap.size W w' := by
  have HC := Aside0.mk (fun W => octet_Is.calls 30 b c (isB b c) W (is_eq b c h0 h1))
  show Calls Try.prog 22 #[.int .i64 i, .int .u8 b, .pointer (some ⟨B, 0, none⟩)] W _
  have k := hc.cell
  have k1 := (hc.alloc (.cells #[.int .u8 b] 5)).cell
  have hcv := fun (n m : Nat) => one_conv (((W.drewN n).alloc (.cells #[.int .u8 b] 5)).drewN m) W.heap.size b (World.alloc_heap_new (W.drewN n) _)
  have hcv0 := fun (m : Nat) => one_conv (((W.drew).alloc (.cells #[.int .u8 b] 5)).drewN m) W.heap.size b (World.alloc_heap_new (W.drew) _)
  have hcv1 := fun (n : Nat) => one_conv (((W.drewN n).alloc (.cells #[.int .u8 b] 5))) W.heap.size b (World.alloc_heap_new (W.drewN n) _)
  have hcv2 := one_conv ((W.drew).alloc (.cells #[.int .u8 b] 5)) W.heap.size b (World.alloc_heap_new (W.drew) _)
  have hcv4 := one_conv ((W.alloc (.cells #[.int .u8 b] 5)).drew) W.heap.size b (World.alloc_heap_new W _)
  have hcv5 := fun n => one_conv ((W.alloc (.cells #[.int .u8 b] 5)).drewN n) W.heap.size b (World.alloc_heap_new W _)
  have hcv6 := fun n => one_conv (((W.alloc (.cells #[.int .u8 b] 5)).drew).drewN n) W.heap.size b (World.alloc_heap_new W _)
  have hcv7 := fun n => one_conv (((W.alloc (.cells #[.int .u8 b] 5)).drewN n).drew) W.heap.size b (World.alloc_heap_new W _)
  have hcv3 := fun (n : Nat) => one_conv (((W.drew).drewN n).alloc (.cells #[.int .u8 b] 5)) W.heap.size b (World.alloc_heap_new ((W.drew).drewN n) _)
  go_enter Try.func22, Try.ntmps22
  go_wp2
  go_region_with (go_at_call 23; refine (HC.out _).mono ?_; rintro e w' ⟨rfl, ⟨n, rfl⟩⟩)
  all_goals (go_wp2; go_ret2; refine ⟨rfl, ?_⟩; repeat (first | (with_reducible first | exact Below.refl _ _ | apply below_alloc | apply pw_below_drewN | apply below_drew1)))
/-! ### Upper, Some, Decode -/
theorem upper_calls (s : ByteArray) (hs : s.size ≤ 1048576) (w : World) : Calls Try.prog 8 #[.string s] w fun e w' => e = .returned (.string (repl s ofS (fun _ => true))) ∧ Below w.heap.size w w' := by
  have HC := Aside0.mk (fun W => callsIn_wide.1 (replace21_in s hs ofS (fun _ => true) ofS_size #[] W (fun W' i b _ h0 h1 => tell21 W' i b h0 h1)))
  go_enter Try.func8, Try.ntmps8
  go_wp2_with (go_at_call 20; refine (HC.out _).mono ?_; rintro e w' ⟨rfl, hb⟩; have HB := Aside0.mk hb; clear hb)
  go_ret
  exact ⟨rfl, HB.out⟩
theorem some_calls (s : ByteArray) (c : Int) (hs : s.size ≤ 1048576) (w : World) : Calls Try.prog 9 #[.string s, .int .i64 c] w fun e w' => e = .returned (.string (repl s oneS (fun b => isB b c))) ∧ Below w.heap.size w w' := by
  have HC := Aside0.mk (callsIn_wide.1 (replace22_in s hs oneS (fun b => isB b c) (fun b => (by decide : 1 ≤ 3)) #[.pointer (some ⟨w.heap.size, 0, none⟩)] (w.alloc (.cells #[.int .i64 c] 3)) (fun W' i b hB h0 h1 => tell22 W' c i b w.heap.size (boxed_below (Boxed.new w 3 (.int .i64 c)) hB) h0 h1)))
  go_enter Try.func9, Try.ntmps9
  go_wp2_with (go_at_call 20; refine (HC.out).mono ?_; rintro e w' ⟨rfl, hb⟩; have HB := Aside0.mk hb; clear hb)
  go_ret
  exact ⟨rfl, below_then (below_alloc (Below.refl _ _) _) (by simp) HB.out⟩
theorem decode_calls (s : ByteArray) (hs : s.size ≤ 1048576) (w : World) : Calls Try.prog 16 #[.string s] w fun e w' => e = .returned (.tuple #[.string (if rightB s then repl s oneS (fun _ => true) else ⟨#[]⟩), .bool (rightB s)]) ∧ Below w.heap.size w w' := by
  have HR := Aside0.mk (fun W => callsIn_wide.1 (right_in s hs W))
  have HC := Aside0.mk (fun W => callsIn_wide.1 (replace29_in s hs oneS (fun _ => true) (fun b => (by decide : 1 ≤ 3)) #[] W (fun W' i b _ h0 h1 => tell29 W' i b h0 h1)))
  cases hr : rightB s with
  | false =>
    rw [hr] at HR
    go_enter Try.func16, Try.ntmps16
    go_wp2_with (go_at_call 18; refine (HR.out _).mono ?_; rintro e w' ⟨rfl, hb⟩; have HB := Aside0.mk hb; clear hb)
    go_ret2
    exact ⟨rfl, HB.out⟩
  | true =>
    rw [hr] at HR
    go_enter Try.func16, Try.ntmps16
    go_wp2_with (first | (go_at_call 18; refine (HR.out _).mono ?_; rintro e w' ⟨rfl, hb⟩; have HB := Aside0.mk hb; clear hb) | (go_at_call 20; refine (HC.out _).mono ?_; rintro e w' ⟨rfl, hb⟩; have HB1 := Aside0.mk hb; clear hb))
    go_ret2
    exact ⟨rfl, below_then HB.out HB.out.size HB1.out⟩
end

/-! ### escape_Some: function 9 (own text) -/
def escape_Some.f (a0 : ByteArray) (a1 : Int) : Option (ByteArray) := if a0.size ≤ 1048576 then some (repl a0 oneS (fun b => isB b a1)) else none
theorem escape_Some.calls (a0 : ByteArray) (a1 : Int) (r : ByteArray) (w : World) (h : escape_Some.f a0 a1 = some r) :
    Calls Try.prog 9 #[.string a0, .int .i64 a1] w fun e w' => e = .returned (.string r) ∧ Below w.heap.size w w' := by
  unfold escape_Some.f at h
  split at h
  · rename_i hs
    have e := Option.some.inj h
    rw [← e]
    exact some_calls a0 a1 hs w
  · cases h

end Go.Proofs.Ytamahbpkekbokaa.PAll
