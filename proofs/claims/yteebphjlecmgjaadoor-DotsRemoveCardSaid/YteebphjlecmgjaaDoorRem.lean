/- What the printed functions on dot segments answer, in terms of a path's segments. Conditions: the path is of at most 300 bytes, where a lemma says so. -/
import Derived.Test.YteebphjlecmgjaaDoorSeg
namespace Go.Proofs.YteebphjlecmgjaaDoor.Rem
open Go.RowKit Go.Proofs.YteebphjlecmgjaaDoor.PAll Go.Proofs.YteebphjlecmgjaaDoor.By Go.Proofs.YteebphjlecmgjaaDoor.Seg Go.Proofs.YteebphjlecmgjaaDoorW.PrintWords Go.Proofs.YteebphjlecmgjaaDoorW.PrintLast
set_option linter.unusedVariables false
theorem awake_ev : Ev (fun k => monikerlaw23_awake.f k) true := by
  refine Ev.of (fun k => monikerlaw23_awake.mono k) (k := 24) ?_
  decide +kernel
theorem w64 {x : Int} (h1 : -9223372036854775808 ≤ x) (h2 : x ≤ 9223372036854775807) : wrap64 x = x := by unfold wrap64; omega
/-! ### front -/
def inB (l : List Int) : Prop := ∀ x ∈ l, 0 ≤ x ∧ x ≤ 255
theorem frontL_mem : ∀ (f : Nat) (l : List Int), ∀ x ∈ frontL f l, x ∈ l
  | 0, l, x, hx => hx
  | f + 1, l, x, hx => by
    unfold frontL at hx
    split at hx
    · exact List.mem_of_mem_drop (frontL_mem f _ x hx)
    split at hx
    · exact List.mem_of_mem_drop (frontL_mem f _ x hx)
    split at hx
    · cases hx
    split at hx
    · cases hx
    · exact hx
theorem remL_mem : ∀ (f : Nat) (out rest : List Int), inB out → inB rest → inB (remL f out rest)
  | 0, out, rest, ho, _ => by unfold remL; exact ho
  | f + 1, out, rest, ho, hr => by
    have hd : inB (rest.drop (pieceL rest).length) := fun x hx => hr x (List.mem_of_mem_drop hx)
    have ht : inB (out.take (ups out)) := fun x hx => ho x (List.mem_of_mem_take hx)
    have h47 : ∀ o : List Int, inB o → inB (o ++ [47]) := fun o h x hx => (List.mem_append.1 hx).elim (h x) (fun e => by rw [List.mem_singleton.1 e]; decide)
    unfold remL
    split
    · exact ho
    split
    · refine remL_mem f _ _ ?_ hd
      split
      · exact h47 _ ht
      · exact ht
    split
    · refine remL_mem f _ _ ?_ hd
      split
      · exact h47 _ ho
      · exact ho
    · refine remL_mem f _ _ (fun x hx => (List.mem_append.1 hx).elim (ho x) (fun e => hr x ?_)) hd
      cases rest with
      | nil => cases e
      | cons c t =>
        simp only [pieceL, List.mem_cons] at e ⊢
        exact e.imp_right (fun h => (List.takeWhile_sublist _).subset h)
def cutB (s p : ByteArray) : Bool := decide (p.size ≤ s.size ∧ (s.extract 0 p.size).toList = p.toList)
theorem cut_eq (s p : ByteArray) : strings_CutPrefix.f s p = some (if cutB s p = true then (s.extract p.size s.size, true) else (s, false)) := by
  unfold strings_CutPrefix.f stringslite_CutPrefix.f stringslite_HasPrefix.f cutB
  by_cases h : p.size ≤ s.size
  · rw [if_pos (by omega), if_pos (by omega), if_pos (by omega)]
    simp only [Int.toNat_natCast, Option.bind_some]
    by_cases e : (s.extract 0 p.size).toList = p.toList
    · rw [decide_eq_true ⟨h, e⟩, beq_iff_eq.2 e]
      simp only [if_true]
      rw [if_pos (by omega), if_pos (by omega)]
      rfl
    · rw [decide_eq_false (fun x => e x.2), beq_eq_false_iff_ne.2 e]
      rfl
  · rw [if_neg (by omega), decide_eq_false (fun x => h x.1)]
    rfl
theorem take_size {s p : ByteArray} (h : (bytesOf s).take p.size = bytesOf p) : p.size ≤ s.size := by
  have := congrArg List.length h
  rw [List.length_take, bytesOf_length, bytesOf_length] at this
  omega
theorem cutB_iff (s p : ByteArray) : cutB s p = true ↔ (bytesOf s).take p.size = bytesOf p := by
  unfold cutB
  rw [decide_eq_true_iff, toList_iff, bytes_extract, List.drop_zero, Nat.sub_zero]
  exact ⟨fun h => h.2, fun h => ⟨take_size h, h⟩⟩
theorem drop_bytes (s : ByteArray) (n : Nat) : bytesOf (s.extract n s.size) = (bytesOf s).drop n := by
  rw [bytes_extract, List.take_of_length_le]
  rw [List.length_drop, bytesOf_length]
  omega
theorem is_dot (s : ByteArray) : s.toList = ([46] : List UInt8) ↔ bytesOf s = [46] := by
  rw [show ([46] : List UInt8) = (⟨#[46]⟩ : ByteArray).toList by rw [Lib.toList_data], toList_iff]
  exact Iff.rfl
theorem is_dots (s : ByteArray) : s.toList = ([46, 46] : List UInt8) ↔ bytesOf s = [46, 46] := by
  rw [show ([46, 46] : List UInt8) = (⟨#[46, 46]⟩ : ByteArray).toList by rw [Lib.toList_data], toList_iff]
  exact Iff.rfl
theorem front_ev : ∀ (n : Nat) (s : ByteArray), s.size ≤ n → Ev (fun k => dots_front.l0 k s) (strOfNums (frontL n (bytesOf s))) := by
  intro n
  induction n with
  | zero =>
    intro s hs
    have hb : bytesOf s = [] := bytes_empty.2 (by omega)
    have c1 : ¬ cutB s (⟨#[46, 47]⟩ : ByteArray) = true := fun h => by have := (cutB_iff _ _).1 h; rw [hb] at this; exact absurd this (by decide)
    have c2 : ¬ cutB s (⟨#[46, 46, 47]⟩ : ByteArray) = true := fun h => by have := (cutB_iff _ _).1 h; rw [hb] at this; exact absurd this (by decide)
    have n1 : ¬ s.toList = ([46] : List UInt8) := fun h => by have := (is_dot s).1 h; rw [hb] at this; exact absurd this (by decide)
    have n2 : ¬ s.toList = ([46, 46] : List UInt8) := fun h => by have := (is_dots s).1 h; rw [hb] at this; exact absurd this (by decide)
    refine Ev.step (f := fun _ => some s) (fun k => ?_) ?_
    · simp only [dots_front.l0, cut_eq, c1, c2, Option.bind_some, Bool.false_eq_true, if_false, n1, n2]
    · show Ev (fun _ => some s) (strOfNums (bytesOf s))
      rw [str_bytes]
      exact Ev.now _
  | succ n ih =>
    intro s hs
    unfold frontL
    by_cases c1 : cutB s (⟨#[46, 47]⟩ : ByteArray) = true
    · have e := (cutB_iff _ _).1 c1
      have hp := take_size e
      rw [if_pos (show (bytesOf s).take 2 = [46, 47] from e), ← drop_bytes]
      refine Ev.step (fun k => ?_) (ih (s.extract 2 s.size) ?_)
      · simp only [dots_front.l0, cut_eq, c1, Option.bind_some, if_true]
        rfl
      · have h2 : (⟨#[46, 47]⟩ : ByteArray).size = 2 := rfl
        rw [ByteArray.size_extract]
        omega
    rw [if_neg (show ¬ (bytesOf s).take 2 = [46, 47] from fun e => c1 ((cutB_iff _ _).2 e))]
    by_cases c2 : cutB s (⟨#[46, 46, 47]⟩ : ByteArray) = true
    · have e := (cutB_iff _ _).1 c2
      have hp := take_size e
      rw [if_pos (show (bytesOf s).take 3 = [46, 46, 47] from e), ← drop_bytes]
      refine Ev.step (fun k => ?_) (ih (s.extract 3 s.size) ?_)
      · simp only [dots_front.l0, cut_eq, c1, c2, Option.bind_some, Bool.false_eq_true, if_false, if_true]
        rfl
      · have h2 : (⟨#[46, 46, 47]⟩ : ByteArray).size = 3 := rfl
        rw [ByteArray.size_extract]
        omega
    rw [if_neg (show ¬ (bytesOf s).take 3 = [46, 46, 47] from fun e => c2 ((cutB_iff _ _).2 e))]
    by_cases n1 : s.toList = ([46] : List UInt8)
    · rw [if_pos ((is_dot s).1 n1)]
      refine Ev.step (f := fun _ => some ⟨#[]⟩) (fun k => ?_) (Ev.now _)
      simp only [dots_front.l0, cut_eq, c1, c2, Option.bind_some, Bool.false_eq_true, if_false, n1, if_true]
    rw [if_neg (fun e => n1 ((is_dot s).2 e))]
    by_cases n2 : s.toList = ([46, 46] : List UInt8)
    · rw [if_pos ((is_dots s).1 n2)]
      refine Ev.step (f := fun _ => some ⟨#[]⟩) (fun k => ?_) (Ev.now _)
      simp only [dots_front.l0, cut_eq, c1, c2, Option.bind_some, Bool.false_eq_true, if_false]
      rw [if_neg n1, if_pos n2]
    rw [if_neg (fun e => n2 ((is_dots s).2 e)), str_bytes]
    refine Ev.step (f := fun _ => some s) (fun k => ?_) (Ev.now _)
    simp only [dots_front.l0, cut_eq, c1, c2, Option.bind_some, Bool.false_eq_true, if_false, n1, n2]
theorem remL_len : ∀ (f : Nat) (out rest : List Int), (remL f out rest).length ≤ out.length + rest.length
  | 0, out, rest => by unfold remL; omega
  | f + 1, out, rest => by
    unfold remL
    by_cases h : rest = []
    · rw [if_pos h]; omega
    rw [if_neg h]
    obtain ⟨c, a, r', hd, ha, hr, hp, hdr⟩ := decomp rest h
    have hl : rest.length = 1 + a.length + r'.length := by rw [hd]; simp; omega
    have ht : (out.take (ups out)).length ≤ out.length := by rw [List.length_take]; omega
    rw [hdr, hp]
    have key := fun o => remL_len f o r'
    split
    · refine Nat.le_trans (key _) ?_
      split
      · rw [List.length_append, List.length_singleton]; omega
      · omega
    split
    · refine Nat.le_trans (key _) ?_
      split
      · rw [List.length_append, List.length_singleton]; omega
      · omega
    · refine Nat.le_trans (key _) ?_
      rw [List.length_append, List.length_cons]; omega
theorem rem_len (l : List Int) : (rem l).length ≤ l.length := by
  have h1 := remL_len ((frontL l.length l).length + 1) [] (frontL l.length l)
  have h2 := frontL_len l.length l
  unfold rem
  simp only [List.length_nil] at h1
  omega
theorem rem_inB {l : List Int} (h : inB l) : inB (rem l) := remL_mem _ _ _ (fun x hx => by cases hx) (fun x hx => h x (frontL_mem _ _ x hx))
/-- What is left of a path, as a text. -/
def remS (s : ByteArray) : ByteArray := strOfNums (rem (bytesOf s))
theorem remS_bytes (s : ByteArray) : bytesOf (remS s) = rem (bytesOf s) := bytes_str _ (rem_inB (bytes_range s))
theorem rem_ev (s : ByteArray) (hs : s.size ≤ 300) : Ev (fun k => dots_Remove.f k s) (remS s) := by
  have hf := front_ev s.size s (Nat.le_refl _)
  unfold dots_Remove.f
  have hl := frontL_len s.size (bytesOf s)
  rw [bytesOf_length] at hl
  have hz : (strOfNums (frontL s.size (bytesOf s))).size = (frontL s.size (bytesOf s)).length := strOfNums_size _
  refine Ev.bind (g := fun k => dots_front.f k s) hf ?_
  rw [hz, if_pos (by omega), bytes_str _ (fun x hx => bytes_range s x (frontL_mem _ _ x hx))]
  have : remS s = strOfNums (remL ((frontL s.size (bytesOf s)).length + 1) [] (frontL s.size (bytesOf s))) := by
    unfold remS rem
    rw [bytesOf_length]
  rw [← this]
  exact Ev.now _
/-! ### the document's -/
theorem cut_from (o : ByteArray) (ho : o.size ≤ 400) : ∀ (d i : Nat), i + d = o.size → Ev (fun k => monikerref23_cut.l0 k o ((upL (bytesOf o) (i - 1) : Nat) : Int) (i : Int)) (strOfNums ((bytesOf o).take (ups (bytesOf o)))) := by
  intro d
  induction d with
  | zero =>
    intro i hi
    have hu := upL_le (bytesOf o) (i - 1)
    refine Ev.step (f := fun _ => some (o.extract 0 (upL (bytesOf o) (i - 1)))) (fun k => ?_) ?_
    · simp only [monikerref23_cut.l0]
      rw [if_neg (by omega), if_pos (by omega), if_pos (by omega), Int.toNat_natCast]
    · have e : o.extract 0 (upL (bytesOf o) (i - 1)) = strOfNums ((bytesOf o).take (ups (bytesOf o))) := by
        have e1 : bytesOf (o.extract 0 (upL (bytesOf o) (i - 1))) = (bytesOf o).take (ups (bytesOf o)) := by
          rw [bytes_extract, List.drop_zero, Nat.sub_zero]
          unfold ups
          rw [bytesOf_length, show i = o.size by omega]
        rw [← e1, str_bytes]
      rw [e]
      exact Ev.now _
  | succ d ih =>
    intro i hi
    refine Ev.step (fun k => ?_) (ih (i + 1) (by omega))
    simp only [monikerref23_cut.l0]
    have hu := upL_le (bytesOf o) (i - 1)
    rw [if_pos (by omega), if_pos (by omega), bt_getD, w64 (by omega) (by omega), show ((i : Int) + 1) = ((i + 1 : Nat) : Int) by omega, Nat.add_sub_cancel]
    cases i with
    | zero =>
      show _ = monikerref23_cut.l0 k o ((upL (bytesOf o) 0 : Nat) : Int) ((0 + 1 : Nat) : Int)
      split <;> rfl
    | succ m =>
      rw [Nat.add_sub_cancel]
      conv => rhs; rw [upL]
      by_cases h : (bytesOf o).getD (m + 1) 0 = 47
      · rw [if_pos h, if_pos h]
      · rw [if_neg h, if_neg h]
theorem cut_ev (o : ByteArray) (ho : o.size ≤ 400) : Ev (fun k => monikerref23_cut.f k o) (strOfNums ((bytesOf o).take (ups (bytesOf o)))) := cut_from o ho o.size 0 (by omega)
theorem begins_eq (s p : ByteArray) : monikerref23_begins.f s p = some (cutB s p) := by
  unfold monikerref23_begins.f cutB
  by_cases h : p.size ≤ s.size
  · rw [if_pos (by omega), if_pos (by omega), if_pos (by omega)]
    simp only [Int.toNat_natCast]
    by_cases e : (s.extract 0 p.size).toList = p.toList
    · rw [decide_eq_true ⟨h, e⟩, beq_iff_eq.2 e]
    · rw [decide_eq_false (fun x => e x.2), beq_eq_false_iff_ne.2 e]
  · rw [if_neg (by omega), decide_eq_false (fun x => h x.1)]
theorem begins_iff (s p : ByteArray) (l : List Int) (h : bytesOf p = l) : cutB s p = true ↔ (bytesOf s).take l.length = l := by
  rw [cutB_iff, h, ← h, bytesOf_length]
theorem is_list (s : ByteArray) (l : List UInt8) (m : List Int) (h : bytesOf ⟨l.toArray⟩ = m) : s.toList = l ↔ bytesOf s = m := by
  rw [← h, ← toList_iff, Lib.toList_data (⟨l.toArray⟩ : ByteArray)]
/-- The first segment of what is read, from its second byte on: where it ends. -/
theorem seg_from (x o : ByteArray) (c : Int) (a r' : List Int) (hx : bytesOf x = c :: (a ++ r')) (ha : ∀ y ∈ a, y ≠ 47) (hr : r' = [] ∨ sl r') (hs : x.size ≤ 400) (ho : o.size ≤ 400) {res : ByteArray}
    (hk : Ev (fun k => monikerref23_Remove.l0 k (strOfNums r') (o ++ strOfNums (c :: a))) res) : ∀ (d i : Nat), i + d = a.length → Ev (fun k => monikerref23_Remove.l1 k x o ((i + 1 : Nat) : Int)) res := by
  have hlen : x.size = 1 + a.length + r'.length := by rw [← bytesOf_length, hx]; simp; omega
  have e1 : x.extract 0 (a.length + 1) = strOfNums (c :: a) := by
    rw [← str_bytes (x.extract 0 (a.length + 1)), bytes_extract, hx]
    simp
  have e2 : x.extract (a.length + 1) x.size = strOfNums r' := by
    rw [← str_bytes (x.extract (a.length + 1) x.size), drop_bytes, hx]
    simp
  have hfin : Ev (fun k => monikerref23_Remove.l1 k x o ((a.length + 1 : Nat) : Int)) res := by
    refine Ev.step (fun k => ?_) hk
    simp only [monikerref23_Remove.l1]
    have hsz : o.size + (x.extract 0 (a.length + 1)).size ≤ 9223372036854775807 := by rw [ByteArray.size_extract]; omega
    rcases hr with rfl | ⟨t, rfl⟩
    · have hl0 : x.size = a.length + 1 := by simp at hlen; omega
      rw [if_neg (by omega), if_pos (by omega), if_pos (by omega), Int.toNat_natCast, if_pos hsz, e1, e2]
    · have hl0 : a.length + 1 < x.size := by simp at hlen; omega
      rw [if_pos (by omega), if_pos (by omega), bt_getD, hx]
      have h47 : (c :: (a ++ 47 :: t)).getD (a.length + 1) 0 = 47 := by simp [List.getD_eq_getElem?_getD]
      rw [if_pos h47, if_pos (by omega), Int.toNat_natCast, if_pos hsz, e1, e2]
  intro d
  induction d with
  | zero =>
    intro i hi
    rw [show i = a.length by omega]
    exact hfin
  | succ d ih =>
    intro i hi
    refine Ev.step (fun k => ?_) (ih (i + 1) (by omega))
    simp only [monikerref23_Remove.l1]
    have hne : (c :: (a ++ r')).getD (i + 1) 0 ≠ 47 := by
      have hlt : i < a.length := by omega
      have : (c :: (a ++ r')).getD (i + 1) 0 = a[i] := by simp [List.getD_eq_getElem?_getD, List.getElem?_append_left hlt, hlt]
      rw [this]
      exact ha _ (List.getElem_mem hlt)
    rw [if_pos (by omega), if_pos (by omega), bt_getD, hx, if_neg hne, w64 (by omega) (by omega), show (((i + 1 : Nat) : Int) + 1) = ((i + 1 + 1 : Nat) : Int) by omega]
end Go.Proofs.YteebphjlecmgjaaDoor.Rem
