/- The pure law DotsRemove: of any path just that is left which the rules leave; it has no dot segments, and stays. Condition: the path is within the form's reach. -/
import Derived.Test.YteebphjlecmgjaaDoorRef
namespace Go.Proofs.YteebphjlecmgjaaDoor.Pure
open Go.RowKit Go.Proofs.YteebphjlecmgjaaDoor.PAll Go.Proofs.YteebphjlecmgjaaDoor.By Go.Proofs.YteebphjlecmgjaaDoor.Seg Go.Proofs.YteebphjlecmgjaaDoor.Rem Go.Proofs.YteebphjlecmgjaaDoorW.PrintWords Go.Proofs.YteebphjlecmgjaaDoorW.PrintLast
set_option linter.unusedVariables false
def dotB (s : List Int) : Bool := decide (s = [46]) || decide (s = [46, 46])
def hasB (l : List Int) : Bool := (segs l).any dotB
theorem dotB_false {s : List Int} : dotB s = false ↔ ok s := by
  unfold dotB ok
  rw [Bool.or_eq_false_iff, decide_eq_false_iff_not, decide_eq_false_iff_not]
theorem hasB_false {l : List Int} : hasB l = false ↔ free l := by
  unfold hasB free
  rw [List.any_eq_false]
  exact ⟨fun h s hs => dotB_false.1 (Bool.eq_false_iff.2 (h s hs)), fun h s hs => Bool.eq_false_iff.1 (dotB_false.2 (h s hs))⟩
/-! ### strings.Split -/
def num (b : UInt8) : Int := (b.toNat : Int)
theorem num_slash {b : UInt8} : num b = 47 ↔ b = 47 := by
  unfold num
  constructor
  · intro h
    have : b.toNat = (47 : UInt8).toNat := by show b.toNat = 47; omega
    exact UInt8.toNat_inj.1 this
  · rintro rfl; rfl
theorem split_cons (b : UInt8) (hb : b ≠ 47) (t : List UInt8) : ∀ k s r, Lib.splitK [47] 0 k t = s :: r → Lib.splitK [47] 0 k (b :: t) = (b :: s) :: r
  | 0, s, r, h => by
    simp only [Lib.splitK, List.cons.injEq] at h ⊢
    exact ⟨⟨trivial, h.1⟩, h.2⟩
  | k + 1, s, r, h => by
    have hb2 : (b == 47) = false := beq_eq_false_iff_ne.2 hb
    simp only [Lib.splitK, Lib.index_one] at h ⊢
    have hge := Lib.indexByte_ge t 47
    by_cases hi : Lib.indexByte t 47 = -1
    · have h2 : Lib.indexByte (b :: t) 47 = -1 := by rw [Lib.indexByte, hb2, hi]; rfl
      rw [hi] at h
      rw [h2]
      simp only [beq_self_eq_true, if_true, List.cons.injEq] at h ⊢
      exact ⟨⟨trivial, h.1⟩, h.2⟩
    · have h2 : Lib.indexByte (b :: t) 47 = Lib.indexByte t 47 + 1 := by
        rw [Lib.indexByte, hb2]
        simp only [Bool.false_eq_true, if_false]
        rw [if_neg (by simpa using hi)]
      have e1 : (Lib.indexByte t 47 == -1) = false := beq_eq_false_iff_ne.2 hi
      have e2 : (Lib.indexByte t 47 + 1 == -1) = false := beq_eq_false_iff_ne.2 (by omega)
      rw [e1] at h
      rw [h2, e2]
      have e3 : (Lib.indexByte t 47 + 1).toNat = (Lib.indexByte t 47).toNat + 1 := by omega
      simp only [Bool.false_eq_true, if_false, Nat.add_zero, List.cons.injEq, List.length_cons, List.length_nil] at h ⊢
      rw [e3]
      refine ⟨?_, ?_⟩
      · rw [List.take_succ_cons, h.1]
      · rw [show (Lib.indexByte t 47).toNat + 1 + (0 + 1) = ((Lib.indexByte t 47).toNat + (0 + 1)) + 1 by omega, List.drop_succ_cons]
        exact h.2
theorem split_segs : ∀ l : List UInt8, (Lib.splitK [47] 0 (l.count 47) l).map (List.map num) = segs (l.map num)
  | [] => rfl
  | b :: t => by
    have ih := split_segs t
    by_cases hb : b = 47
    · subst hb
      rw [List.count_cons_self, Lib.splitK, Lib.index_one, Lib.indexByte]
      simp only [beq_self_eq_true, if_true]
      rw [if_neg (by decide)]
      simp only [List.map_cons]
      rw [segs, if_pos (show num 47 = 47 from rfl), ← ih]
      rfl
    · rw [List.count_cons_of_ne hb]
      cases hs : Lib.splitK [47] 0 (t.count 47) t with
      | nil =>
        rw [hs] at ih
        exact absurd ih.symm (segs_ne _)
      | cons s r =>
        rw [split_cons b hb t _ s r hs]
        rw [hs] at ih
        simp only [List.map_cons] at ih ⊢
        rw [segs, if_neg (fun e => hb (num_slash.1 e)), ← ih]
theorem split_bytes (s : ByteArray) : (Lib.splitB ⟨#[47]⟩ 0 (Lib.countB s ⟨#[47]⟩) s).map bytesOf = segs (bytesOf s) := by
  have h1 := Lib.splitB_data ⟨#[47]⟩ 0 (Lib.countB s ⟨#[47]⟩) s
  have hc : Lib.countB s ⟨#[47]⟩ = s.data.toList.count 47 := Lib.count_one 47 s.data.toList
  have h2 := split_segs s.data.toList
  rw [← hc] at h2
  have h3 : Lib.splitK [47] 0 (Lib.countB s ⟨#[47]⟩) s.data.toList = _ := h1.symm
  rw [h3, List.map_map] at h2
  exact h2
/-! ### Has -/
theorem has_from (L : List ByteArray) (hL : L.length ≤ 400) : ∀ d i : Nat, i + d = L.length → Ev (fun k => dots_Has.l0 k L (L.length : Int) (i : Int)) (((L.drop i).map bytesOf).any dotB) := by
  intro d
  induction d with
  | zero =>
    intro i hi
    refine Ev.step (f := fun _ => some false) (fun k => ?_) ?_
    · simp only [dots_Has.l0]
      rw [if_neg (by omega)]
    · rw [List.drop_eq_nil_of_le (by omega)]
      exact Ev.now _
  | succ d ih =>
    intro i hi
    have hlt : i < L.length := by omega
    have hr : rdOf ByteArray.empty L (i : Int) = L[i] := by unfold rdOf; simp [hlt]
    rw [List.drop_eq_getElem_cons hlt, List.map_cons, List.any_cons]
    by_cases d1 : bytesOf L[i] = [46]
    · refine Ev.step (f := fun _ => some true) (fun k => ?_) ?_
      · simp only [dots_Has.l0, hr]
        rw [if_pos (by omega), if_pos (by omega), if_pos (by omega), if_pos ((is_dot _).2 d1)]
      · rw [show dotB (bytesOf L[i]) = true by rw [d1]; decide, Bool.true_or]
        exact Ev.now _
    by_cases d2 : bytesOf L[i] = [46, 46]
    · refine Ev.step (f := fun _ => some true) (fun k => ?_) ?_
      · simp only [dots_Has.l0, hr]
        rw [if_pos (by omega), if_pos (by omega), if_pos (by omega), if_neg (fun e => d1 ((is_dot _).1 e)), if_pos ((is_dots _).2 d2)]
      · rw [show dotB (bytesOf L[i]) = true by rw [d2]; decide, Bool.true_or]
        exact Ev.now _
    · rw [dotB_false.2 ⟨d1, d2⟩, Bool.false_or]
      refine Ev.step (fun k => ?_) (ih (i + 1) (by omega))
      simp only [dots_Has.l0, hr]
      rw [if_pos (by omega), if_pos (by omega), if_pos (by omega), if_neg (fun e => d1 ((is_dot _).1 e)), if_neg (fun e => d2 ((is_dots _).1 e)), w64 (by omega) (by omega)]
      rfl
theorem segs_len : ∀ l : List Int, (segs l).length ≤ l.length + 1
  | [] => Nat.le_refl _
  | c :: t => by
    have := segs_len t
    rw [segs]
    split
    · simp only [List.length_cons]; omega
    · split
      · simp
      · rename_i s r hs
        rw [hs] at this
        simp only [List.length_cons] at this ⊢
        omega
theorem has_ev (s : ByteArray) (hs : s.size ≤ 300) : Ev (fun k => dots_Has.f k s) (hasB (bytesOf s)) := by
  have e := split_bytes s
  have hl : (Lib.splitB ⟨#[47]⟩ 0 (Lib.countB s ⟨#[47]⟩) s).length ≤ 400 := by
    have h1 := segs_len (bytesOf s)
    rw [← e, List.length_map, bytesOf_length] at h1
    omega
  have h := has_from _ hl (Lib.splitB ⟨#[47]⟩ 0 (Lib.countB s ⟨#[47]⟩) s).length 0 (by omega)
  rw [List.drop_zero, e] at h
  refine Ev.congr (f := fun k => dots_Has.l0 k (Lib.splitB ⟨#[47]⟩ 0 (Lib.countB s ⟨#[47]⟩) s) ((Lib.splitB ⟨#[47]⟩ 0 (Lib.countB s ⟨#[47]⟩) s).length : Int) 0) (fun k => ?_) h
  unfold dots_Has.f strings_Split.f
  rw [if_pos rfl, if_pos (by omega)]
  rfl
/-! ### the document's Has -/
/-- The pieces of the first n+1 bytes: all but the last; the last. -/
def pcs (s : ByteArray) : Nat → List ByteArray × ByteArray
  | 0 => ([], s.extract 0 1)
  | n + 1 => if bt s ((n + 1 : Nat) : Int) = 47 then ((pcs s n).1 ++ [(pcs s n).2], s.extract (n + 1) (n + 2)) else ((pcs s n).1, (pcs s n).2 ++ s.extract (n + 1) (n + 2))
def all (s : ByteArray) (n : Nat) : List ByteArray := (pcs s n).1 ++ [(pcs s n).2]
theorem pcs_len (s : ByteArray) : ∀ n, (pcs s n).1.length ≤ n
  | 0 => Nat.le_refl _
  | n + 1 => by
    have := pcs_len s n
    unfold pcs
    split
    · rw [List.length_append, List.length_singleton]; omega
    · exact Nat.le_succ_of_le this
theorem pcs_size (s : ByteArray) : ∀ n, n < s.size → (pcs s n).2.size ≤ n + 1
  | 0, h => by unfold pcs; simp only; rw [ByteArray.size_extract]; omega
  | n + 1, h => by
    have := pcs_size s n (by omega)
    unfold pcs
    split
    · simp only; rw [ByteArray.size_extract]; omega
    · simp only; rw [ByteArray.size_append, ByteArray.size_extract]; omega
theorem rounds_down {n : Nat} {P : Nat → Prop} (h0 : P n) (hs : ∀ i, i < n → P (i + 1) → P i) : ∀ i, i ≤ n → P i := by
  have key : ∀ d i, i + d = n → P i := by
    intro d
    induction d with
    | zero => intro i hi; rw [show i = n by omega]; exact h0
    | succ d ih => intro i hi; exact hs i (by omega) (ih (i + 1) (by omega))
  exact fun i hi => key (n - i) i (by omega)
theorem rd_last (a : List ByteArray) (b : ByteArray) : rdOf ByteArray.empty (a ++ [b]) (a.length : Int) = b := by
  unfold rdOf
  simp
theorem set_last (a : List ByteArray) (b c : ByteArray) : (a ++ [b]).set a.length c = a ++ [c] := by simp
theorem pieces_from (s : ByteArray) (m : Nat) (hs : s.size = m + 1) (hm : m ≤ 301) : ∀ n, n ≤ m → Ev (fun k => monikerref23_Pieces.l0 k s (all s n) ((n + 1 : Nat) : Int)) (all s m) := by
  apply rounds_down
  · refine Ev.step (f := fun k => some (all s m)) (fun k => ?_) (Ev.now _)
    simp only [monikerref23_Pieces.l0]
    rw [if_neg (by omega)]
  · intro n hn ih
    have hl := pcs_len s n
    have hz := pcs_size s n (by omega)
    have hx : (s.extract (n + 1) (n + 2)).size = 1 := by rw [ByteArray.size_extract]; omega
    have hw : wrap64 (((n + 1 : Nat) : Int) + 1) = ((n + 2 : Nat) : Int) := by rw [w64 (by omega) (by omega)]; omega
    have hal : (all s n).length = (pcs s n).1.length + 1 := by unfold all; simp
    by_cases h47 : bt s ((n + 1 : Nat) : Int) = 47
    · refine Ev.step (f := fun k => monikerref23_Pieces.l0 k s (all s (n + 1)) ((n + 1 + 1 : Nat) : Int)) (fun k => ?_) ih
      simp only [monikerref23_Pieces.l0, Option.bind_some, hw]
      have e1 : wrap64 (((all s n ++ [(⟨#[]⟩ : ByteArray)]).length : Int) - 1) = ((all s n).length : Int) := by rw [List.length_append, List.length_singleton, w64 (by omega) (by omega)]; omega
      have e2 : ((all s n ++ [(⟨#[]⟩ : ByteArray)]).length : Int) = ((all s n).length : Int) + 1 := by rw [List.length_append, List.length_singleton]; omega
      rw [e1, e2, rd_last, show ((((all s n).length : Nat) : Int).toNat) = (all s n).length by omega, set_last, show ((((n + 1 : Nat)) : Int).toNat) = n + 1 by omega, show ((((n + 2 : Nat)) : Int).toNat) = n + 2 by omega, hx]
      rw [if_pos (by omega), if_neg (by omega), if_pos (by omega), if_pos h47, if_pos (by omega), if_pos (by omega), if_pos (by omega), if_pos (by omega), if_pos (by omega), if_pos (by decide)]
      have e3 : (⟨#[]⟩ : ByteArray) ++ s.extract (n + 1) (n + 2) = s.extract (n + 1) (n + 2) := by apply bytes_inj; rw [bytes_append]; rfl
      rw [e3]
      have e4 : all s (n + 1) = all s n ++ [s.extract (n + 1) (n + 2)] := by
        conv => lhs; unfold all; rw [pcs, if_pos h47]
        rfl
      rw [e4]
    · refine Ev.step (f := fun k => monikerref23_Pieces.l0 k s (all s (n + 1)) ((n + 1 + 1 : Nat) : Int)) (fun k => ?_) ih
      simp only [monikerref23_Pieces.l0, hw]
      have e1 : wrap64 (((all s n).length : Int) - 1) = ((pcs s n).1.length : Int) := by rw [hal, w64 (by omega) (by omega)]; omega
      rw [e1]
      have e4 : all s (n + 1) = (pcs s n).1 ++ [(pcs s n).2 ++ s.extract (n + 1) (n + 2)] := by
        conv => lhs; unfold all; rw [pcs, if_neg h47]
      rw [e4, show all s n = (pcs s n).1 ++ [(pcs s n).2] from rfl, rd_last, show ((((pcs s n).1.length : Nat) : Int).toNat) = (pcs s n).1.length by omega, set_last, show ((((n + 1 : Nat)) : Int).toNat) = n + 1 by omega, show ((((n + 2 : Nat)) : Int).toNat) = n + 2 by omega, hx]
      rw [List.length_append, List.length_singleton]
      rw [if_pos (by omega), if_neg (by omega), if_pos (by omega), if_neg h47, if_pos (by omega), if_pos (by omega), if_pos (by omega), if_pos (by omega), if_pos (by omega)]
theorem segs_snoc : ∀ (l : List Int) (c : Int), c ≠ 47 → ∃ a b, segs l = a ++ [b] ∧ segs (l ++ [c]) = a ++ [b ++ [c]]
  | [], c, hc => ⟨[], [], rfl, by simp [segs, hc]⟩
  | x :: t, c, hc => by
    obtain ⟨a, b, h1, h2⟩ := segs_snoc t c hc
    rw [List.cons_append, segs, segs, h1, h2]
    by_cases hx : x = 47
    · exact ⟨[] :: a, b, by rw [if_pos hx]; rfl, by rw [if_pos hx]; rfl⟩
    · cases a with
      | nil => exact ⟨[], x :: b, by rw [if_neg hx]; rfl, by rw [if_neg hx]; rfl⟩
      | cons s r => exact ⟨(x :: s) :: r, b, by rw [if_neg hx]; rfl, by rw [if_neg hx]; rfl⟩
/-- The document's pieces are the segments, each with its slash. -/
theorem all_segs (s : ByteArray) (t : List Int) (hs : bytesOf s = 47 :: t) : ∀ n, n < s.size → (all s n).map bytesOf = (segs (t.take n)).map (fun x => 47 :: x)
  | 0, h => by
    unfold all pcs
    simp [bytes_extract, hs, segs]
  | n + 1, h => by
    have ih := all_segs s t hs n (by omega)
    have hlen : s.size = t.length + 1 := by rw [← bytesOf_length, hs]; rfl
    have hn : n < t.length := by omega
    have eb : bt s ((n + 1 : Nat) : Int) = t[n] := by rw [bt_getD, hs]; simp [List.getD_eq_getElem?_getD, hn]
    have ex : bytesOf (s.extract (n + 1) (n + 2)) = [t[n]] := by
      rw [bytes_extract, hs, List.drop_succ_cons, show n + 2 - (n + 1) = 1 by omega, List.drop_eq_getElem_cons hn]
      rfl
    have et : t.take (n + 1) = t.take n ++ [t[n]] := by rw [List.take_succ_eq_append_getElem hn]
    rw [et]
    by_cases h47 : t[n] = 47
    · have e4 : all s (n + 1) = all s n ++ [s.extract (n + 1) (n + 2)] := by
        conv => lhs; unfold all; rw [pcs, if_pos (by rw [eb]; exact h47)]
        rfl
      rw [e4, List.map_append, ih, List.map_singleton, ex, h47, segs_slash, List.map_append]
      rfl
    · have e4 : all s (n + 1) = (pcs s n).1 ++ [(pcs s n).2 ++ s.extract (n + 1) (n + 2)] := by
        conv => lhs; unfold all; rw [pcs, if_neg (by rw [eb]; exact h47)]
      obtain ⟨a, b, h1, h2⟩ := segs_snoc (t.take n) t[n] h47
      rw [h2, e4]
      unfold all at ih
      rw [h1] at ih
      simp only [List.map_append, List.map_singleton] at ih ⊢
      obtain ⟨i1, i2⟩ := List.append_inj' ih rfl
      rw [i1, bytes_append, ex, (List.singleton_inj.1 i2)]
      rfl
theorem refHas_from (L : List ByteArray) (hL : L.length ≤ 400) (S : List (List Int)) (hS : L.map bytesOf = S.map (fun x => 47 :: x)) : ∀ d i : Nat, i + d = L.length → Ev (fun k => monikerref23_Has.l0 k L (i : Int)) ((S.drop i).any dotB) := by
  have hlen : L.length = S.length := by have := congrArg List.length hS; simpa using this
  intro d
  induction d with
  | zero =>
    intro i hi
    refine Ev.step (f := fun _ => some false) (fun k => ?_) ?_
    · simp only [monikerref23_Has.l0]
      rw [if_neg (by omega)]
    · rw [List.drop_eq_nil_of_le (by omega)]
      exact Ev.now _
  | succ d ih =>
    intro i hi
    have hlt : i < L.length := by omega
    have hlt2 : i < S.length := by omega
    have hr : rdOf ByteArray.empty L (i : Int) = L[i] := by unfold rdOf; simp [hlt]
    have hb : bytesOf L[i] = 47 :: S[i] := by
      have h1 : (L.map bytesOf)[i]? = (S.map (fun x => 47 :: x))[i]? := by rw [hS]
      simpa [hlt, hlt2] using h1
    rw [List.drop_eq_getElem_cons hlt2, List.any_cons]
    by_cases d1 : S[i] = [46]
    · refine Ev.step (f := fun _ => some true) (fun k => ?_) ?_
      · simp only [monikerref23_Has.l0, hr]
        rw [if_pos (by omega), if_pos (by omega), if_pos ((is_list _ [47, 46] [47, 46] rfl).2 (by rw [hb, d1]))]
      · rw [show dotB S[i] = true by rw [d1]; decide, Bool.true_or]
        exact Ev.now _
    have n1 : ¬ L[i].toList = ([47, 46] : List UInt8) := fun e => by
      have e2 := (is_list _ [47, 46] [47, 46] rfl).1 e
      rw [hb] at e2
      exact d1 (List.cons.inj e2).2
    by_cases d2 : S[i] = [46, 46]
    · refine Ev.step (f := fun _ => some true) (fun k => ?_) ?_
      · simp only [monikerref23_Has.l0, hr]
        rw [if_pos (by omega), if_pos (by omega), if_neg n1, if_pos ((is_list _ [47, 46, 46] [47, 46, 46] rfl).2 (by rw [hb, d2]))]
      · rw [show dotB S[i] = true by rw [d2]; decide, Bool.true_or]
        exact Ev.now _
    · have n2 : ¬ L[i].toList = ([47, 46, 46] : List UInt8) := fun e => by
        have e2 := (is_list _ [47, 46, 46] [47, 46, 46] rfl).1 e
        rw [hb] at e2
        exact d2 (List.cons.inj e2).2
      rw [dotB_false.2 ⟨d1, d2⟩, Bool.false_or]
      refine Ev.step (fun k => ?_) (ih (i + 1) (by omega))
      simp only [monikerref23_Has.l0, hr]
      rw [if_pos (by omega), if_pos (by omega), if_neg n1, if_neg n2, w64 (by omega) (by omega)]
      rfl
theorem refHas_ev (s : ByteArray) (hs : s.size ≤ 300) : Ev (fun k => monikerref23_Has.f k s) (hasB (bytesOf s)) := by
  have hz : ((⟨#[47]⟩ : ByteArray) ++ s).size = s.size + 1 := by rw [ByteArray.size_append]; show 1 + s.size = s.size + 1; omega
  have hb : bytesOf ((⟨#[47]⟩ : ByteArray) ++ s) = 47 :: bytesOf s := by rw [bytes_append]; rfl
  have hl : (all ((⟨#[47]⟩ : ByteArray) ++ s) s.size).length ≤ 400 := by unfold all; rw [List.length_append, List.length_singleton]; have := pcs_len ((⟨#[47]⟩ : ByteArray) ++ s) s.size; omega
  have p2 : Ev (fun k => monikerref23_Pieces.f k ((⟨#[47]⟩ : ByteArray) ++ s)) (all ((⟨#[47]⟩ : ByteArray) ++ s) s.size) := by
    refine Ev.step (f := fun k => monikerref23_Pieces.l0 k ((⟨#[47]⟩ : ByteArray) ++ s) (all ((⟨#[47]⟩ : ByteArray) ++ s) 0) ((0 + 1 : Nat) : Int)) (fun k => ?_) (pieces_from _ s.size hz (by omega) 0 (by omega))
    have w0 : wrap64 (((1 : Nat) : Int) - 1) = 0 := by unfold wrap64; omega
    have w1 : wrap64 ((0 : Int) + 1) = 1 := by unfold wrap64; omega
    simp only [monikerref23_Pieces.f, monikerref23_Pieces.l0, Option.bind_some, List.nil_append, List.length_singleton, w0, w1]
    have hx : (((⟨#[47]⟩ : ByteArray) ++ s).extract (0 : Int).toNat (1 : Int).toNat).size = 1 := by rw [ByteArray.size_extract, hz]; show min 1 (s.size + 1) - 0 = 1; omega
    have hr : rdOf ByteArray.empty [(⟨#[]⟩ : ByteArray)] 0 = ⟨#[]⟩ := rfl
    rw [hr, hx, hz, if_pos (by omega), if_pos trivial, if_pos (by decide), if_pos (by decide), if_pos (by decide), if_pos (by decide), if_pos (by decide), if_pos (by omega), if_pos (by decide)]
    have e3 : (⟨#[]⟩ : ByteArray) ++ ((⟨#[47]⟩ : ByteArray) ++ s).extract 0 1 = ((⟨#[47]⟩ : ByteArray) ++ s).extract 0 1 := by apply bytes_inj; rw [bytes_append]; rfl
    show monikerref23_Pieces.l0 k ((⟨#[47]⟩ : ByteArray) ++ s) [(⟨#[]⟩ : ByteArray) ++ ((⟨#[47]⟩ : ByteArray) ++ s).extract 0 1] 1 = _
    rw [e3]; rfl
  have ha := all_segs _ (bytesOf s) hb s.size (by omega)
  rw [List.take_of_length_le (by rw [bytesOf_length]; omega)] at ha
  have h := refHas_from _ hl (segs (bytesOf s)) ha (all ((⟨#[47]⟩ : ByteArray) ++ s) s.size).length 0 (by omega)
  rw [List.drop_zero] at h
  unfold monikerref23_Has.f
  have hle : 1 + s.size ≤ 9223372036854775807 := by omega
  simp only [hle, if_true]
  exact Ev.bind p2 h
/-! ### the law -/
theorem count_bytes (s : ByteArray) : (Lib.countByte s.data.toList 47 : Nat) = (bytesOf s).count 47 := by
  unfold Lib.countByte
  have key : ∀ l : List UInt8, l.count 47 = (l.map num).count 47 := by
    intro l
    induction l with
    | nil => rfl
    | cons b t ih =>
      rw [List.map_cons]
      by_cases hb : b = 47
      · subst hb
        rw [List.count_cons_self, ih, show num 47 = 47 from rfl, List.count_cons_self]
      · rw [List.count_cons_of_ne hb, ih, List.count_cons_of_ne (fun e => hb (num_slash.1 e))]
  exact key s.data.toList
theorem depth_ev (s : ByteArray) (hs : s.size ≤ 300) : Ev (fun k => dots_Depth.f k s) (((rem (bytesOf s)).count 47 : Nat) : Int) := by
  unfold dots_Depth.f
  refine Ev.bind (rem_ev s hs) ?_
  unfold strings_Count.f
  rw [if_pos rfl, count_bytes, remS_bytes]
  exact Ev.now _
theorem law_end (s : ByteArray) (hs : s.size ≤ 300) (n : Int) (hn : n = (((rem (bytesOf s)).count 47 : Nat) : Int)) : Ev (fun k => monikerlaw23_DotsRemove.l0 k s (remS s) n ((remS s).size : Int)) true := by
  have hz : (remS s).size ≤ 300 := by
    have h1 := rem_len (bytesOf s)
    rw [← remS_bytes, bytesOf_length, bytesOf_length] at h1
    omega
  have hfree := rem_isFree (bytesOf s)
  have h1 : Ev (fun k => dots_Has.f k (remS s)) false := by
    have := has_ev (remS s) hz
    rw [remS_bytes, hasB_false.2 hfree] at this
    exact this
  have h2 : Ev (fun k => dots_Remove.f k (remS s)) (remS s) := by
    have := rem_ev (remS s) hz
    have e : remS (remS s) = remS s := by
      apply bytes_inj
      rw [remS_bytes, remS_bytes, rem_of_free _ hfree]
    rw [e] at this
    exact this
  have h3 : hasB (bytesOf s) = ((remS s).toList != s.toList) := by
    rw [bne, toList_beq, remS_bytes]
    cases hb : hasB (bytesOf s) with
    | false => rw [decide_eq_true (rem_of_free _ (hasB_false.1 hb))]; rfl
    | true =>
      rw [decide_eq_false]
      · rfl
      · intro e
        rw [hasB_false.2 ((rem_iff _).1 e)] at hb
        cases hb
  refine Ev.step (f := fun k => (monikerref23_Remove.f k s).bind fun t150 => (if (remS s).toList = t150.toList then ((dots_Has.f k (remS s)).bind fun t151 => (if t151 = true then (some false) else ((dots_Remove.f k (remS s)).bind fun t152 => (if t152.toList = (remS s).toList then ((dots_Has.f k s).bind fun t153 => (if (t153 == ((remS s).toList != s.toList)) = true then ((dots_Has.f k s).bind fun t154 => ((monikerref23_Has.f k s).bind fun t155 => (if (t154 == t155) = true then ((dots_Depth.f k s).bind fun t156 => (if t156 = n then ((monikerlaw23_awake.f k).bind fun t157 => (some t157)) else (some false))) else (some false)))) else (some false))) else (some false))))) else (some false))) (fun k => ?_) ?_
  · simp only [monikerlaw23_DotsRemove.l0]
    rw [if_neg (by omega)]
  · refine Ev.bind (ref_ev s hs) ?_
    simp only [if_true]
    refine Ev.bind h1 ?_
    simp only [Bool.false_eq_true, if_false]
    refine Ev.bind h2 ?_
    simp only [if_true]
    refine Ev.bind (has_ev s hs) ?_
    rw [← h3]
    simp only [beq_self_eq_true, if_true]
    refine Ev.bind (has_ev s hs) (Ev.bind (refHas_ev s hs) ?_)
    simp only [beq_self_eq_true, if_true]
    refine Ev.bind (depth_ev s hs) ?_
    rw [← hn]
    simp only [if_true]
    exact Ev.bind awake_ev (Ev.now _)
theorem law_from (s : ByteArray) (hs : s.size ≤ 300) : ∀ d i : Nat, i + d = (remS s).size → Ev (fun k => monikerlaw23_DotsRemove.l0 k s (remS s) ((((bytesOf (remS s)).take i).count 47 : Nat) : Int) (i : Int)) true := by
  have hz : (remS s).size ≤ 300 := by
    have h1 := rem_len (bytesOf s)
    rw [← remS_bytes, bytesOf_length, bytesOf_length] at h1
    omega
  intro d
  induction d with
  | zero =>
    intro i hi
    obtain rfl : i = (remS s).size := by omega
    refine law_end s hs _ ?_
    rw [List.take_of_length_le (by rw [bytesOf_length]; omega), remS_bytes]
  | succ d ih =>
    intro i hi
    have hlt : i < (bytesOf (remS s)).length := by rw [bytesOf_length]; omega
    have hc := List.count_le_length (a := (47 : Int)) (l := (bytesOf (remS s)).take i)
    rw [List.length_take] at hc
    have ih' := ih (i + 1) (by omega)
    rw [List.take_succ_eq_append_getElem hlt, List.count_append] at ih'
    have eb : bt (remS s) (i : Int) = (bytesOf (remS s))[i] := by rw [bt_getD]; simp [List.getD_eq_getElem?_getD, hlt]
    by_cases h47 : (bytesOf (remS s))[i] = 47
    · rw [h47] at ih'
      refine Ev.step (fun k => ?_) ih'
      simp only [monikerlaw23_DotsRemove.l0]
      rw [if_pos (by omega), if_pos (by omega), eb, if_pos h47, w64 (by omega) (by omega), w64 (by omega) (by omega)]
      rfl
    · rw [List.count_singleton, if_neg (by simpa using h47), Nat.add_zero] at ih'
      refine Ev.step (fun k => ?_) ih'
      simp only [monikerlaw23_DotsRemove.l0]
      rw [if_pos (by omega), if_pos (by omega), eb, if_neg h47, w64 (by omega) (by omega)]
      rfl
theorem DotsRemove : monikerlaw23_DotsRemove.Pure := by
  intro a0 h0
  refine Ev.rounds (g := fun k => monikerlaw23_DotsRemove.f k a0) ?_
  by_cases hn : (a0.size : Int) > 300
  · unfold monikerlaw23_DotsRemove.f
    simp only [hn, if_true]
    exact Ev.bind awake_ev (Ev.now _)
  unfold monikerlaw23_DotsRemove.f
  simp only [hn, if_false]
  refine Ev.bind (rem_ev a0 (by omega)) ?_
  exact law_from a0 (by omega) (remS a0).size 0 (by omega)
end Go.Proofs.YteebphjlecmgjaaDoor.Pure
