/- The pure law DotsPieces: a path's pieces are the document's, and one behind the other they are the path. Condition: the path is within the form's reach. -/
import Derived.Test.YteebphjlecmgjaaP23p
namespace Go.Proofs.Yteebphjlecmgjaa.Pure
open Go.RowKit Go.Proofs.Yteebphjlecmgjaa.PPie Go.Proofs.Yteebphjlecmgjaa.By Go.Proofs.Yteebphjlecmgjaa.P23 Go.Proofs.YteebphjlecmgjaaW.PrintWords Go.Proofs.YteebphjlecmgjaaW.PrintLast
set_option linter.unusedVariables false

theorem rounds_down {n : Nat} {P : Nat → Prop} (h0 : P n) (hs : ∀ i, i < n → P (i + 1) → P i) : ∀ i, i ≤ n → P i := by
  have key : ∀ d i, i + d = n → P i := by
    intro d
    induction d with
    | zero => intro i hi; rw [show i = n by omega]; exact h0
    | succ d ih => intro i hi; exact hs i (by omega) (ih (i + 1) (by omega))
  exact fun i hi => key (n - i) i (by omega)
theorem w64 {x : Int} (h1 : -9223372036854775808 ≤ x) (h2 : x ≤ 9223372036854775807) : wrap64 x = x := by unfold wrap64; omega
/-- The pieces of the first n+1 bytes: all but the last; the last. -/
def pcs (s : ByteArray) : Nat → List ByteArray × ByteArray
  | 0 => ([], s.extract 0 1)
  | n + 1 => if bt s ((n + 1 : Nat) : Int) = 47 then ((pcs s n).1 ++ [(pcs s n).2], s.extract (n + 1) (n + 2)) else ((pcs s n).1, (pcs s n).2 ++ s.extract (n + 1) (n + 2))
def all (s : ByteArray) (n : Nat) : List ByteArray := (pcs s n).1 ++ [(pcs s n).2]
theorem bytes_cat (s : ByteArray) (a b : Nat) (h : a ≤ b) (hb : b < s.size) : s.extract a b ++ s.extract b (b + 1) = s.extract a (b + 1) := by
  apply bytes_inj
  rw [bytes_append, bytes_extract, bytes_extract, bytes_extract]
  have e : b = a + (b - a) := by omega
  have h1 : b + 1 - b = 1 := by omega
  have h2 : b + 1 - a = (b - a) + 1 := by omega
  rw [h1, h2, List.take_add, List.drop_drop]
  congr 3
theorem pcs_len (s : ByteArray) : ∀ n, (pcs s n).1.length ≤ n
  | 0 => Nat.le_refl _
  | n + 1 => by
    have := pcs_len s n
    unfold pcs
    split
    · rw [List.length_append, List.length_singleton]; omega
    · exact Nat.le_succ_of_le this
theorem pcs_size (s : ByteArray) : ∀ n, n < s.size → (pcs s n).2.size ≤ n + 1
  | 0, h => by unfold pcs; simp only; rw [ByteArray.size_extract]; omega
  | n + 1, h => by
    have := pcs_size s n (by omega)
    unfold pcs
    split
    · simp only; rw [ByteArray.size_extract]; omega
    · simp only; rw [ByteArray.size_append, ByteArray.size_extract]; omega
theorem pcs_cat (s : ByteArray) : ∀ n, n < s.size → ((all s n).map bytesOf).flatten = (bytesOf s).take (n + 1)
  | 0, h => by
    unfold all pcs
    simp [bytes_extract]
  | n + 1, h => by
    have ih := pcs_cat s n (by omega)
    have e : (bytesOf s).take (n + 2) = (bytesOf s).take (n + 1) ++ ((bytesOf s).drop (n + 1)).take 1 := List.take_add (i := n + 1) (j := 1)
    have e2 : bytesOf (s.extract (n + 1) (n + 2)) = ((bytesOf s).drop (n + 1)).take 1 := by rw [bytes_extract]; congr 1; omega
    rw [e, ← ih, ← e2]
    unfold all
    rw [pcs]
    split
    · simp
    · simp [bytes_append]
/-- The program's pieces. -/
theorem prog_ev (s : ByteArray) (m : Nat) (hs : s.size = m + 1) (hm : m ≤ 300) : ∀ n, n ≤ m → ∀ fr : Nat, fr ≤ n → s.extract fr (n + 1) = (pcs s n).2 → Ev (fun k => dots_Pieces.l0 k s (pcs s n).1 (fr : Int) ((n + 1 : Nat) : Int)) (all s m) := by
  apply rounds_down
  · intro fr hf he
    have hl := pcs_len s m
    refine Ev.step (f := fun k => dots_Pieces.l0 k s (all s m) ((m + 1 : Nat) : Int) ((m + 2 : Nat) : Int)) (fun k => ?_) (Ev.step (f := fun k => some (all s m)) (fun k => ?_) (Ev.now _))
    · simp only [dots_Pieces.l0]
      rw [if_pos (by omega), if_pos (by omega), if_pos (by omega), if_pos (by omega), if_pos (by omega), show (((fr : Nat) : Int).toNat) = fr by omega, show ((((m + 1 : Nat)) : Int).toNat) = m + 1 by omega, he, w64 (by omega) (by omega)]
      rfl
    · simp only [dots_Pieces.l0]
      rw [if_neg (by omega)]
  · intro n hn ih fr hf he
    have hl := pcs_len s n
    by_cases h47 : bt s ((n + 1 : Nat) : Int) = 47
    · refine Ev.step (f := fun k => dots_Pieces.l0 k s (pcs s (n + 1)).1 ((n + 1 : Nat) : Int) ((n + 1 + 1 : Nat) : Int)) (fun k => ?_) (ih (n + 1) (by omega) ?_)
      · simp only [dots_Pieces.l0]
        rw [if_pos (by omega), if_neg (by omega), if_pos (by omega), if_pos (by omega), if_pos h47, if_pos (by omega), if_pos (by omega), if_pos (by omega), show (((fr : Nat) : Int).toNat) = fr by omega, show ((((n + 1 : Nat)) : Int).toNat) = n + 1 by omega, he, w64 (by omega) (by omega)]
        conv => rhs; rw [pcs, if_pos h47]
        rfl
      · rw [pcs, if_pos h47]
    · refine Ev.step (f := fun k => dots_Pieces.l0 k s (pcs s (n + 1)).1 (fr : Int) ((n + 1 + 1 : Nat) : Int)) (fun k => ?_) (ih fr (by omega) ?_)
      · simp only [dots_Pieces.l0]
        rw [if_pos (by omega), if_neg (by omega), if_pos (by omega), if_pos (by omega), if_neg h47, w64 (by omega) (by omega)]
        conv => rhs; rw [pcs, if_neg h47]
        rfl
      · rw [pcs, if_neg h47]
        simp only
        rw [← he]
        exact (bytes_cat s fr (n + 1) (by omega) (by omega)).symm
theorem rd_last (a : List ByteArray) (b : ByteArray) : rdOf ByteArray.empty (a ++ [b]) (a.length : Int) = b := by
  unfold rdOf
  simp
theorem set_last (a : List ByteArray) (b c : ByteArray) : (a ++ [b]).set a.length c = a ++ [c] := by simp
theorem ref_ev (s : ByteArray) (m : Nat) (hs : s.size = m + 1) (hm : m ≤ 300) : ∀ n, n ≤ m → Ev (fun k => monikerref23_Pieces.l0 k s (all s n) ((n + 1 : Nat) : Int)) (all s m) := by
  apply rounds_down
  · refine Ev.step (f := fun k => some (all s m)) (fun k => ?_) (Ev.now _)
    simp only [monikerref23_Pieces.l0]
    rw [if_neg (by omega)]
  · intro n hn ih
    have hl := pcs_len s n
    have hz := pcs_size s n (by omega)
    have hx : (s.extract (n + 1) (n + 2)).size = 1 := by rw [ByteArray.size_extract]; omega
    have hw : wrap64 (((n + 1 : Nat) : Int) + 1) = ((n + 2 : Nat) : Int) := by rw [w64 (by omega) (by omega)]; omega
    have hal : (all s n).length = (pcs s n).1.length + 1 := by unfold all; simp
    by_cases h47 : bt s ((n + 1 : Nat) : Int) = 47
    · refine Ev.step (f := fun k => monikerref23_Pieces.l0 k s (all s (n + 1)) ((n + 1 + 1 : Nat) : Int)) (fun k => ?_) ih
      simp only [monikerref23_Pieces.l0, Option.bind_some, hw]
      have e1 : wrap64 (((all s n ++ [(⟨#[]⟩ : ByteArray)]).length : Int) - 1) = ((all s n).length : Int) := by rw [List.length_append, List.length_singleton, w64 (by omega) (by omega)]; omega
      have e2 : ((all s n ++ [(⟨#[]⟩ : ByteArray)]).length : Int) = ((all s n).length : Int) + 1 := by rw [List.length_append, List.length_singleton]; omega
      rw [e1, e2, rd_last, show ((((all s n).length : Nat) : Int).toNat) = (all s n).length by omega, set_last, show ((((n + 1 : Nat)) : Int).toNat) = n + 1 by omega, show ((((n + 2 : Nat)) : Int).toNat) = n + 2 by omega, hx]
      rw [if_pos (by omega), if_neg (by omega), if_pos (by omega), if_pos h47, if_pos (by omega), if_pos (by omega), if_pos (by omega), if_pos (by omega), if_pos (by omega), if_pos (by decide)]
      have e3 : (⟨#[]⟩ : ByteArray) ++ s.extract (n + 1) (n + 2) = s.extract (n + 1) (n + 2) := by apply bytes_inj; rw [bytes_append]; rfl
      rw [e3]
      have e4 : all s (n + 1) = all s n ++ [s.extract (n + 1) (n + 2)] := by
        conv => lhs; unfold all; rw [pcs, if_pos h47]
        rfl
      rw [e4]
    · refine Ev.step (f := fun k => monikerref23_Pieces.l0 k s (all s (n + 1)) ((n + 1 + 1 : Nat) : Int)) (fun k => ?_) ih
      simp only [monikerref23_Pieces.l0, hw]
      have e1 : wrap64 (((all s n).length : Int) - 1) = ((pcs s n).1.length : Int) := by rw [hal, w64 (by omega) (by omega)]; omega
      rw [e1]
      have e4 : all s (n + 1) = (pcs s n).1 ++ [(pcs s n).2 ++ s.extract (n + 1) (n + 2)] := by
        conv => lhs; unfold all; rw [pcs, if_neg h47]
      rw [e4, show all s n = (pcs s n).1 ++ [(pcs s n).2] from rfl, rd_last, show ((((pcs s n).1.length : Nat) : Int).toNat) = (pcs s n).1.length by omega, set_last, show ((((n + 1 : Nat)) : Int).toNat) = n + 1 by omega, show ((((n + 2 : Nat)) : Int).toNat) = n + 2 by omega, hx]
      rw [List.length_append, List.length_singleton]
      rw [if_pos (by omega), if_neg (by omega), if_pos (by omega), if_neg h47, if_pos (by omega), if_pos (by omega), if_pos (by omega), if_pos (by omega), if_pos (by omega)]
/-- The law's loop: the pieces, one behind the other. -/
def catB : List ByteArray → ByteArray → ByteArray
  | [], a => a
  | x :: t, a => catB t (a ++ x)
theorem catB_bytes : ∀ (l : List ByteArray) (a : ByteArray), bytesOf (catB l a) = bytesOf a ++ (l.map bytesOf).flatten
  | [], a => by simp [catB]
  | x :: t, a => by simp [catB, catB_bytes t, bytes_append]
theorem law_ev (s : ByteArray) (F : List ByteArray) (hF : F.length ≤ 400) (hc : (F.map bytesOf).flatten = bytesOf s) (hs : s.size ≤ 300) : ∀ j, j ≤ F.length → ∀ acc : ByteArray, bytesOf acc ++ ((F.drop j).map bytesOf).flatten = bytesOf s → Ev (fun k => monikerlaw23_DotsPieces.l0 k s F F acc (F.length : Int) (j : Int)) true := by
  apply rounds_down
  · intro acc hacc
    rw [List.drop_length] at hacc
    have e : acc.toList = s.toList := (toList_iff _ _).2 (by simpa using hacc)
    refine Ev.step (f := fun k => (monikerlaw23_awake.f k).bind fun t => some t) (fun k => ?_) (Ev.bind awake_ev (Ev.now _))
    simp only [monikerlaw23_DotsPieces.l0]
    rw [if_neg (by omega), if_pos e]
  · intro j hj ih acc hacc
    have hg : F.drop j = F.getD j ByteArray.empty :: F.drop (j + 1) := by rw [List.drop_eq_getElem_cons hj]; simp [List.getD_eq_getElem?_getD, hj]
    rw [hg] at hacc
    simp only [List.map_cons, List.flatten_cons] at hacc
    have hr : rdOf ByteArray.empty F (j : Int) = F.getD j ByteArray.empty := by unfold rdOf; simp
    have hsz : acc.size + (F.getD j ByteArray.empty).size ≤ s.size := by
      have := congrArg List.length hacc
      simp only [List.length_append, bytesOf_length] at this
      omega
    refine Ev.step (f := fun k => monikerlaw23_DotsPieces.l0 k s F F (acc ++ F.getD j ByteArray.empty) (F.length : Int) ((j + 1 : Nat) : Int)) (fun k => ?_) (ih _ (by rw [bytes_append, List.append_assoc]; exact hacc))
    simp only [monikerlaw23_DotsPieces.l0, hr]
    rw [if_pos (by omega), if_pos (by omega), if_pos (by omega), if_pos (by omega), if_pos trivial, if_pos (by omega), w64 (by omega) (by omega)]
    rfl
theorem DotsPieces : monikerlaw23_DotsPieces.Pure := by
  intro a0 h0
  by_cases hn : (a0.size : Int) > 300
  · refine Ev.rounds (g := fun k => monikerlaw23_DotsPieces.f k a0) ?_
    unfold monikerlaw23_DotsPieces.f
    simp only [hn, if_true]
    exact Ev.bind awake_ev (Ev.now _)
  refine Ev.rounds (g := fun k => monikerlaw23_DotsPieces.f k a0) ?_
  unfold monikerlaw23_DotsPieces.f
  simp only [hn, if_false]
  cases hm : a0.size with
  | zero =>
    have p1 : Ev (fun k => dots_Pieces.f k a0) [] := by
      refine Ev.step (f := fun k => some []) (fun k => ?_) (Ev.now _)
      simp only [dots_Pieces.f, dots_Pieces.l0, hm]
      rfl
    have p2 : Ev (fun k => monikerref23_Pieces.f k a0) [] := by
      refine Ev.step (f := fun k => some []) (fun k => ?_) (Ev.now _)
      simp only [monikerref23_Pieces.f, monikerref23_Pieces.l0, hm]
      rfl
    refine Ev.bind p1 (Ev.bind p2 ?_)
    have := law_ev a0 [] (by decide) (by rw [bytes_empty.2 hm]; rfl) (by omega) 0 (Nat.le_refl _) (⟨#[]⟩ : ByteArray) (by rw [bytes_empty.2 hm]; rfl)
    exact this
  | succ m =>
    have hl : (all a0 m).length ≤ m + 1 := by unfold all; rw [List.length_append, List.length_singleton]; have := pcs_len a0 m; omega
    have p1 : Ev (fun k => dots_Pieces.f k a0) (all a0 m) := prog_ev a0 m hm (by omega) 0 (by omega) 0 (Nat.le_refl _) rfl
    have p2 : Ev (fun k => monikerref23_Pieces.f k a0) (all a0 m) := by
      refine Ev.step (f := fun k => monikerref23_Pieces.l0 k a0 (all a0 0) ((0 + 1 : Nat) : Int)) (fun k => ?_) (ref_ev a0 m hm (by omega) 0 (by omega))
      have w0 : wrap64 (((1 : Nat) : Int) - 1) = 0 := by unfold wrap64; omega
      have w1 : wrap64 ((0 : Int) + 1) = 1 := by unfold wrap64; omega
      simp only [monikerref23_Pieces.f, monikerref23_Pieces.l0, Option.bind_some, List.nil_append, List.length_singleton, w0, w1]
      have hx : (a0.extract (0 : Int).toNat (1 : Int).toNat).size = 1 := by rw [ByteArray.size_extract]; omega
      have hr : rdOf ByteArray.empty [(⟨#[]⟩ : ByteArray)] 0 = ⟨#[]⟩ := rfl
      rw [hr, hx, if_pos (by omega), if_pos trivial, if_pos (by decide), if_pos (by decide), if_pos (by decide), if_pos (by decide), if_pos (by decide), if_pos (by omega), if_pos (by decide)]
      have e3 : (⟨#[]⟩ : ByteArray) ++ a0.extract 0 1 = a0.extract 0 1 := by apply bytes_inj; rw [bytes_append]; rfl
      show monikerref23_Pieces.l0 k a0 [(⟨#[]⟩ : ByteArray) ++ a0.extract 0 1] 1 = _
      rw [e3]; rfl
    refine Ev.bind p1 (Ev.bind p2 ?_)
    simp only [if_true]
    have hc := pcs_cat a0 m (by omega)
    rw [List.take_of_length_le (by rw [bytesOf_length]; omega)] at hc
    exact law_ev a0 (all a0 m) (by omega) hc (by omega) 0 (Nat.zero_le _) (⟨#[]⟩ : ByteArray) (by rw [List.drop_zero, hc]; rfl)
end Go.Proofs.Yteebphjlecmgjaa.Pure
