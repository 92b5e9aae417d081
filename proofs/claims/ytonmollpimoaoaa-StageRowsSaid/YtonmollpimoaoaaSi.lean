/- check. -/
import Derived.Test.YtonmollpimoaoaaSh
import Derived.Test.YtonmollpimoaoaaPStageTellsx1
namespace Go.Proofs.Ytonmollpimoaoaa.Sa
open Go.RowKit Go.Proofs.Ytonmollpimoaoaa.Stg Go.Proofs.YtonmollpimoaoaaW.PrintWords Go.Proofs.Ytonmollpimoaoaa.PStageTells
set_option linter.unusedVariables false
set_option linter.unusedSimpArgs false
/-- What check tells. -/
def chk : Int → List S41 → Int
  | _, [] => 0
  | last, x :: t => if x.f0 < 0 ∨ x.f1 < x.f0 ∨ x.f1 > 1114111 then 7 else if x.f0 ≤ last then 9 else chk x.f1 t
def chkS (l : List S41) : Int := if l.length > 4096 then 10 else chk (-1) l
theorem drop41 (xs : List S41) (j : Nat) (h : j < xs.length) : xs.drop j = rd_T41 xs (j : Int) :: xs.drop (j + 1) := by
  rw [List.drop_eq_getElem_cons h]
  unfold rd_T41
  rw [Int.toNat_natCast, List.getD_eq_getElem?_getD, List.getElem?_eq_getElem h]
  rfl
theorem l0_ev (l : List S41) (hl : l.length ≤ 100000) : ∀ (k i : Nat) (last : Int), i ≤ l.length → 2 * (l.length - i) < k → stage_check_int.l0 k last l (l.length : Int) (i : Int) = some (chk last (l.drop i))
  | 0, i, _, _, h => by omega
  | 1, i, last, hi, h => by
    unfold stage_check_int.l0
    rw [if_neg (by omega), List.drop_eq_nil_of_le (by omega)]
    rfl
  | k + 2, i, last, hi, h => by
    unfold stage_check_int.l0
    by_cases hlt : i < l.length
    · have hw : wrap64 ((i : Int) + 1) = ((i + 1 : Nat) : Int) := by unfold wrap64; omega
      have ih := l0_ev l hl k (i + 1) (rd_T41 l (i : Int)).f1 (by omega) (by omega)
      rw [if_pos (by omega), if_pos (by omega), if_pos (by omega), drop41 l i hlt, chk]
      have jt : ∀ a b c, stage_check_int.j1 (k + 1) last l (l.length : Int) (i : Int) true a b c = some 7 := fun a b c => by unfold stage_check_int.j1; rfl
      by_cases e1 : (rd_T41 l (i : Int)).f0 < 0
      · rw [if_pos e1, if_pos (.inl e1)]
        exact jt _ _ _
      · rw [if_neg e1]
        by_cases e2 : (rd_T41 l (i : Int)).f1 < (rd_T41 l (i : Int)).f0
        · rw [if_pos e2, if_pos (.inr (.inl e2))]
          exact jt _ _ _
        · rw [if_neg e2]
          by_cases e3 : (rd_T41 l (i : Int)).f1 > 1114111
          · rw [if_pos (.inr (.inr e3)), decide_eq_true e3]
            exact jt _ _ _
          · rw [if_neg (by omega), decide_eq_false e3]
            unfold stage_check_int.j1
            rw [if_neg (by decide), hw, ih]
            by_cases e4 : (rd_T41 l (i : Int)).f0 ≤ last
            · rw [if_pos e4, if_pos e4]
            · rw [if_neg e4, if_neg e4]
    · rw [if_neg (by omega), List.drop_eq_nil_of_le (by omega)]
      rfl
theorem check_ev (l : List S41) : stage_check_int.f 200001 l = some (chkS l) := by
  unfold stage_check_int.f chkS
  by_cases h : l.length > 4096
  · rw [if_pos (by omega), if_pos h]
  · rw [if_neg (by omega), if_neg h]
    exact l0_ev l (by omega) 200001 0 (-1) (by omega) (by omega)
theorem check_calls (W : World) (A : Option Addr) (c : Nat) (l : List S41) (h : Kd.C k41 W A l.length l) (hc : l.length ≤ c) : Calls Try.prog 15 #[.slice A l.length c] W fun e w' => e = .returned (.int .i64 (chkS l)) ∧ Below W.heap.size W w' :=
  stage_check_int.calls 200001 A c l (chkS l) W h hc (check_ev l)
def row3 (x : S41) : Row3 := (x.f0.toNat, x.f1.toNat, x.f2)
def rows3 (l : List S41) : List Row3 := l.map row3
theorem chk_good : ∀ (l : List S41) (last : Int), -1 ≤ last → chk last l = 0 → Stg.Good (last + 1).toNat (rows3 l) ∧ ∀ x ∈ l, 0 ≤ x.f0 ∧ x.f0 ≤ x.f1 ∧ x.f1 ≤ 1114111
  | [], _, _, _ => ⟨trivial, fun x hx => by cases hx⟩
  | x :: t, last, h0, h => by
    unfold chk at h
    split at h
    · cases h
    · rename_i e1
      split at h
      · cases h
      · rename_i e2
        obtain ⟨g, hx⟩ := chk_good t x.f1 (by omega) h
        refine ⟨⟨?_, ?_, ?_, ?_⟩, fun y hy => ?_⟩
        · show _ ≤ x.f0.toNat; omega
        · show x.f0.toNat ≤ x.f1.toNat; omega
        · show x.f1.toNat ≤ _; omega
        · rw [show (x.f1 + 1).toNat = (row3 x).2.1 + 1 by show _ = x.f1.toNat + 1; omega] at g
          exact g
        · rcases List.mem_cons.1 hy with rfl | hy
          · omega
          · exact hx y hy
end Go.Proofs.Ytonmollpimoaoaa.Sa
