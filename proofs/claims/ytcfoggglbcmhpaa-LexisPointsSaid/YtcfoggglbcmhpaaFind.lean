/- Plain facts on octet.Find: the first of some bytes. No condition but those that each names. -/
import Derived.Test.YtcfoggglbcmhpaaOct
import Derived.Test.YtcfoggglbcmhpaaBy
import Derived.Test.YtcfoggglbcmhpaaPAllx3
namespace Go.Proofs.Ytcfoggglbcmhpaa.Find
open Go.RowKit Go.Proofs.Ytcfoggglbcmhpaa.PAll Go.Proofs.Ytcfoggglbcmhpaa.Oct Go.Proofs.Ytcfoggglbcmhpaa.By Go.Proofs.YtcfoggglbcmhpaaW.PrintWords Go.Proofs.YtcfoggglbcmhpaaW.PrintLast
set_option linter.unusedVariables false

/-! the first of some bytes -/
def fst (set : List Int) : List Int → Int → Int
  | [], _ => -1
  | b :: r, i => if b ∈ set then i else fst set r (i + 1)
theorem Find_in (s set : ByteArray) (i : Nat) (hi : i < s.size) (r : Int) (hset : set.size ≤ 140737488355328) (hno : Ev (fun k => octet_Find.l0 k s set (wrap64 ((i : Int) + 1))) r) :
    ∀ j : Nat, j ≤ set.size → Ev (fun k => octet_Find.l1 k s set (i : Int) (set.size : Int) (j : Int)) (if bt s i ∈ (bytesOf set).drop j then (i : Int) else r) := by
  apply from_end
  · refine Ev.step (f := fun k => octet_Find.l0 k s set (wrap64 ((i : Int) + 1))) (fun k => ?_) ?_
    · simp only [octet_Find.l1]; rw [if_neg (by omega)]
    · rw [drop_end]; simpa using hno
  · intro j hj ih
    rw [drop_bytes set j hj]
    by_cases h : bt s i = bt set j
    · refine Ev.step (f := fun k => some (i : Int)) (fun k => ?_) ?_
      · simp only [octet_Find.l1]; rw [if_pos (by omega), if_pos (by omega), if_pos (by omega), if_pos (by omega), if_pos (by omega), if_pos h]
      · rw [h]; simp only [List.mem_cons, true_or, if_true]; exact Ev.now _
    · refine Ev.step (f := fun k => octet_Find.l1 k s set (i : Int) (set.size : Int) ((j + 1 : Nat) : Int)) (fun k => ?_) ?_
      · simp only [octet_Find.l1]; rw [if_pos (by omega), if_pos (by omega), if_pos (by omega), if_pos (by omega), if_pos (by omega), if_neg h, w64 (by omega) (by omega)]; rfl
      · have e : (bt s i ∈ bt set j :: (bytesOf set).drop (j + 1)) ↔ bt s i ∈ (bytesOf set).drop (j + 1) := by simp [h]
        simp only [e]; exact ih
theorem Find_from (s set : ByteArray) (hs : s.size ≤ 140737488355328) (hset : set.size ≤ 140737488355328) : ∀ i : Nat, i ≤ s.size → Ev (fun k => octet_Find.l0 k s set (i : Int)) (fst (bytesOf set) ((bytesOf s).drop i) i) := by
  apply from_end
  · refine Ev.step (f := fun k => some (-1)) (fun k => ?_) ?_
    · simp only [octet_Find.l0]; rw [if_neg (by omega)]
    · rw [drop_end]; exact Ev.now _
  · intro i hi ih
    rw [drop_bytes s i hi]
    refine Ev.step (f := fun k => octet_Find.l1 k s set (i : Int) (set.size : Int) ((0 : Nat) : Int)) (fun k => ?_) ?_
    · simp only [octet_Find.l0]; rw [if_pos (by omega)]; rfl
    · have := Find_in s set i hi _ hset (by rw [w64 (by omega) (by omega)]; exact ih) 0 (Nat.zero_le _)
      simpa [fst] using this
theorem Find_ev (s set : ByteArray) (f : Int) (hs : s.size ≤ 140737488355328) (hset : set.size ≤ 140737488355328) : Ev (fun k => octet_Find.f k s f set) (fst (bytesOf set) ((bytesOf s).drop f.toNat) f.toNat) := by
  have e : mx f 0 = ((f.toNat : Nat) : Int) := by unfold mx; omega
  simp only [octet_Find.f, e]
  by_cases h : f.toNat ≤ s.size
  · exact Find_from s set hs hset _ h
  · refine Ev.step (f := fun k => some (-1)) (fun k => ?_) ?_
    · simp only [octet_Find.l0]; rw [if_neg (by omega)]
    · rw [List.drop_eq_nil_of_le (by rw [bytesOf_length]; omega)]; exact Ev.now _
theorem fst_mem (set : List Int) : ∀ (l : List Int) (i : Int), 0 ≤ i → (fst set l i ≥ 0 ↔ ∃ x ∈ l, x ∈ set) := by
  intro l
  induction l with
  | nil => intro i _; simp [fst]
  | cons b r ih =>
    intro i hi
    unfold fst
    by_cases h : b ∈ set
    · rw [if_pos h]; simp [h, hi]
    · rw [if_neg h, ih (i + 1) (by omega)]
      simp [h]
end Go.Proofs.Ytcfoggglbcmhpaa.Find
