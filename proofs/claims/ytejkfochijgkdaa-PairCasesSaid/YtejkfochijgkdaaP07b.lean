/- The tables as lists. -/
import Derived.Test.YtejkfochijgkdaaP07
namespace Go.Proofs.Ytejkfochijgkdaa.Pr
set_option linter.unusedVariables false
abbrev T3 := Int × Int × Int
def chunkN : List Nat → List (Nat × Nat × Nat)
  | r :: a :: b :: t => (r, a, b) :: chunkN t
  | _ => []
def flatN : List (Nat × Nat × Nat) → List Nat
  | [] => []
  | t :: l => t.1 :: t.2.1 :: t.2.2 :: flatN l
def chunk2N : List Nat → List (Nat × Nat × Nat)
  | r :: a :: t => (r, a, 0) :: chunk2N t
  | _ => []
def flat2N : List (Nat × Nat × Nat) → List Nat
  | [] => []
  | t :: l => t.1 :: t.2.1 :: flat2N l
noncomputable def TN (i : Nat) : List (Nat × Nat × Nat) := chunkN (runesN i)
noncomputable def TN6 : List (Nat × Nat × Nat) := chunk2N (runesN 6)
theorem flat_ok : ∀ i, i < 6 → flatN (TN i) = runesN i := by decide +kernel
theorem flat2_ok : flat2N TN6 = runesN 6 ∧ TN6.all (fun t => t.2.2 == 0) = true := by decide +kernel
noncomputable def PN : List (Nat × Nat × Nat) := TN 0 ++ (TN 1 ++ (TN 2 ++ (TN 3 ++ (TN 4 ++ TN 5))))
def exN (t : Nat × Nat × Nat) : Bool := t.1 == 836 || (Nat.ble 2392 t.1 && Nat.ble t.1 2399) || t.2.2 == 0
def nd : List Nat → Bool
  | [] => true
  | x :: l => (!(l.any fun y => Nat.beq y x)) && nd l
theorem nd_nodup : ∀ l : List Nat, nd l = true → l.Nodup
  | [], _ => List.nodup_nil
  | x :: l, h => by
    simp only [nd, Bool.and_eq_true, Bool.not_eq_true', List.any_eq_false] at h
    refine List.nodup_cons.2 ⟨fun hm => ?_, nd_nodup l h.2⟩
    have := h.1 x hm
    simp at this
theorem nd_r : nd ((PN ++ TN6).map fun t => t.1) = true := by decide +kernel
theorem nd_ab : nd ((PN.filter fun t => !exN t).map fun t => t.2.1 * 2097152 + t.2.2) = true := by decide +kernel
theorem rng : (PN ++ TN6).all (fun t => Nat.ble t.1 1114111 && (Nat.ble t.2.1 1114111 && Nat.ble t.2.2 1114111)) = true := by decide +kernel
end Go.Proofs.Ytejkfochijgkdaa.Pr
