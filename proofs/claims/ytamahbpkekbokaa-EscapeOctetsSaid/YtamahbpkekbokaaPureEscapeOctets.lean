import Derived.OpenShut
import Derived.Test.YtamahbpkekbokaaPAllx7
import Derived.Test.YtamahbpkekbokaaP04e
namespace Go.Proofs.Ytamahbpkekbokaa.Pure
open Go.RowKit Go.Proofs.Ytamahbpkekbokaa.PAll Go.Proofs.Ytamahbpkekbokaa.P04 Go.Proofs.YtamahbpkekbokaaW.PrintWords Go.Proofs.YtamahbpkekbokaaW.PrintLast

theorem oct_all : ∀ n : Nat, n < 256 → (∃ b2 : Bool, b2 = true ∧ escape_At.f 40 (ofS (n : Int)) 0 = some ((n : Int), b2)) := by
  have h : ∀ n : Nat, n < 256 → escape_At.f 40 (ofS (n : Int)) 0 = some ((n : Int), true) := by decide +kernel
  exact fun n hn => ⟨true, rfl, h n hn⟩
theorem low_all : ∀ n : Nat, n < 256 → escape_At.f 40 (strOfNums ((bytesOf (ofS (n : Int))).map lowI)) 0 = some ((n : Int), true) := by decide +kernel
theorem EscapeOctets : monikerlaw04_EscapeOctets.Pure := by
  intro b hb
  have hb' := bounds_u8 hb
  refine Ev.rounds (g := fun k => monikerlaw04_EscapeOctets.f k b) ?_
  unfold monikerlaw04_EscapeOctets.f
  refine Ev.bind (Ev.of (fun k => escape_Of.mono _ k) (of_eq b hb'.1 hb'.2)) ?_
  obtain ⟨n, rfl⟩ : ∃ n : Nat, (n : Int) = b := ⟨b.toNat, by omega⟩
  have hn : n < 256 := by omega
  obtain ⟨b2, rfl, h1⟩ := oct_all n hn
  refine Ev.bind (Ev.of (fun k => escape_At.mono _ _ k) h1) ?_
  have hz : (ofS (n : Int)).size ≤ 140737488355328 := by have := ofS_size (n : Int); omega
  simp only [octet_Lower.f, if_pos hz, Option.bind_some]
  refine Ev.bind (Ev.of (fun k => escape_At.mono _ _ k) (low_all n hn)) ?_
  simp only [refOf hb'.1 hb'.2, Option.bind_some, if_true]
  exact Ev.bind awake_ev (Ev.now _)

end Go.Proofs.Ytamahbpkekbokaa.Pure
