/- dev: awake -/
import Derived.Test.YtejkfochijgkdaaPn
namespace Go.Proofs.Ytejkfochijgkdaa.Pr
open Go.RowKit Go.Maps Go.Proofs.Ytejkfochijgkdaa.MapF Go.Proofs.YtejkfochijgkdaaW.PrintWords Go.Proofs.YtejkfochijgkdaaW.PrintLast Go.Proofs.YtejkfochijgkdaaW.PrintMore
set_option linter.unusedVariables false
theorem Pz.after {w w' : World} {g b1 b2 b3 n m : Nat} {dn : Int → Option (Int × Int)} {up : Int → Int → Option Int} {sec : Int → Option Int} (h : Pz w g b1 b2 b3 n m dn up sec) (hb : Below w.heap.size w w') : Pz w' g b1 b2 b3 n m dn up sec :=
  h.below hb h.lt.1 h.lt.2.1 h.lt.2.2.1 h.lt.2.2.2
theorem lower65 (w : World) : Calls Try.prog 14 #[.int .i32 65] w fun e w' => e = .returned (.int .i32 97) ∧ Below w.heap.size w w' := by
  go_enter Try.func14, Try.ntmps14
  go_wp2
  go_ret
  exact ⟨rfl, Below.refl _ _⟩
theorem width65313 (w : World) : Calls Try.prog 15 #[.int .i32 65313] w fun e w' => e = .returned (.int .i32 65) ∧ Below w.heap.size w w' := by
  go_enter Try.func15, Try.ntmps15
  go_wp2
  go_ret
  exact ⟨rfl, Below.refl _ _⟩
section
variable {w : World} {g b1 b2 b3 n m : Nat} {dn : Int → Option (Int × Int)} {up : Int → Int → Option Int} {sec : Int → Option Int}
set_option maxHeartbeats 4000000 in
theorem awake_calls (h : Pz w g b1 b2 b3 n m dn up sec) (h1 : downV dn 233 = (101, 769, 2)) (h2 : up 101 769 = some 233) :
    Calls Try.prog 8 #[.pointer (some ⟨g, 0, none⟩)] w fun e w' => e = .returned (.bool true) ∧ Below w.heap.size w w' := by
  have HD := Aside0.mk (down_calls h.ps 233 (by decide))
  have HU := Aside0.mk (fun W (hb : Below w.heap.size w W) => up_calls (h.after hb).ps 101 769 (by decide) (by decide))
  rw [h1] at HD
  rw [h2] at HU
  have HL := Aside0.mk lower65
  have HW := Aside0.mk width65313
  clear h h1 h2
  go_enter Try.func8, Try.ntmps8
  go_wp2_with (first
    | (go_at_call 12; refine HD.out.mono ?_; rintro e w1 ⟨rfl, hb⟩; have HB1 := Aside0.mk hb; clear hb)
    | (go_at_call 10; refine (HU.out _ HB1.out).mono ?_; rintro e w2 ⟨rfl, hb⟩; have HB2 := Aside0.mk (below_then HB1.out HB1.out.size hb); clear hb)
    | (go_at_call 14; refine (HL.out _).mono ?_; rintro e w3 ⟨rfl, hb⟩; have HB3 := Aside0.mk (below_then HB2.out HB2.out.size hb); clear hb)
    | (go_at_call 15; refine (HW.out _).mono ?_; rintro e w4 ⟨rfl, hb⟩; have HB4 := Aside0.mk (below_then HB3.out HB3.out.size hb); clear hb))
  go_ret
  exact ⟨rfl, HB4.out⟩
end
end Go.Proofs.Ytejkfochijgkdaa.Pr
