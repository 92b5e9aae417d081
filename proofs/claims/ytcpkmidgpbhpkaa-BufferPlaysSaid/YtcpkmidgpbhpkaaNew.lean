/- The walks of the chapter's example and of the law BufferNew: true at every room. No condition. -/
import Derived.Test.YtcpkmidgpbhpkaaBuf
import Derived.OpenShut
import Derived.Lib.Bytes
namespace Go.Proofs.Ytcpkmidgpbhpkaa.Buf
open Go.RowKit Go.Proofs.Ytcpkmidgpbhpkaa.Own Go.Proofs.YtcpkmidgpbhpkaaW.PrintWords Go.Proofs.YtcpkmidgpbhpkaaW.PrintLast Go.Proofs.YtcpkmidgpbhpkaaW.PrintMore
set_option linter.unusedVariables false
theorem put1 (g base : Nat) (W : World) (hB : IsBuf W base g [] 3 false) : Calls Try.prog 8 #[.pointer (some ⟨g, 0, none⟩), .string ⟨#[97, 98]⟩] W fun e w' => e = .returned (.bool true) ∧ IsBuf w' base g [97, 98] 3 false ∧ Below base W w' :=
  put_any g ⟨#[97, 98]⟩ [] 3 false base W hB (by decide) (by decide) (by decide) (by decide)
theorem put2 (g base : Nat) (W : World) (hB : IsBuf W base g [97, 98] 3 false) : Calls Try.prog 8 #[.pointer (some ⟨g, 0, none⟩), .string ⟨#[99, 100]⟩] W fun e w' => e = .returned (.bool false) ∧ IsBuf w' base g [97, 98] 3 true ∧ Below base W w' :=
  put_any g ⟨#[99, 100]⟩ [97, 98] 3 false base W hB (by decide) (by decide) (by decide) (by decide)
theorem put3 (g base : Nat) (W : World) (hB : IsBuf W base g [97, 98] 3 true) : Calls Try.prog 8 #[.pointer (some ⟨g, 0, none⟩), .string ⟨#[99]⟩] W fun e w' => e = .returned (.bool false) ∧ IsBuf w' base g [97, 98] 3 true ∧ Below base W w' :=
  put_any g ⟨#[99]⟩ [97, 98] 3 true base W hB (by decide) (by decide) (by decide) (by decide)
theorem awake_calls (w : World) : Calls Try.prog 7 #[] w fun e w' => e = .returned (.bool true) ∧ Below w.heap.size w w' := by
  have ht : ((strOfNums [97, 98]).toList == [97, 98]) = true := by rw [Lib.strOfNums_toList]; rfl
  go_enter Try.func7, Try.ntmps7
  go_wp2_with fail
  refine (new_ok 3 w (by decide) (by decide)).mono ?_
  rintro e w1 ⟨rfl, hB1, hb1⟩
  have HB1 := Aside0.mk hB1
  have Hb1 := Aside0.mk hb1
  clear hB1 hb1
  go_wp2_with fail
  refine (put1 _ _ _ HB1.out).mono ?_
  rintro e w2 ⟨rfl, hB2, hb2⟩
  have HB2 := Aside0.mk hB2
  have Hb2 := Aside0.mk (Hb1.out.trans hb2)
  clear hB2 hb2 HB1 Hb1
  go_wp2_with fail
  refine (put2 _ _ _ HB2.out).mono ?_
  rintro e w3 ⟨rfl, hB3, hb3⟩
  have HB3 := Aside0.mk hB3
  have Hb3 := Aside0.mk (Hb2.out.trans hb3)
  clear hB3 hb3 HB2 Hb2
  go_wp2_with fail
  refine (put3 _ _ _ HB3.out).mono ?_
  rintro e w4 ⟨rfl, hB4, hb4⟩
  have HB4 := Aside0.mk hB4
  have Hb4 := Aside0.mk (Hb3.out.trans hb4)
  clear hB4 hb4 HB3 Hb3
  go_wp2_with (first | (go_at_call 9; refine (text_calls _ _ _ _ _ _ HB4.out).mono ?_; rintro e w' ⟨rfl, ⟨nd, rfl⟩⟩) | (go_at_call 10; refine (full_calls _ _ _ _ _ _ (HB4.out.below (pw_below_drewN (Below.refl _ _) _))).mono ?_; rintro e w' ⟨rfl, ⟨nd, rfl⟩⟩))
  go_ret
  exact ⟨rfl, by repeat (first | exact Hb4.out | apply pw_below_drewN)⟩
/-- A pointer that is there, against nil. -/
theorem BufferNew_walk (room : Int) (w : World) (wr : (Lit.int .i64 room).wf = true) : Calls Try.prog 4 #[.int .i64 room] w fun e w' => e = .returned (.bool true) ∧ Below w.heap.size w w' := by
  by_cases h1 : room < 0
  · go_enter Try.func4, Try.ntmps4
    go_wp2_with (first | (go_at_call 6; refine (new_bad room w (.inl h1)).mono ?_; rintro e w1 ⟨rfl, hb1⟩; have Hb1 := Aside0.mk hb1; clear hb1) | (go_at_call 7; refine (awake_calls _).mono ?_; rintro e w2 ⟨rfl, hb2⟩; have Hb2 := Aside0.mk hb2; clear hb2))
    go_ret
    exact ⟨rfl, below_then Hb1.out Hb1.out.size Hb2.out⟩
  · by_cases h2 : 1048576 < room
    · go_enter Try.func4, Try.ntmps4
      go_wp2_with (first | (go_at_call 6; refine (new_bad room w (.inr h2)).mono ?_; rintro e w1 ⟨rfl, hb1⟩; have Hb1 := Aside0.mk hb1; clear hb1) | (go_at_call 7; refine (awake_calls _).mono ?_; rintro e w2 ⟨rfl, hb2⟩; have Hb2 := Aside0.mk hb2; clear hb2))
      go_ret
      exact ⟨rfl, below_then Hb1.out Hb1.out.size Hb2.out⟩
    · have e0 : room - (([] : List Int).length : Int) = room := by simp
      go_enter Try.func4, Try.ntmps4
      go_wp2_with (first | (go_at_call 6; refine (new_ok room w (by omega) (by omega)).mono ?_; rintro e w1 ⟨rfl, hB1, hb1⟩; have HB1 := Aside0.mk hB1; have Hb1 := Aside0.mk hb1; clear hB1 hb1) | (go_at_call 11; refine (len_calls _ _ _ _ _ _ HB1.out).mono ?_; rintro e w' ⟨rfl, ⟨n1, rfl⟩⟩) | (go_at_call 12; refine (left_calls _ _ _ _ _ _ (HB1.out.below (pw_below_drewN (Below.refl _ _) _)) (by decide) (by omega) (by omega)).mono ?_; rintro e w' ⟨rfl, ⟨n2, rfl⟩⟩) | (go_at_call 10; refine (full_calls _ _ _ _ _ _ (HB1.out.below (pw_below_drewN (Below.refl _ _) _))).mono ?_; rintro e w' ⟨rfl, ⟨n3, rfl⟩⟩) | (go_at_call 7; refine (awake_calls _).mono ?_; rintro e w2 ⟨rfl, hb2⟩; have Hb2 := Aside0.mk hb2; clear hb2))
      go_ret
      exact ⟨rfl, below_then (pw_below_drewN Hb1.out _) Hb1.out.size Hb2.out⟩
end Go.Proofs.Ytcpkmidgpbhpkaa.Buf
