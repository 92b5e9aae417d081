/- The walk of the law BufferParts: true at every room and every slice of texts. Condition: each text is within the form's reach. -/
import Derived.Test.YtcpkmidgpbhpkaaNew
namespace Go.Proofs.Ytcpkmidgpbhpkaa.Buf
open Go.RowKit Go.Proofs.Ytcpkmidgpbhpkaa.Own Go.Proofs.YtcpkmidgpbhpkaaW.PrintWords Go.Proofs.YtcpkmidgpbhpkaaW.PrintLast Go.Proofs.YtcpkmidgpbhpkaaW.PrintMore
set_option linter.unusedVariables false
theorem IsBuf.drawn {w : World} {base g : Nat} {xs : List Int} {room : Int} {full : Bool} (h : IsBuf w base g xs room full) (n : Nat) : IsBuf (w.drewN n) base g xs room full := h.below (pw_below_drewN (Below.refl _ _) _)
/-- What the loop holds at its head. -/
def PartsInv (w wr : World) (ss : List ByteArray) (room : Int) (k : Nat) (all : ByteArray) (over : Bool) : Prop :=
  k ≤ ss.length ∧ IsBuf wr w.heap.size w.heap.size (bytesOf all) room over ∧ (all.size : Int) ≤ room ∧ Below w.heap.size w wr
set_option maxHeartbeats 2000000 in
theorem Parts_walk (room : Int) (A : Option Addr) (cap : Nat) (ss : List ByteArray) (w : World) (wr : (Lit.int .u8 room).wf = true) (hR : Kd.string.C w A ss.length ss) (hlen : ss.length ≤ 9223372036854775807) (hsz : ∀ j, j < ss.length → (ss.getD j ByteArray.empty).size ≤ 9223372036854775807) :
    Calls Try.prog 3 #[.int .u8 room, .slice A ss.length cap] w fun e w' => e = .returned (.bool true) ∧ Below w.heap.size w w' := by
  have hr := bounds_u8 wr
  obtain ⟨n, hn⟩ : ∃ n, n = ss.length := ⟨_, rfl⟩
  have HR := Aside0.mk hR
  have HN := Aside0.mk hn
  have HS := Aside0.mk hsz
  rw [← hn] at hlen ⊢
  clear wr hR hn hsz
  by_cases h50 : (50 : Int) < n
  · go_enter Try.func3, Try.ntmps3
    go_wp2_with (first | (go_at_call 6; refine (new_ok room w (by omega) (by omega)).mono ?_; rintro e w1 ⟨rfl, hB1, hb1⟩; have HB1 := Aside0.mk hB1; have Hb1 := Aside0.mk hb1; clear hB1 hb1) | (go_at_call 7; refine (awake_calls _).mono ?_; rintro e w2 ⟨rfl, hb2⟩; have Hb2 := Aside0.mk hb2; clear hb2))
    go_ret
    exact ⟨rfl, below_then Hb1.out Hb1.out.size Hb2.out⟩
  · go_enter Try.func3, Try.ntmps3
    go_wp2_with (first | (go_at_call 6; refine (new_ok room w (by omega) (by omega)).mono ?_; rintro e w1 ⟨rfl, hB1, hb1⟩; have HB1 := Aside0.mk hB1; have Hb1 := Aside0.mk hb1; clear hB1 hb1))
    go_loopw [7, 8, 36] (fun v7 v8 v36 wr => ∃ (k : Nat) (all : ByteArray) (over : Bool), v36 = .int .i64 k ∧ v7 = .string all ∧ v8 = .bool over ∧ Aside0 (PartsInv w wr ss room k all over)) (fun _ _ v36 _ => n - (intOf v36).toNat)
    case atStart => exact ⟨0, ⟨#[]⟩, false, rfl, rfl, rfl, ⟨Nat.zero_le _, HB1.out, hr.1, Hb1.out⟩⟩
    case round =>
      obtain ⟨k, all, over, rfl, rfl, rfl, HI⟩ := hrel
      have hk := HI.out.1
      rw [← HN.out] at hk
      have hall := HI.out.2.2.1
      by_cases hlt : k < n
      · obtain ⟨ad, hA, hcell⟩ := Kd.at_string HR.out k (by omega) (by rw [← HN.out]; omega)
        subst hA
        have hs := HS.out k (by rw [← HN.out]; exact hlt)
        have hcell2 := pw_cell_below HI.out.2.2.2 hcell
        rw [show rdOf ByteArray.empty ss (k : Int) = ss.getD k ByteArray.empty from rfl] at hcell2
        obtain ⟨s, hse⟩ : ∃ s, s = ss.getD k ByteArray.empty := ⟨_, rfl⟩
        rw [← hse] at hs hcell2
        have ek : ((k : Int)).toNat = k := by omega
        rw [ek] at hcell2
        clear hcell ek hse
        by_cases h300 : (300 : Int) < s.size
        · go_wp2_with (first | (go_at_call 7; refine (awake_calls _).mono ?_; rintro e w2 ⟨rfl, hb2⟩; have Hb2 := Aside0.mk hb2; clear hb2))
          go_ret
          exact ⟨rfl, below_then HI.out.2.2.2 HI.out.2.2.2.size Hb2.out⟩
        · have hp := put_any w.heap.size s (bytesOf all) room over w.heap.size wr HI.out.2.1 (by rw [bytesOf_length]; omega) (by omega) (by omega) (by omega)
          cases over with
          | true =>
            rw [show putOk (bytesOf all) room true s.size = false from rfl, if_neg (by decide)] at hp
            have HP := Aside0.mk hp
            clear hp
            go_wp2_with (first | (go_at_call 8; refine HP.out.mono ?_; rintro e w2 ⟨rfl, hB2, hb2⟩; have HB2 := Aside0.mk hB2; have Hb2 := Aside0.mk hb2; clear hB2 hb2))
            go_roundw
            case rel => exact ⟨k + 1, all, true, by go_num, rfl, rfl, ⟨by rw [← HN.out]; omega, HB2.out, hall, HI.out.2.2.2.trans Hb2.out⟩⟩
            case measure => simp [intOf]; omega
          | false =>
            by_cases hfit : (s.size : Int) ≤ room - all.size
            · rw [show putOk (bytesOf all) room false s.size = true by unfold putOk; rw [bytesOf_length]; simpa using hfit, if_pos rfl, ← By.bytes_append] at hp
              have HP := Aside0.mk hp
              clear hp
              have hnf : ¬ room - (all.size : Int) < (s.size : Int) := by omega
              have hsum : all.size + s.size ≤ 9223372036854775807 := by omega
              go_wp2_with (first | (go_at_call 8; refine HP.out.mono ?_; rintro e w2 ⟨rfl, hB2, hb2⟩; have HB2 := Aside0.mk hB2; have Hb2 := Aside0.mk hb2; clear hB2 hb2))
              go_roundw
              case rel => exact ⟨k + 1, all ++ s, false, by go_num, rfl, rfl, ⟨by rw [← HN.out]; omega, HB2.out, by rw [ByteArray.size_append]; omega, HI.out.2.2.2.trans Hb2.out⟩⟩
              case measure => simp [intOf]; omega
            · rw [show putOk (bytesOf all) room false s.size = false by unfold putOk; rw [bytesOf_length]; simpa using hfit, if_neg (by decide)] at hp
              have HP := Aside0.mk hp
              clear hp
              have hnf : room - (all.size : Int) < (s.size : Int) := by omega
              go_wp2_with (first | (go_at_call 8; refine HP.out.mono ?_; rintro e w2 ⟨rfl, hB2, hb2⟩; have HB2 := Aside0.mk hB2; have Hb2 := Aside0.mk hb2; clear hB2 hb2))
              go_roundw
              case rel => exact ⟨k + 1, all, true, by go_num, rfl, rfl, ⟨by rw [← HN.out]; omega, HB2.out, hall, HI.out.2.2.2.trans Hb2.out⟩⟩
              case measure => simp [intOf]; omega
      · have ht : ((strOfNums (bytesOf all)).toList == all.toList) = true := by rw [By.str_bytes]; simp
        go_wp2_with (first | (go_at_call 9; refine (text_calls _ _ _ _ _ _ HI.out.2.1).mono ?_; rintro e w' ⟨rfl, ⟨nd, rfl⟩⟩) | (go_at_call 10; refine (full_calls _ _ _ _ _ _ (HI.out.2.1.drawn _)).mono ?_; rintro e w' ⟨rfl, ⟨nd2, rfl⟩⟩) | (go_at_call 7; refine (awake_calls _).mono ?_; rintro e w2 ⟨rfl, hb2⟩; have Hb2 := Aside0.mk hb2; clear hb2))
        go_ret
        exact ⟨rfl, below_then (pw_below_drewN HI.out.2.2.2 _) HI.out.2.2.2.size Hb2.out⟩
end Go.Proofs.Ytcpkmidgpbhpkaa.Buf
