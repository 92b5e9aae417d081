/- The walks of one round of the law BufferPlays: a call of both (step), and what a buffer tells (is). Conditions: the buffer is one that the law's own call has made, and holds what the document's state holds. -/
import Derived.Test.YtcpkmidgpbhpkaaParts
namespace Go.Proofs.Ytcpkmidgpbhpkaa.Buf
open Go.RowKit Go.Proofs.Ytcpkmidgpbhpkaa.Own Go.Proofs.Ytcpkmidgpbhpkaa.PAll Go.Proofs.YtcpkmidgpbhpkaaW.PrintWords Go.Proofs.YtcpkmidgpbhpkaaW.PrintLast Go.Proofs.YtcpkmidgpbhpkaaW.PrintMore
set_option linter.unusedVariables false
/-- The document's last place: from place i on, at being the last place ahead of i. -/
theorem refBack_from (s : ByteArray) (c : Int) (hs : s.size ≤ 1048576) : ∀ (d : Nat) (k : Nat) (i : Nat) (at_ : Int), i + d = s.size → d < k →
    ((at_ = -1 ∧ ∀ j, j < i → (bytesOf s).getD j 0 ≠ c) ∨ ∃ m : Nat, m < i ∧ at_ = (m : Int) ∧ (bytesOf s).getD m 0 = c ∧ ∀ j, m < j → j < i → (bytesOf s).getD j 0 ≠ c) →
    ∃ r, monikerref03_Back.l0 k s c at_ (i : Int) = some r ∧ IsBack (bytesOf s) c r := by
  intro d
  induction d with
  | zero =>
    intro k i at_ hi hk h
    obtain ⟨k, rfl⟩ : ∃ m, k = m + 1 := ⟨k - 1, by omega⟩
    refine ⟨at_, by simp only [monikerref03_Back.l0]; rw [if_neg (by omega)], ?_⟩
    obtain rfl : i = s.size := by omega
    unfold IsBack
    rw [bytesOf_length]
    exact h
  | succ d ih =>
    intro k i at_ hi hk h
    obtain ⟨k, rfl⟩ : ∃ m, k = m + 1 := ⟨k - 1, by omega⟩
    simp only [monikerref03_Back.l0]
    rw [if_pos (by omega), if_pos (by omega), By.bt_getD]
    have e : wrap64 ((i : Int) + 1) = ((i + 1 : Nat) : Int) := by unfold wrap64; omega
    rw [e]
    by_cases hc : (bytesOf s).getD i 0 = c
    · rw [if_pos hc]
      exact ih k (i + 1) i (by omega) (by omega) (.inr ⟨i, by omega, rfl, hc, fun j h1 h2 => by omega⟩)
    · rw [if_neg hc]
      refine ih k (i + 1) at_ (by omega) (by omega) ?_
      rcases h with ⟨h1, h2⟩ | ⟨m, hm, h1, h2, h3⟩
      · refine .inl ⟨h1, fun j hj => ?_⟩
        by_cases e : j = i
        · subst e; exact hc
        · exact h2 j (by omega)
      · refine .inr ⟨m, by omega, h1, h2, fun j hj1 hj2 => ?_⟩
        by_cases e : j = i
        · subst e; exact hc
        · exact h3 j hj1 (by omega)
theorem refBack_calls (s : ByteArray) (c : Int) (hs : s.size ≤ 1048576) :
    ∃ r, IsBack (bytesOf s) c r ∧ ∀ w, Calls Try.prog 21 #[.string s, .int .u8 c] w fun e w' => e = .returned (.int .i64 r) ∧ Drawn0 w w' := by
  obtain ⟨r, h1, h2⟩ := refBack_from s c hs s.size (s.size + 1) 0 (-1) (by omega) (by omega) (.inl ⟨rfl, fun j h => absurd h (Nat.not_lt_zero _)⟩)
  exact ⟨r, h2, fun w => monikerref03_Back.calls (s.size + 1) s c r w h1⟩
/-- A contract that draws, met in a region that only reads. -/
theorem quiet_drawn {P : Program} {f : FuncId} {args : Array Value} {w : World} {m n : Nat} {v : Value}
    (h : Calls P f args (w.drewN (m + n)) fun e w' => e = .returned v ∧ Drawn0 (w.drewN (m + n)) w') : Calls P f args (w.drewN (m + n)) fun e w'' => e = .returned v ∧ ∃ k, w'' = w.drewN (m + k) :=
  h.mono fun _ _ ⟨he, ⟨k, hk⟩⟩ => ⟨he, n + k, by rw [hk, World.drewN_drewN, Nat.add_assoc]⟩
theorem IsBuf.al {w : World} {base g : Nat} {xs : List Int} {room : Int} {full : Bool} (h : IsBuf w base g xs room full) (o : Obj) : IsBuf (w.alloc o) base g xs room full := h.below (below_alloc (Below.refl _ _) _)
/-- What the buffer's reading methods answer, in every later world. -/
structure Tells (g : Nat) (s : ByteArray) (room : Int) (full : Bool) (base : Nat) (c r l : Int) : Prop where
  text : ∀ w, IsBuf w base g (bytesOf s) room full → Calls Try.prog 9 #[.pointer (some ⟨g, 0, none⟩)] w fun e w' => e = .returned (.string (strOfNums (bytesOf s))) ∧ Drawn0 w w'
  len : ∀ w, IsBuf w base g (bytesOf s) room full → Calls Try.prog 11 #[.pointer (some ⟨g, 0, none⟩)] w fun e w' => e = .returned (.int .i64 s.size) ∧ Drawn0 w w'
  left : ∀ w, IsBuf w base g (bytesOf s) room full → Calls Try.prog 12 #[.pointer (some ⟨g, 0, none⟩)] w fun e w' => e = .returned (.int .i64 l) ∧ Drawn0 w w'
  isFull : ∀ w, IsBuf w base g (bytesOf s) room full → Calls Try.prog 10 #[.pointer (some ⟨g, 0, none⟩)] w fun e w' => e = .returned (.bool full) ∧ Drawn0 w w'
  back : ∀ w, IsBuf w base g (bytesOf s) room full → Calls Try.prog 20 #[.pointer (some ⟨g, 0, none⟩), .int .u8 c] w fun e w' => e = .returned (.int .i64 r) ∧ Drawn0 w w'
theorem tells (g : Nat) (s : ByteArray) (room : Int) (full : Bool) (base : Nat) (c r l : Int) (hr : IsBack (bytesOf s) c r) (hl : l = if full = true then 0 else room - (s.size : Int)) (h0 : s.size ≤ 1048576) (h1 : 0 ≤ room) (h2 : room ≤ 1048576) : Tells g s room full base c r l := by
  have e := bytesOf_length s
  refine ⟨fun w h => text_calls g _ room full base w h, fun w h => ?_, fun w h => ?_, fun w h => full_calls g _ room full base w h, fun w h => ?_⟩
  · have := len_calls g _ room full base w h
    rw [e] at this
    exact this
  · have := left_calls g _ room full base w h (by omega) h1 h2
    rw [e, ← hl] at this
    exact this
  · exact (back_calls g _ room full base w c h (by omega)).mono fun e w' ⟨⟨q, he, hq⟩, hd⟩ => ⟨by rw [he, hq.uniq hr], hd⟩
theorem is_calls (g : Nat) (room : Int) (full : Bool) (base : Nat) (w : World) (c : Int) (s : ByteArray) (hB : IsBuf w base g (bytesOf s) room full) (h0 : s.size ≤ 1048576) (h1 : 0 ≤ room) (h2 : room ≤ 1048576) :
    Calls Try.prog 14 #[.pointer (some ⟨g, 0, none⟩), .agg #[.string s, .int .i64 room, .bool full], .int .u8 c] w fun e w' => e = .returned (.bool true) ∧ Below w.heap.size w w' := by
  have ht : ((strOfNums (bytesOf s)).toList == s.toList) = true := by rw [By.str_bytes]; simp
  obtain ⟨r, hr, hrb⟩ := refBack_calls s c h0
  obtain ⟨l, hl⟩ : ∃ l, l = if full = true then 0 else room - (s.size : Int) := ⟨_, rfl⟩
  have HT := Aside0.mk (tells g s room full base c r l hr hl h0 h1 h2)
  have HRB := Aside0.mk hrb
  have HB := Aside0.mk hB
  have hw : IntKind.i64.wrap (room - (s.size : Int)) = room - (s.size : Int) := IntWalk.i64_in _ (by omega)
  clear hr hrb
  rcases Nat.eq_zero_or_pos s.size with hz | hz
  · have hb0 := By.bytes_empty.2 hz
    have HLA := Aside0.mk (fun w (h : IsBuf w base g (bytesOf s) room full) => last_none g room full base w (by rw [← hb0]; exact h))
    clear hB hb0
    cases full with
    | true =>
      rw [if_pos rfl] at hl
      subst hl
      go_enter Try.func14, Try.ntmps14
      go_wp2_with (first | (go_at_call 19; refine (HLA.out _ (HB.out.al _)).mono ?_; rintro e w1 ⟨rfl, ⟨n1, rfl⟩⟩))
      go_quiet ((first | (go_at_call 9; refine quiet_drawn (HT.out.text _ ?_)) | (go_at_call 11; refine quiet_drawn (HT.out.len _ ?_)) | (go_at_call 12; refine quiet_drawn (HT.out.left _ ?_)) | (go_at_call 10; refine quiet_drawn (HT.out.isFull _ ?_)) | (go_at_call 20; refine quiet_drawn (HT.out.back _ ?_)) | (go_at_call 21; exact quiet_drawn (HRB.out _))) <;> (repeat (first | exact HB.out | apply IsBuf.drawn | apply IsBuf.al)))
      go_wp2
      go_ret
      exact ⟨rfl, (by repeat (first | exact Below.refl _ _ | apply pw_below_drewN | apply below_alloc))⟩
    | false =>
      rw [if_neg (by decide), hz] at hl
      rw [hz] at hw
      have hl' : l = room := by omega
      subst hl'
      clear hl
      go_enter Try.func14, Try.ntmps14
      go_wp2_with (first | (go_at_call 19; refine (HLA.out _ (HB.out.al _)).mono ?_; rintro e w1 ⟨rfl, ⟨n1, rfl⟩⟩))
      go_quiet ((first | (go_at_call 9; refine quiet_drawn (HT.out.text _ ?_)) | (go_at_call 11; refine quiet_drawn (HT.out.len _ ?_)) | (go_at_call 12; refine quiet_drawn (HT.out.left _ ?_)) | (go_at_call 10; refine quiet_drawn (HT.out.isFull _ ?_)) | (go_at_call 20; refine quiet_drawn (HT.out.back _ ?_)) | (go_at_call 21; exact quiet_drawn (HRB.out _))) <;> (repeat (first | exact HB.out | apply IsBuf.drawn | apply IsBuf.al)))
      go_wp2
      go_ret
      exact ⟨rfl, (by repeat (first | exact Below.refl _ _ | apply pw_below_drewN | apply below_alloc))⟩
  · obtain ⟨n, hn⟩ : ∃ n, n = s.size := ⟨_, rfl⟩
    have hlast : ∀ w, IsBuf w base g (bytesOf s) room full → Calls Try.prog 19 #[.pointer (some ⟨g, 0, none⟩)] w fun e w' => e = .returned (.tuple #[.int .u8 (bt s ((s.size : Int) - 1)), .bool true]) ∧ Drawn0 w w' := by
      intro w h
      have := last_some g (bytesOf s) room full base w h (by rw [bytesOf_length]; omega) (by rw [bytesOf_length]; omega)
      rw [bytesOf_length, ← By.bt_getD, show ((s.size - 1 : Nat) : Int) = (s.size : Int) - 1 by omega] at this
      exact this
    have HLA := Aside0.mk hlast
    have hw1 : IntKind.i64.wrap ((s.size : Int) - 1) = (s.size : Int) - 1 := IntWalk.i64_in _ (by omega)
    have hx5 : ∀ h : s.size - 1 < s.size, ((s[s.size - 1]'h).toNat : Int) = bt s ((s.size : Int) - 1) := by
      intro h
      rw [show ((s.size : Int) - 1) = ((s.size - 1 : Nat) : Int) by omega]
      exact bt_at s ((s.size - 1 : Nat) : Int) h
    have hp5 : (0 ≤ (s.size : Int) - 1) = True := eq_true (by omega)
    have hq5 : ((s.size : Int) - 1 < s.size) = True := eq_true (by omega)
    have hz2 : (0 < (s.size : Int)) = True := eq_true (by omega)
    have hz3 : decide (0 < (s.size : Int)) = true := decide_eq_true (by omega)
    clear hlast hB hn
    cases full with
    | true =>
      rw [if_pos rfl] at hl
      subst hl
      go_enter Try.func14, Try.ntmps14
      go_wp2_with (first | (go_at_call 19; refine (HLA.out _ (HB.out.al _)).mono ?_; rintro e w1 ⟨rfl, ⟨n1, rfl⟩⟩))
      go_quiet ((first | (go_at_call 9; refine quiet_drawn (HT.out.text _ ?_)) | (go_at_call 11; refine quiet_drawn (HT.out.len _ ?_)) | (go_at_call 12; refine quiet_drawn (HT.out.left _ ?_)) | (go_at_call 10; refine quiet_drawn (HT.out.isFull _ ?_)) | (go_at_call 20; refine quiet_drawn (HT.out.back _ ?_)) | (go_at_call 21; exact quiet_drawn (HRB.out _))) <;> (repeat (first | exact HB.out | apply IsBuf.drawn | apply IsBuf.al)))
      go_wp2
      go_ret
      exact ⟨rfl, (by repeat (first | exact Below.refl _ _ | apply pw_below_drewN | apply below_alloc))⟩
    | false =>
      rw [if_neg (by decide)] at hl
      rw [hl] at HT
      clear hl
      go_enter Try.func14, Try.ntmps14
      go_wp2_with (first | (go_at_call 19; refine (HLA.out _ (HB.out.al _)).mono ?_; rintro e w1 ⟨rfl, ⟨n1, rfl⟩⟩))
      go_quiet ((first | (go_at_call 9; refine quiet_drawn (HT.out.text _ ?_)) | (go_at_call 11; refine quiet_drawn (HT.out.len _ ?_)) | (go_at_call 12; refine quiet_drawn (HT.out.left _ ?_)) | (go_at_call 10; refine quiet_drawn (HT.out.isFull _ ?_)) | (go_at_call 20; refine quiet_drawn (HT.out.back _ ?_)) | (go_at_call 21; exact quiet_drawn (HRB.out _))) <;> (repeat (first | exact HB.out | apply IsBuf.drawn | apply IsBuf.al)))
      go_wp2
      go_ret
      exact ⟨rfl, (by repeat (first | exact Below.refl _ _ | apply pw_below_drewN | apply below_alloc))⟩
end Go.Proofs.Ytcpkmidgpbhpkaa.Buf
