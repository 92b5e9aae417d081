/- The contracts of the buffer's methods. Conditions: the receiver is a buffer that the law's own call has made. -/
import Derived.Test.YtcpkmidgpbhpkaaPAllx1
import Derived.Test.YtcpkmidgpbhpkaaPRow
import Derived.Test.YtcpkmidgpbhpkaaBy
import Derived.IntWalk
namespace Go.Proofs.Ytcpkmidgpbhpkaa.Buf
open Go.RowKit Go.Proofs.Ytcpkmidgpbhpkaa.Own Go.Proofs.YtcpkmidgpbhpkaaW.PrintWords Go.Proofs.YtcpkmidgpbhpkaaW.PrintLast Go.Proofs.YtcpkmidgpbhpkaaW.PrintMore
set_option linter.unusedVariables false

/-- Block g is a buffer that holds xs. -/
def IsBuf (w : World) (base g : Nat) (xs : List Int) (room : Int) (full : Bool) : Prop :=
  base ≤ g ∧ ∃ v, w.heap[g]? = some (.cells #[v, .int .i64 room, .bool full] 44 (0, 0)) ∧ PRow w base 5 v xs
theorem IsBuf.below {w w1 : World} {base g : Nat} {xs : List Int} {room : Int} {full : Bool} (h : IsBuf w base g xs room full) (hb : Below w.heap.size w w1) : IsBuf w1 base g xs room full := by
  obtain ⟨h1, v, hh, hr⟩ := h
  exact ⟨h1, v, blk_below hh hb, hr.below hb⟩
theorem IsBuf.lt {w : World} {base g : Nat} {xs : List Int} {room : Int} {full : Bool} (h : IsBuf w base g xs room full) : base ≤ g ∧ g < w.heap.size := by
  obtain ⟨h1, v, hh, hr⟩ := h
  exact ⟨h1, (Array.getElem?_eq_some_iff.1 hh).1⟩

theorem new_bad (room : Int) (w : World) (h : room < 0 ∨ 1048576 < room) :
    Calls Try.prog 6 #[.int .i64 room] w fun e w' => e = .returned (.tuple #[.pointer none, .int .i64 7]) ∧ Below w.heap.size w w' := by
  rcases h with h | h
  · go_enter Try.func6, Try.ntmps6
    go_wp2
    go_ret2
    exact ⟨rfl, Below.refl _ _⟩
  · have h' : ¬ room < 0 := by omega
    go_enter Try.func6, Try.ntmps6
    go_wp2
    go_ret2
    exact ⟨rfl, Below.refl _ _⟩
theorem new_ok (room : Int) (w : World) (h1 : 0 ≤ room) (h2 : room ≤ 1048576) :
    Calls Try.prog 6 #[.int .i64 room] w fun e w' => e = .returned (.tuple #[.pointer (some ⟨w.heap.size, 0, none⟩), .int .i64 0]) ∧ IsBuf w' w.heap.size w.heap.size [] room false ∧ Below w.heap.size w w' := by
  go_enter Try.func6, Try.ntmps6
  go_wp2
  go_ret2
  refine ⟨rfl, ⟨Nat.le_refl _, .slice none 0 0, ?_, PRow.nil _ _ _⟩, below_alloc (Below.refl _ _) _⟩
  rw [blk_new]
theorem put_no (g : Nat) (s : ByteArray) (xs : List Int) (room : Int) (full : Bool) (base : Nat) (w : World) (hB : IsBuf w base g xs room full) (h0 : xs.length ≤ 1048576) (h1 : 0 ≤ room) (h2 : room ≤ 1048576) (hs : s.size ≤ 140737488351232) (h : full = true ∨ room - xs.length < (s.size : Int)) :
    Calls Try.prog 8 #[.pointer (some ⟨g, 0, none⟩), .string s] w fun e w' => e = .returned (.bool false) ∧ IsBuf w' base g xs room true ∧ Below base w w' := by
  obtain ⟨hbg, v, hh, hr⟩ := hB
  obtain ⟨A, c, hv, _⟩ := hr.slice
  have HR := Aside0.mk hr
  have HH := Aside0.mk hh
  clear hr
  subst hv
  have c0 := blk_cell hh 0
  have c1 := blk_cell hh 1
  have c2 := blk_cell hh 2
  have f2 := blk_frozen hh 2
  simp at c0 c1 c2
  clear hh
  cases full with
  | true =>
    clear h
    go_enter Try.func8, Try.ntmps8
    go_wp2
    go_quiet (fail)
    go_wp2
    go_ret
    refine ⟨rfl, ⟨hbg, .slice A xs.length c, ?_, ?_⟩, ?_⟩
    · exact blk_put (blk_drewN HH.out _) 2 _ rfl
    · exact PRow.far (HR.out.below (pw_below_drewN (Below.refl _ _) _)) (blk_drewN HH.out _) (by decide) 2 _
    · exact (pw_below_drewN (Below.refl _ _) _).setCell hbg _
  | false =>
    have h' : room - xs.length < (s.size : Int) := by simpa using h
    clear h
    have hw : IntKind.i64.wrap (room - (xs.length : Int)) = room - (xs.length : Int) := IntWalk.i64_in _ (by omega)
    have hd : decide (room - (xs.length : Int) < (s.size : Int)) = true := decide_eq_true h'
    go_enter Try.func8, Try.ntmps8
    go_wp2
    go_quiet (fail)
    go_wp2
    go_ret
    refine ⟨rfl, ⟨hbg, .slice A xs.length c, ?_, ?_⟩, ?_⟩
    · exact blk_put (blk_drewN HH.out _) 2 _ rfl
    · exact PRow.far (HR.out.below (pw_below_drewN (Below.refl _ _) _)) (blk_drewN HH.out _) (by decide) 2 _
    · exact (pw_below_drewN (Below.refl _ _) _).setCell hbg _
theorem info5 : (Try.prog.info? 5).map (fun i => (i.zero, i.size, i.bytes)) = some (some (.int .u8 0), 1, 1) := by kernel_rfl
theorem put_yes (g : Nat) (s : ByteArray) (xs : List Int) (room : Int) (base : Nat) (w : World) (hB : IsBuf w base g xs room false) (h0 : xs.length ≤ 1048576) (h1 : 0 ≤ room) (h2 : room ≤ 1048576) (hs : s.size ≤ 140737488351232) (h : (s.size : Int) ≤ room - xs.length) :
    Calls Try.prog 8 #[.pointer (some ⟨g, 0, none⟩), .string s] w fun e w' => e = .returned (.bool true) ∧ IsBuf w' base g (xs ++ bytesOf s) room false ∧ Below base w w' := by
  obtain ⟨hbg, v, hh, hr⟩ := hB
  obtain ⟨A, c, hv, _⟩ := hr.slice
  have HR := Aside0.mk hr
  have HH := Aside0.mk hh
  have HLT := Aside0.mk (Nat.le_trans hbg (Nat.le_of_lt (blk_lt hh)))
  clear hr
  subst hv
  have c0 := blk_cell hh 0
  have c1 := blk_cell hh 1
  have c2 := blk_cell hh 2
  simp at c0 c1 c2
  have f0 := blk_frozen hh 0
  clear hh
  have h' : ¬ room - xs.length < (s.size : Int) := by omega
  have hw : IntKind.i64.wrap (room - (xs.length : Int)) = room - (xs.length : Int) := IntWalk.i64_in _ (by omega)
  have hd : decide (room - (xs.length : Int) < (s.size : Int)) = false := decide_eq_false h'
  go_enter Try.func8, Try.ntmps8
  go_wp2
  go_quiet (fail)
  go_wp2_with (first | (at_builtin; refine wpList_append_prow base rfl (.tmp 31) (.tmp 32) 42 9 5 rfl Try.underlying42 Try.underlying9 info5 (.slice A xs.length c) xs rfl ?aR s rfl ?aL ?aB ?_; (case aR => exact HR.out.below (pw_below_drewN (Below.refl _ _) _)); (case aL => omega); (case aB => exact HLT.out); intro A1 cc1 w1 hr1 hg1; have hne : some g ≠ (Value.slice A xs.length c).ownBlock := (fun e => by have := HR.out.lt g e.symm; obtain ⟨_, _, cur, hc⟩ := this; rw [HH.out] at hc; injection hc with hc; injection hc with _ hc _; revert hc; decide); have hh1 := blk_grown (blk_drewN HH.out _) hg1 hne; have HH1 := Aside0.mk hh1; have f1 := blk_frozen hh1 0; have e1 := blk_cell hh1 0; simp at e1; have HR1 := Aside0.mk hr1; have HG1 := Aside0.mk hg1; clear hr1 hg1 hh1 hne))
  go_ret
  refine ⟨rfl, ⟨hbg, .slice A1 (xs ++ bytesOf s).length cc1, ?_, ?_⟩, ?_⟩
  · exact blk_put HH1.out 0 _ (by rw [List.length_append]; rfl)
  · exact PRow.far HR1.out HH1.out (by decide) 0 _
  · refine Below.setCell (Below.grown (pw_below_drewN (Below.refl _ _) _) HG1.out HLT.out (fun k hk => (HR.out.lt k hk).1)) hbg _

theorem text_calls (g : Nat) (xs : List Int) (room : Int) (full : Bool) (base : Nat) (w : World) (hB : IsBuf w base g xs room full) :
    Calls Try.prog 9 #[.pointer (some ⟨g, 0, none⟩)] w fun e w' => e = .returned (.string (strOfNums xs)) ∧ Drawn0 w w' := by
  obtain ⟨hbg, v, hh, hr⟩ := hB
  have hcv := PRow.string (P := Try.prog) Try.underlying42 Try.underlying5 Try.underlying9 hr
  obtain ⟨A, c, hv, _⟩ := hr.slice
  subst hv
  have c0 := blk_cell hh 0
  simp at c0
  clear hh hr
  go_enter Try.func9, Try.ntmps9
  go_wp2
  go_ret
  exact ⟨rfl, Drawn0.refl _⟩
theorem len_calls (g : Nat) (xs : List Int) (room : Int) (full : Bool) (base : Nat) (w : World) (hB : IsBuf w base g xs room full) :
    Calls Try.prog 11 #[.pointer (some ⟨g, 0, none⟩)] w fun e w' => e = .returned (.int .i64 xs.length) ∧ Drawn0 w w' := by
  obtain ⟨hbg, v, hh, hr⟩ := hB
  obtain ⟨A, c, hv, _⟩ := hr.slice
  subst hv
  have c0 := blk_cell hh 0
  simp at c0
  clear hh hr
  go_enter Try.func11, Try.ntmps11
  go_wp2
  go_ret
  exact ⟨rfl, Drawn0.refl _⟩
theorem full_calls (g : Nat) (xs : List Int) (room : Int) (full : Bool) (base : Nat) (w : World) (hB : IsBuf w base g xs room full) :
    Calls Try.prog 10 #[.pointer (some ⟨g, 0, none⟩)] w fun e w' => e = .returned (.bool full) ∧ Drawn0 w w' := by
  obtain ⟨hbg, v, hh, hr⟩ := hB
  have c2 := blk_cell hh 2
  simp at c2
  clear hh hr
  go_enter Try.func10, Try.ntmps10
  go_wp2
  go_ret
  exact ⟨rfl, Drawn0.refl _⟩
theorem left_calls (g : Nat) (xs : List Int) (room : Int) (full : Bool) (base : Nat) (w : World) (hB : IsBuf w base g xs room full) (h0 : xs.length ≤ 1048576) (h1 : 0 ≤ room) (h2 : room ≤ 1048576) :
    Calls Try.prog 12 #[.pointer (some ⟨g, 0, none⟩)] w fun e w' => e = .returned (.int .i64 (if full = true then 0 else room - xs.length)) ∧ Drawn0 w w' := by
  obtain ⟨hbg, v, hh, hr⟩ := hB
  obtain ⟨A, c, hv, _⟩ := hr.slice
  subst hv
  have c0 := blk_cell hh 0
  have c1 := blk_cell hh 1
  have c2 := blk_cell hh 2
  simp at c0 c1 c2
  clear hh hr
  cases full with
  | true =>
    rw [if_pos rfl]
    go_enter Try.func12, Try.ntmps12
    go_wp2
    go_ret
    exact ⟨rfl, Drawn0.refl _⟩
  | false =>
    rw [if_neg (by decide)]
    have hw : IntKind.i64.wrap (room - (xs.length : Int)) = room - (xs.length : Int) := IntWalk.i64_in _ (by omega)
    go_enter Try.func12, Try.ntmps12
    go_wp2
    go_quiet (fail)
    go_wp2
    go_ret
    exact ⟨rfl, ⟨⟨_, rfl⟩⟩⟩
theorem last_none (g : Nat) (room : Int) (full : Bool) (base : Nat) (w : World) (hB : IsBuf w base g [] room full) :
    Calls Try.prog 19 #[.pointer (some ⟨g, 0, none⟩)] w fun e w' => e = .returned (.tuple #[.int .u8 0, .bool false]) ∧ Drawn0 w w' := by
  obtain ⟨hbg, v, hh, hr⟩ := hB
  obtain ⟨A, c, hv, _⟩ := hr.slice
  subst hv
  have c0 := blk_cell hh 0
  simp at c0
  clear hh hr
  go_enter Try.func19, Try.ntmps19
  go_wp2
  go_ret2
  exact ⟨rfl, Drawn0.refl _⟩
theorem last_some (g : Nat) (xs : List Int) (room : Int) (full : Bool) (base : Nat) (w : World) (hB : IsBuf w base g xs room full) (h0 : xs.length ≤ 1048576) (hp : 0 < xs.length) :
    Calls Try.prog 19 #[.pointer (some ⟨g, 0, none⟩)] w fun e w' => e = .returned (.tuple #[.int .u8 (xs.getD (xs.length - 1) 0), .bool true]) ∧ Drawn0 w w' := by
  obtain ⟨hbg, v, hh, hr⟩ := hB
  obtain ⟨A, c, hv, hr2⟩ := hr.reads
  obtain ⟨q, rfl, hc⟩ := hr2 hp
  subst hv
  have c0 := blk_cell hh 0
  simp at c0
  obtain ⟨n, hn⟩ : ∃ n, n = xs.length - 1 := ⟨_, rfl⟩
  have c1 := hc n (by omega)
  obtain ⟨y, hy⟩ : ∃ y, y = xs.getD n 0 := ⟨_, rfl⟩
  rw [← hn]
  rw [← hy] at c1 ⊢
  obtain ⟨m, hm⟩ : ∃ m, m = xs.length := ⟨_, rfl⟩
  rw [← hm] at c0
  have hnm : n + 1 = m := by omega
  have hm2 : m ≤ 1048576 := by omega
  clear hh hr hc hr2 hy hn hm hp h0
  have hw : IntKind.i64.wrap ((m : Int) - 1) = (m : Int) - 1 := IntWalk.i64_in _ (by omega)
  have hz : ((m : Int) == 0) = false := by simp; omega
  have h5 : 0 ≤ (m : Int) - 1 := by omega
  have h6 : (m : Int) - 1 < m := by omega
  have h7 : ((m : Int) - 1).toNat = n := by omega
  clear hnm
  go_enter Try.func19, Try.ntmps19
  go_wp2
  go_quiet (fail)
  go_wp2
  go_ret2
  exact ⟨rfl, ⟨⟨_, rfl⟩⟩⟩
theorem cut_no (g : Nat) (xs : List Int) (room : Int) (full : Bool) (base : Nat) (w : World) (n : Int) (hB : IsBuf w base g xs room full) (hn : n < 0 ∨ (xs.length : Int) < n) :
    Calls Try.prog 17 #[.pointer (some ⟨g, 0, none⟩), .int .i64 n] w fun e w' => e = .returned (.bool false) ∧ Drawn0 w w' := by
  obtain ⟨hbg, v, hh, hr⟩ := hB
  obtain ⟨A, c, hv, _⟩ := hr.slice
  subst hv
  have c0 := blk_cell hh 0
  simp at c0
  clear hh hr
  rcases hn with hn | hn
  · go_enter Try.func17, Try.ntmps17
    go_wp2
    go_ret
    exact ⟨rfl, Drawn0.refl _⟩
  · have hn0 : ¬ n < 0 := by omega
    go_enter Try.func17, Try.ntmps17
    go_wp2
    go_ret
    exact ⟨rfl, Drawn0.refl _⟩
theorem cut_yes (g : Nat) (xs : List Int) (room : Int) (full : Bool) (base : Nat) (w : World) (n : Nat) (hB : IsBuf w base g xs room full) (hn : n ≤ xs.length) :
    Calls Try.prog 17 #[.pointer (some ⟨g, 0, none⟩), .int .i64 n] w fun e w' => e = .returned (.bool true) ∧ IsBuf w' base g (xs.take n) room full ∧ Below base w w' := by
  obtain ⟨hbg, v, hh, hr⟩ := hB
  obtain ⟨A, c, hv, hlc⟩ := hr.slice
  subst hv
  have HR := Aside0.mk hr
  have HH := Aside0.mk hh
  have c0 := blk_cell hh 0
  simp at c0
  have f0 := blk_frozen hh 0
  have h1 : ¬ (xs.length : Int) < (n : Int) := by omega
  have h2 : (n : Int) ≤ (c : Int) := by omega
  clear hh hr
  go_enter Try.func17, Try.ntmps17
  go_wp2
  go_ret
  refine ⟨rfl, ⟨hbg, .slice A n n, ?_, ?_⟩, ?_⟩
  · exact blk_put HH.out 0 _ rfl
  · exact PRow.far (HR.out.cut n hn) HH.out (by decide) 0 _
  · exact Below.setCell (Below.refl _ _) hbg _
theorem clear_calls (g : Nat) (xs : List Int) (room : Int) (full : Bool) (base : Nat) (w : World) (hB : IsBuf w base g xs room full) :
    Calls Try.prog 18 #[.pointer (some ⟨g, 0, none⟩)] w fun e w' => e = .returned (.tuple #[]) ∧ IsBuf w' base g [] room false ∧ Below base w w' := by
  obtain ⟨hbg, v, hh, hr⟩ := hB
  have HH := Aside0.mk hh
  obtain ⟨A, c, hv, hlc⟩ := hr.slice
  subst hv
  have c0 := blk_cell hh 0
  have c2 := blk_cell hh 2
  simp at c0 c2
  have f0 := blk_frozen hh 0
  have f2 := blk_frozen hh 2
  clear hh hr
  go_enter Try.func18, Try.ntmps18
  go_wp2
  go_end0
  refine ⟨rfl, ⟨hbg, .slice none 0 0, ?_, PRow.nil _ _ _⟩, ?_⟩
  · exact blk_put (blk_put HH.out 0 _ rfl) 2 _ rfl
  · exact Below.setCell (Below.setCell (Below.refl _ _) hbg _) hbg _

/-- Where a value stands last; -1: nowhere. -/
def IsBack (xs : List Int) (c r : Int) : Prop := (r = -1 ∧ ∀ j, j < xs.length → xs.getD j 0 ≠ c) ∨ ∃ k, k < xs.length ∧ r = (k : Int) ∧ xs.getD k 0 = c ∧ ∀ j, k < j → j < xs.length → xs.getD j 0 ≠ c
theorem IsBack.uniq {xs : List Int} {c r q : Int} (h : IsBack xs c r) (k : IsBack xs c q) : r = q := by
  rcases h with ⟨rfl, h⟩ | ⟨a, ha, rfl, ha1, ha2⟩
  · rcases k with ⟨rfl, _⟩ | ⟨b, hb, rfl, hb1, hb2⟩
    · rfl
    · exact absurd hb1 (h b hb)
  · rcases k with ⟨rfl, k⟩ | ⟨b, hb, rfl, hb1, hb2⟩
    · exact absurd ha1 (k a ha)
    · have : a = b := by
        rcases Nat.lt_trichotomy a b with h | h | h
        · exact absurd hb1 (ha2 b h hb)
        · exact h
        · exact absurd ha1 (hb2 a h ha)
      rw [this]
theorem back_calls (g : Nat) (xs : List Int) (room : Int) (full : Bool) (base : Nat) (w : World) (c : Int) (hB : IsBuf w base g xs room full) (h0 : xs.length ≤ 1048576) :
    Calls Try.prog 20 #[.pointer (some ⟨g, 0, none⟩), .int .u8 c] w fun e w' => (∃ r : Int, e = .returned (.int .i64 r) ∧ IsBack xs c r) ∧ Drawn0 w w' := by
  obtain ⟨hbg, v, hh, hr⟩ := hB
  obtain ⟨A, cc, hv, hr2⟩ := hr.reads
  subst hv
  have c0 := blk_cell hh 0
  simp at c0
  have HC := Aside0.mk hr2
  clear hh hr hr2
  go_enter Try.func20, Try.ntmps20
  go_wp2
  go_loop [5] (fun i => ∃ k : Nat, i = .int .i64 ((k : Int) - 1) ∧ Aside0 (k ≤ xs.length ∧ ∀ j, k ≤ j → j < xs.length → xs.getD j 0 ≠ c)) (fun i => (intOf i + 1).toNat)
  case atStart => exact ⟨xs.length, rfl, ⟨Nat.le_refl _, fun j h1 h2 => by omega⟩⟩
  case round =>
    obtain ⟨k, rfl, HK⟩ := hrel
    by_cases hk : 0 < k
    · obtain ⟨k, rfl⟩ : ∃ m, k = m + 1 := ⟨k - 1, by omega⟩
      have hkl := HK.out.1
      obtain ⟨q, rfl, hcell⟩ := HC.out (by omega)
      have c1 := hcell k (by omega)
      obtain ⟨y, hy⟩ : ∃ y, y = xs.getD k 0 := ⟨_, rfl⟩
      rw [← hy] at c1
      have HY := Aside0.mk hy
      clear hcell hy
      have e1 : (((k + 1 : Nat) : Int) - 1) = (k : Int) := by omega
      rw [e1]
      clear e1
      by_cases hyc : y = c
      · have hb : (y == c) = true := by simpa using hyc
        have HYC := Aside0.mk hyc
        clear hyc
        go_wp2
        go_ret
        exact ⟨⟨_, rfl, .inr ⟨k, by omega, rfl, by rw [← HY.out]; exact HYC.out, fun j h1 h2 => HK.out.2 j (by omega) h2⟩⟩, Drawn0.refl _⟩
      · have hb : (y == c) = false := by simpa using hyc
        have HYC := Aside0.mk hyc
        clear hyc
        go_wp2
        go_round
        case rel => exact ⟨k, by rfl, ⟨by omega, fun j h1 h2 => by
          by_cases e : j = k
          · subst e; rw [← HY.out]; exact HYC.out
          · exact HK.out.2 j (by omega) h2⟩⟩
        case measure => simp [intOf]
    · obtain rfl : k = 0 := by omega
      go_wp2
      go_ret
      exact ⟨⟨_, rfl, .inl ⟨rfl, fun j h => HK.out.2 j (Nat.zero_le _) h⟩⟩, Drawn0.refl _⟩
/-- Does a text of n bytes fit? -/
def putOk (xs : List Int) (room : Int) (full : Bool) (n : Nat) : Bool := !full && decide ((n : Int) ≤ room - xs.length)
theorem put_any (g : Nat) (s : ByteArray) (xs : List Int) (room : Int) (full : Bool) (base : Nat) (w : World) (hB : IsBuf w base g xs room full) (h0 : xs.length ≤ 1048576) (h1 : 0 ≤ room) (h2 : room ≤ 1048576) (hs : s.size ≤ 140737488351232) :
    Calls Try.prog 8 #[.pointer (some ⟨g, 0, none⟩), .string s] w fun e w' => e = .returned (.bool (putOk xs room full s.size)) ∧ IsBuf w' base g (if putOk xs room full s.size = true then xs ++ bytesOf s else xs) room (!putOk xs room full s.size) ∧ Below base w w' := by
  cases hk : putOk xs room full s.size with
  | true =>
    unfold putOk at hk
    simp only [Bool.and_eq_true, Bool.not_eq_true', decide_eq_true_eq] at hk
    obtain ⟨rfl, hk⟩ := hk
    rw [if_pos rfl]
    exact put_yes g s xs room base w hB h0 h1 h2 hs hk
  | false =>
    rw [if_neg (by decide)]
    refine put_no g s xs room full base w hB h0 h1 h2 hs ?_
    unfold putOk at hk
    cases full with
    | true => exact .inl rfl
    | false => exact .inr (by simpa using hk)
theorem byte_any (g : Nat) (c : Int) (xs : List Int) (room : Int) (full : Bool) (base : Nat) (w : World) (hB : IsBuf w base g xs room full) (h0 : xs.length ≤ 1048576) (h1 : 0 ≤ room) (h2 : room ≤ 1048576) (hc1 : 0 ≤ c) (hc2 : c ≤ 255) :
    Calls Try.prog 16 #[.pointer (some ⟨g, 0, none⟩), .int .u8 c] w fun e w' => e = .returned (.bool (putOk xs room full 1)) ∧ IsBuf w' base g (if putOk xs room full 1 = true then xs ++ [c] else xs) room (!putOk xs room full 1) ∧ Below base w w' := by
  have hcv := run_convert_bytes_arg (P := Try.prog) (w.alloc (.cells #[.int .u8 c] 5)) 42 5 Try.underlying42 Try.underlying5 w.heap.size 0 1 1 [c] rfl (fun i hi => by
    obtain rfl : i = 0 := by omega
    rw [blk_cell (blk_new w (.cells #[.int .u8 c] 5))]; rfl) 9 Try.underlying9
  have hb1 : bytesOf (strOfNums [c]) = [c] := By.bytes_str _ (by intro x hx; simp at hx; omega)
  have hsz : (strOfNums [c]).size = 1 := strOfNums_size _
  have hB1 := hB.below (below_alloc (Below.refl w.heap.size w) (.cells #[.int .u8 c] 5))
  have hlt := hB.lt
  have hbel : Below base w (w.alloc (.cells #[.int .u8 c] 5)) := (Below.refl _ _).alloc (by omega) _
  have hp := put_any g (strOfNums [c]) xs room full base (w.alloc (.cells #[.int .u8 c] 5)) hB1 h0 h1 h2 (by rw [hsz]; decide)
  rw [hb1, hsz] at hp
  obtain ⟨ok, hok⟩ : ∃ ok, ok = putOk xs room full 1 := ⟨_, rfl⟩
  rw [← hok] at hp ⊢
  have HP := Aside0.mk hp
  have HB := Aside0.mk hbel
  clear hp hbel hB1 hb1 hsz hlt hB hok
  obtain ⟨ys, hys⟩ : ∃ ys, ys = (if ok = true then xs ++ [c] else xs) := ⟨_, rfl⟩
  rw [← hys] at HP ⊢
  clear hys
  go_enter Try.func16, Try.ntmps16
  go_wp2_with (go_at_call 8; refine HP.out.mono ?_; rintro e w' ⟨rfl, hI, hbb⟩; have HI := Aside0.mk hI; have HBB := Aside0.mk hbb; clear hI hbb)
  go_ret
  exact ⟨rfl, HI.out, HB.out.trans HBB.out⟩
theorem refPut_calls (x : ByteArray) (room : Int) (full : Bool) (s : ByteArray) (w : World) (hx : x.size ≤ 1048576) (hs : s.size ≤ 140737488351232) (h1 : 0 ≤ room) (h2 : room ≤ 1048576) :
    Calls Try.prog 15 #[.agg #[.string x, .int .i64 room, .bool full], .string s] w fun e w' => e = .returned (.tuple #[.agg #[.string (if putOk (bytesOf x) room full s.size = true then x ++ s else x), .int .i64 room, .bool (!putOk (bytesOf x) room full s.size)], .bool (putOk (bytesOf x) room full s.size)]) ∧ Below w.heap.size w w' := by
  cases hk : putOk (bytesOf x) room full s.size with
  | true =>
    unfold putOk at hk
    simp only [Bool.and_eq_true, Bool.not_eq_true', decide_eq_true_eq, bytesOf_length] at hk
    obtain ⟨rfl, hk⟩ := hk
    have h3 : ¬ room < (x.size : Int) + (s.size : Int) := by omega
    go_enter Try.func15, Try.ntmps15
    go_wp2
    refine bodyPost_ret (v := .tuple #[.agg #[.string (x ++ s), .int .i64 room, .bool false], .bool true]) (by simp [results, Try.results15, go_sem]) rfl ⟨rfl, ?_⟩
    repeat (first | exact Below.refl _ _ | apply below_alloc)
  | false =>
    unfold putOk at hk
    rw [bytesOf_length] at hk
    cases full with
    | true =>
      go_enter Try.func15, Try.ntmps15
      go_wp2
      refine bodyPost_ret (v := .tuple #[.agg #[.string x, .int .i64 room, .bool true], .bool false]) (by simp [results, Try.results15, go_sem]) rfl ⟨rfl, ?_⟩
      repeat (first | exact Below.refl _ _ | apply below_alloc)
    | false =>
      have h3 : room < (x.size : Int) + (s.size : Int) := by simp at hk; omega
      clear hk
      go_enter Try.func15, Try.ntmps15
      go_wp2
      refine bodyPost_ret (v := .tuple #[.agg #[.string x, .int .i64 room, .bool true], .bool false]) (by simp [results, Try.results15, go_sem]) rfl ⟨rfl, ?_⟩
      repeat (first | exact Below.refl _ _ | apply below_alloc)
end Go.Proofs.Ytcpkmidgpbhpkaa.Buf
