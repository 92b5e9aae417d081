/- The contracts of the buffer's writing methods once more, with what they leave as it is. Conditions: the receiver is a buffer that the law's own call has made. -/
import Derived.Test.YtcpkmidgpbhpkaaBuf
namespace Go.Proofs.Ytcpkmidgpbhpkaa.Buf
open Go.RowKit Go.Proofs.Ytcpkmidgpbhpkaa.Own Go.Proofs.YtcpkmidgpbhpkaaW.PrintWords Go.Proofs.YtcpkmidgpbhpkaaW.PrintLast Go.Proofs.YtcpkmidgpbhpkaaW.PrintMore
set_option linter.unusedVariables false
/-- Blocks that are no buffers and no bytes lie as they lay. -/
def Rest (w w' : World) : Prop := ∀ (k : Nat) (cs : Array Value) (t : TypeId), w.heap[k]? = some (Obj.cells cs t (0, 0)) → t ≠ 5 → t ≠ 44 → w'.heap[k]? = some (Obj.cells cs t (0, 0))
theorem Rest.refl (w : World) : Rest w w := fun _ _ _ h _ _ => h
theorem Rest.trans {a b c : World} (h : Rest a b) (k : Rest b c) : Rest a c := fun _ _ _ e h5 h44 => k _ _ _ (h _ _ _ e h5 h44) h5 h44
theorem Rest.of_drawn (w : World) (n : Nat) : Rest w (w.drewN n) := fun _ _ _ h _ _ => h
theorem Rest.of_below {w w' : World} (h : Below w.heap.size w w') : Rest w w' := fun _ _ _ e _ _ => blk_below e h
theorem Rest.put {w w1 : World} {g : Nat} {cs0 : Array Value} (hg : w.heap[g]? = some (.cells cs0 44 (0, 0))) (h : Rest w w1) {j : Nat} {u : Value} : Rest w (w1.setCell ⟨g, j, none⟩ u) := by
  intro k cs t e h5 h44
  rw [Below.heap_setCell w1 ⟨g, j, none⟩ u k ?_]
  · exact h k cs t e h5 h44
  · intro hk
    simp only at hk
    rw [hk, hg] at e
    injection e with e
    injection e with _ e _
    exact h44 e.symm
theorem Rest.grown {w w1 w2 : World} {base : Nat} {v : Value} {xs : List Int} (hr : PRow w base 5 v xs) (h : Rest w w1) (hg : w1.grownBy w2 v.ownBlock) : Rest w w2 := by
  intro k cs t e h5 h44
  have e1 := h k cs t e h5 h44
  refine blk_grown e1 hg ?_
  intro hk
  obtain ⟨_, _, cur, hc⟩ := hr.lt k hk.symm
  rw [hc] at e
  injection e with e
  injection e with _ e _
  exact h5 e.symm
theorem put_no2 (g : Nat) (s : ByteArray) (xs : List Int) (room : Int) (full : Bool) (base : Nat) (w : World) (hB : IsBuf w base g xs room full) (h0 : xs.length ≤ 1048576) (h1 : 0 ≤ room) (h2 : room ≤ 1048576) (hs : s.size ≤ 140737488351232) (h : full = true ∨ room - xs.length < (s.size : Int)) :
    Calls Try.prog 8 #[.pointer (some ⟨g, 0, none⟩), .string s] w fun e w' => e = .returned (.bool false) ∧ IsBuf w' base g xs room true ∧ Below base w w' ∧ Rest w w' := by
  obtain ⟨hbg, v, hh, hr⟩ := hB
  obtain ⟨A, c, hv, _⟩ := hr.slice
  have HR := Aside0.mk hr
  have HH := Aside0.mk hh
  clear hr
  subst hv
  have c0 := blk_cell hh 0
  have c1 := blk_cell hh 1
  have c2 := blk_cell hh 2
  have f2 := blk_frozen hh 2
  simp at c0 c1 c2
  clear hh
  cases full with
  | true =>
    clear h
    go_enter Try.func8, Try.ntmps8
    go_wp2
    go_quiet (fail)
    go_wp2
    go_ret
    refine ⟨rfl, ⟨hbg, .slice A xs.length c, ?_, ?_⟩, ?_, Rest.put HH.out (Rest.of_drawn _ _)⟩
    · exact blk_put (blk_drewN HH.out _) 2 _ rfl
    · exact PRow.far (HR.out.below (pw_below_drewN (Below.refl _ _) _)) (blk_drewN HH.out _) (by decide) 2 _
    · exact (pw_below_drewN (Below.refl _ _) _).setCell hbg _
  | false =>
    have h' : room - xs.length < (s.size : Int) := by simpa using h
    clear h
    have hw : IntKind.i64.wrap (room - (xs.length : Int)) = room - (xs.length : Int) := IntWalk.i64_in _ (by omega)
    have hd : decide (room - (xs.length : Int) < (s.size : Int)) = true := decide_eq_true h'
    go_enter Try.func8, Try.ntmps8
    go_wp2
    go_quiet (fail)
    go_wp2
    go_ret
    refine ⟨rfl, ⟨hbg, .slice A xs.length c, ?_, ?_⟩, ?_, Rest.put HH.out (Rest.of_drawn _ _)⟩
    · exact blk_put (blk_drewN HH.out _) 2 _ rfl
    · exact PRow.far (HR.out.below (pw_below_drewN (Below.refl _ _) _)) (blk_drewN HH.out _) (by decide) 2 _
    · exact (pw_below_drewN (Below.refl _ _) _).setCell hbg _
theorem put_yes2 (g : Nat) (s : ByteArray) (xs : List Int) (room : Int) (base : Nat) (w : World) (hB : IsBuf w base g xs room false) (h0 : xs.length ≤ 1048576) (h1 : 0 ≤ room) (h2 : room ≤ 1048576) (hs : s.size ≤ 140737488351232) (h : (s.size : Int) ≤ room - xs.length) :
    Calls Try.prog 8 #[.pointer (some ⟨g, 0, none⟩), .string s] w fun e w' => e = .returned (.bool true) ∧ IsBuf w' base g (xs ++ bytesOf s) room false ∧ Below base w w' ∧ Rest w w' := by
  obtain ⟨hbg, v, hh, hr⟩ := hB
  obtain ⟨A, c, hv, _⟩ := hr.slice
  have HR := Aside0.mk hr
  have HH := Aside0.mk hh
  have HLT := Aside0.mk (Nat.le_trans hbg (Nat.le_of_lt (blk_lt hh)))
  clear hr
  subst hv
  have c0 := blk_cell hh 0
  have c1 := blk_cell hh 1
  have c2 := blk_cell hh 2
  simp at c0 c1 c2
  have f0 := blk_frozen hh 0
  clear hh
  have h' : ¬ room - xs.length < (s.size : Int) := by omega
  have hw : IntKind.i64.wrap (room - (xs.length : Int)) = room - (xs.length : Int) := IntWalk.i64_in _ (by omega)
  have hd : decide (room - (xs.length : Int) < (s.size : Int)) = false := decide_eq_false h'
  go_enter Try.func8, Try.ntmps8
  go_wp2
  go_quiet (fail)
  go_wp2_with (first | (at_builtin; refine wpList_append_prow base rfl (.tmp 31) (.tmp 32) 42 9 5 rfl Try.underlying42 Try.underlying9 info5 (.slice A xs.length c) xs rfl ?aR s rfl ?aL ?aB ?_; (case aR => exact HR.out.below (pw_below_drewN (Below.refl _ _) _)); (case aL => omega); (case aB => exact HLT.out); intro A1 cc1 w1 hr1 hg1; have hne : some g ≠ (Value.slice A xs.length c).ownBlock := (fun e => by have := HR.out.lt g e.symm; obtain ⟨_, _, cur, hc⟩ := this; rw [HH.out] at hc; injection hc with hc; injection hc with _ hc _; revert hc; decide); have hh1 := blk_grown (blk_drewN HH.out _) hg1 hne; have HH1 := Aside0.mk hh1; have f1 := blk_frozen hh1 0; have e1 := blk_cell hh1 0; simp at e1; have HR1 := Aside0.mk hr1; have HG1 := Aside0.mk hg1; clear hr1 hg1 hh1 hne))
  go_ret
  refine ⟨rfl, ⟨hbg, .slice A1 (xs ++ bytesOf s).length cc1, ?_, ?_⟩, ?_, Rest.put HH.out (Rest.grown HR.out (Rest.of_drawn _ _) HG1.out)⟩
  · exact blk_put HH1.out 0 _ (by rw [List.length_append]; rfl)
  · exact PRow.far HR1.out HH1.out (by decide) 0 _
  · refine Below.setCell (Below.grown (pw_below_drewN (Below.refl _ _) _) HG1.out HLT.out (fun k hk => (HR.out.lt k hk).1)) hbg _

theorem put_any2 (g : Nat) (s : ByteArray) (xs : List Int) (room : Int) (full : Bool) (base : Nat) (w : World) (hB : IsBuf w base g xs room full) (h0 : xs.length ≤ 1048576) (h1 : 0 ≤ room) (h2 : room ≤ 1048576) (hs : s.size ≤ 140737488351232) :
    Calls Try.prog 8 #[.pointer (some ⟨g, 0, none⟩), .string s] w fun e w' => e = .returned (.bool (putOk xs room full s.size)) ∧ IsBuf w' base g (if putOk xs room full s.size = true then xs ++ bytesOf s else xs) room (!putOk xs room full s.size) ∧ Below base w w' ∧ Rest w w' := by
  cases hk : putOk xs room full s.size with
  | true =>
    unfold putOk at hk
    simp only [Bool.and_eq_true, Bool.not_eq_true', decide_eq_true_eq] at hk
    obtain ⟨rfl, hk⟩ := hk
    rw [if_pos rfl]
    exact put_yes2 g s xs room base w hB h0 h1 h2 hs hk
  | false =>
    rw [if_neg (by decide)]
    refine put_no2 g s xs room full base w hB h0 h1 h2 hs ?_
    unfold putOk at hk
    cases full with
    | true => exact .inl rfl
    | false => exact .inr (by simpa using hk)
theorem byte_any2 (g : Nat) (c : Int) (xs : List Int) (room : Int) (full : Bool) (base : Nat) (w : World) (hB : IsBuf w base g xs room full) (h0 : xs.length ≤ 1048576) (h1 : 0 ≤ room) (h2 : room ≤ 1048576) (hc1 : 0 ≤ c) (hc2 : c ≤ 255) :
    Calls Try.prog 16 #[.pointer (some ⟨g, 0, none⟩), .int .u8 c] w fun e w' => e = .returned (.bool (putOk xs room full 1)) ∧ IsBuf w' base g (if putOk xs room full 1 = true then xs ++ [c] else xs) room (!putOk xs room full 1) ∧ Below base w w' ∧ Rest w w' := by
  have hcv := run_convert_bytes_arg (P := Try.prog) (w.alloc (.cells #[.int .u8 c] 5)) 42 5 Try.underlying42 Try.underlying5 w.heap.size 0 1 1 [c] rfl (fun i hi => by
    obtain rfl : i = 0 := by omega
    rw [blk_cell (blk_new w (.cells #[.int .u8 c] 5))]; rfl) 9 Try.underlying9
  have hb1 : bytesOf (strOfNums [c]) = [c] := By.bytes_str _ (by intro x hx; simp at hx; omega)
  have hsz : (strOfNums [c]).size = 1 := strOfNums_size _
  have hB1 := hB.below (below_alloc (Below.refl w.heap.size w) (.cells #[.int .u8 c] 5))
  have hlt := hB.lt
  have hbel : Below base w (w.alloc (.cells #[.int .u8 c] 5)) := (Below.refl _ _).alloc (by omega) _
  have hp := put_any2 g (strOfNums [c]) xs room full base (w.alloc (.cells #[.int .u8 c] 5)) hB1 h0 h1 h2 (by rw [hsz]; decide)
  rw [hb1, hsz] at hp
  obtain ⟨ok, hok⟩ : ∃ ok, ok = putOk xs room full 1 := ⟨_, rfl⟩
  rw [← hok] at hp ⊢
  have HP := Aside0.mk hp
  have HB := Aside0.mk hbel
  clear hp hbel hB1 hb1 hsz hlt hB hok
  obtain ⟨ys, hys⟩ : ∃ ys, ys = (if ok = true then xs ++ [c] else xs) := ⟨_, rfl⟩
  rw [← hys] at HP ⊢
  clear hys
  go_enter Try.func16, Try.ntmps16
  go_wp2_with (go_at_call 8; refine HP.out.mono ?_; rintro e w' ⟨rfl, hI, hbb, hre⟩; have HI := Aside0.mk hI; have HBB := Aside0.mk hbb; have HRE := Aside0.mk hre; clear hI hbb hre)
  go_ret
  exact ⟨rfl, HI.out, HB.out.trans HBB.out, (Rest.of_below (below_alloc (Below.refl _ _) _)).trans HRE.out⟩
theorem cut_yes2 (g : Nat) (xs : List Int) (room : Int) (full : Bool) (base : Nat) (w : World) (n : Nat) (hB : IsBuf w base g xs room full) (hn : n ≤ xs.length) :
    Calls Try.prog 17 #[.pointer (some ⟨g, 0, none⟩), .int .i64 n] w fun e w' => e = .returned (.bool true) ∧ IsBuf w' base g (xs.take n) room full ∧ Below base w w' ∧ Rest w w' := by
  obtain ⟨hbg, v, hh, hr⟩ := hB
  obtain ⟨A, c, hv, hlc⟩ := hr.slice
  subst hv
  have HR := Aside0.mk hr
  have HH := Aside0.mk hh
  have c0 := blk_cell hh 0
  simp at c0
  have f0 := blk_frozen hh 0
  have h1 : ¬ (xs.length : Int) < (n : Int) := by omega
  have h2 : (n : Int) ≤ (c : Int) := by omega
  clear hh hr
  go_enter Try.func17, Try.ntmps17
  go_wp2
  go_ret
  refine ⟨rfl, ⟨hbg, .slice A n n, ?_, ?_⟩, ?_, Rest.put HH.out (Rest.refl _)⟩
  · exact blk_put HH.out 0 _ rfl
  · exact PRow.far (HR.out.cut n hn) HH.out (by decide) 0 _
  · exact Below.setCell (Below.refl _ _) hbg _
theorem clear_calls2 (g : Nat) (xs : List Int) (room : Int) (full : Bool) (base : Nat) (w : World) (hB : IsBuf w base g xs room full) :
    Calls Try.prog 18 #[.pointer (some ⟨g, 0, none⟩)] w fun e w' => e = .returned (.tuple #[]) ∧ IsBuf w' base g [] room false ∧ Below base w w' ∧ Rest w w' := by
  obtain ⟨hbg, v, hh, hr⟩ := hB
  have HH := Aside0.mk hh
  obtain ⟨A, c, hv, hlc⟩ := hr.slice
  subst hv
  have c0 := blk_cell hh 0
  have c2 := blk_cell hh 2
  simp at c0 c2
  have f0 := blk_frozen hh 0
  have f2 := blk_frozen hh 2
  clear hh hr
  go_enter Try.func18, Try.ntmps18
  go_wp2
  go_end0
  refine ⟨rfl, ⟨hbg, .slice none 0 0, ?_, PRow.nil _ _ _⟩, ?_, Rest.put HH.out (Rest.put HH.out (Rest.refl _))⟩
  · exact blk_put (blk_put HH.out 0 _ rfl) 2 _ rfl
  · exact Below.setCell (Below.setCell (Below.refl _ _) hbg _) hbg _

end Go.Proofs.Ytcpkmidgpbhpkaa.Buf
