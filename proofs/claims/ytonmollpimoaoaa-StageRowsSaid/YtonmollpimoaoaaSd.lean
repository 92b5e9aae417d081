/- done, turn. -/
import Derived.Test.YtonmollpimoaoaaSc
import Derived.Deep.RegionHeld3
namespace Go.Proofs.Ytonmollpimoaoaa.Sa
open Go.RowKit Go.Maps Go.Proofs.Ytonmollpimoaoaa.MapF Go.Proofs.Ytonmollpimoaoaa.Stg Go.Proofs.YtonmollpimoaoaaW.PrintWords Go.Proofs.YtonmollpimoaoaaW.PrintLast Go.Proofs.YtonmollpimoaoaaW.PrintMore
set_option linter.unusedVariables false
set_option linter.unusedSimpArgs false
theorem field3 (W : World) (M : Nat) : (Instr.fieldAt 58 (.pointer (some ⟨M, 0, none⟩)) 3).run Try.prog W = .ok (.pointer (some ⟨M, 3, none⟩)) W := by
  go_simp
attribute [-simp] Try.sizeOf56 Try.typeInfo56
section
variable {W : World} {base M TB IX SM : Nat} {bv : Value} {o : Int} {s : St}
theorem cmr (a b c : Value) (l : List Int) (j : Nat) : (#[a, b, c] ++ nA l)[3 + j]? = (nA l)[j]? := by
  rw [Array.getElem?_append_right (by simp)]
  congr 1
  simp
theorem Mk.now_range (h : Mk W base M TB IX SM bv o s) : W.rangeAt M 3 (nA s.now).toList := fun j v hv => by
  rw [blk_cell h.hm, cmr, ← hv, Array.getElem?_toList]
theorem Mk.cellsOf (h : Mk W base M TB IX SM bv o s) (hc : s.cur < 4352) : W.cell? ⟨M, 0, none⟩ = some (.pointer (some ⟨TB, 0, none⟩)) ∧ W.cell? ⟨M, 2, none⟩ = some (.int .i64 (s.cur : Int)) ∧ W.cell? ⟨TB, 0, none⟩ = some (.slice (some ⟨IX, 0, none⟩) 4352 4352) ∧ W.cell? ⟨TB, 2, none⟩ = some (.int .i64 o) ∧
    W.cell? ⟨IX, s.cur, none⟩ = some (.int .u16 ((s.idx.getD s.cur 0 : Nat) : Int)) ∧ W.frozen? ⟨IX, s.cur, none⟩ = false ∧ W.frozen? ⟨M, 2, none⟩ = false :=
  ⟨(blk_cell h.hm 0).trans (cm0 _ _ _ _), (blk_cell h.hm 2).trans (cm2 _ _ _ _), (blk_cell h.ht 0).trans rfl, (blk_cell h.ht 2).trans rfl, (blk_cell h.hx s.cur).trans (uA_get _ _ (by rw [h.li]; exact hc)), blk_frozen h.hx _, blk_frozen h.hm _⟩
theorem Mk.drew (h : Mk W base M TB IX SM bv o s) : Mk W.drew base M TB IX SM bv o s := h.same rfl rfl rfl rfl (fun _ _ => rfl)
/-- One number of the index is written. -/
theorem Mk.setIdx (h : Mk W base M TB IX SM bv o s) (b v : Nat) : Mk (W.setCell ⟨IX, b, none⟩ (.int .u16 (v : Int))) base M TB IX SM bv o { s with idx := s.idx.set b v } := by
  have hMI : M ≠ IX := blk_ne h.hm h.hx (by decide)
  have hTI : TB ≠ IX := blk_ne h.ht h.hx (by decide)
  obtain ⟨m, hs⟩ := h.hs
  have hSI : SM ≠ IX := fun e => by
    obtain ⟨es, ck, hq⟩ := hs.isMap
    rw [e, h.hx] at hq
    cases hq
  refine ⟨blk_far h.hm hMI _, blk_far h.ht hTI _, own_same h.hr (fun k hk => Below.heap_setCell _ _ _ k (fun e => ?_)), ?_, ⟨m, hs.same (Below.heap_setCell _ _ _ SM hSI)⟩, h.bM, h.bT, h.bI, h.bS, h.ln, h.wn, by show (s.idx.set b v).length = _; rw [List.length_set]; exact h.li⟩
  · obtain ⟨cs, hc⟩ := own_typed h.hr k hk
    rw [show k = IX from e, h.hx] at hc
    cases hc
  · show _ = some (Obj.cells (uA (s.idx.set b v)) 39 (0, 0))
    rw [← uA_set]
    exact blk_set h.hx b _
theorem Mk.keepIdx (h : Mk W base M TB IX SM bv o s) (hc : s.cur < 4352) (v : Nat) : (W.setCell ⟨IX, s.cur, none⟩ (.int .u16 (v : Int))).cell? ⟨M, 0, none⟩ = some (.pointer (some ⟨TB, 0, none⟩)) ∧ (W.setCell ⟨IX, s.cur, none⟩ (.int .u16 (v : Int))).cell? ⟨M, 2, none⟩ = some (.int .i64 (s.cur : Int)) ∧ (W.setCell ⟨IX, s.cur, none⟩ (.int .u16 (v : Int))).cell? ⟨TB, 0, none⟩ = some (.slice (some ⟨IX, 0, none⟩) 4352 4352) ∧ (W.setCell ⟨IX, s.cur, none⟩ (.int .u16 (v : Int))).rangeAt M 3 (nA s.now).toList := by
  have k := h.setIdx s.cur v
  obtain ⟨a, b, c, _⟩ := k.cellsOf hc
  exact ⟨a, b, c, k.now_range⟩
theorem Fr.undrew {W' : World} (h : Fr base W.drew W') : Fr base W W' := ⟨⟨h.below.os, h.below.tape, h.below.output, h.below.size, h.below.block⟩, h.others⟩
theorem Fr.setIdx {W' : World} (hf : Fr base W W') (h : Mk W' base M TB IX SM bv o s) (b : Nat) (v : Value) : Fr base W (W'.setCell ⟨IX, b, none⟩ v) :=
  ⟨hf.below.setCell h.bI _, fun k c t hk a1 a2 a3 a4 => by
    have e := hf.others k c t hk a1 a2 a3 a4
    exact (Below.heap_setCell _ _ _ k (fun e' => by
      rw [show k = IX from e', h.hx] at e
      cases e
      exact a3 rfl)).trans e⟩
theorem store3_run (h : Mk W base M TB IX SM bv o s) (b : List Int) (hb : b.length = 256) (hw : Wf b) : ∃ w', (Instr.storeAt 56 (.pointer (some ⟨M, 3, none⟩)) (.agg (nA b))).run Try.prog W = .ok () w' ∧ Mk w' base M TB IX SM bv o { s with now := b } ∧ Fr base W w' := by
  have hst := run_storeCells_at Try.prog M 3 58 (nA b).toList 0 _ W h.hm (by simp [nA_size, hb, h.ln]) (fun v hv => (Array.all_eq_true_iff_forall_mem.1 (nA_one b)) v (by simpa using hv))
  have e : ((#[.pointer (some ⟨TB, 0, none⟩), .map (some SM), .int .i64 (s.cur : Int)] ++ nA s.now : Array Value).toList.take (3 + 0) ++ (nA b).toList ++ (#[.pointer (some ⟨TB, 0, none⟩), .map (some SM), .int .i64 (s.cur : Int)] ++ nA s.now : Array Value).toList.drop (3 + 0 + (nA b).toList.length)).toArray = #[.pointer (some ⟨TB, 0, none⟩), .map (some SM), .int .i64 (s.cur : Int)] ++ nA b := by
    have h1 : (nA b).toList.length = 256 := by rw [Array.length_toList, nA_size, hb]
    have h2 : (nA s.now).toList.length = 256 := by rw [Array.length_toList, nA_size, h.ln]
    apply Array.toList_inj.1
    simp only [Array.toList_append, List.toList_toArray, Nat.add_zero]
    rw [List.take_append_of_le_length (by simp), List.drop_eq_nil_of_le (by simp [h1, h2])]
    simp
  rw [e] at hst
  obtain ⟨i, hi, hs⟩ := Option.map_eq_some_iff.1 size56
  refine ⟨W.setRow M (#[.pointer (some ⟨TB, 0, none⟩), .map (some SM), .int .i64 (s.cur : Int)] ++ nA b), ?_, ?_, ?_⟩
  · have hc : (nA b).size = i.size := by rw [hs, nA_size, hb]
    simp [Instr.storeAt, Instr.sureAddr, storeVar, sizeOf, typeInfo, hi, Value.cells, hc, hst]
  · have hMT : M ≠ TB := blk_ne h.hm h.ht (by decide)
    have hMI : M ≠ IX := blk_ne h.hm h.hx (by decide)
    obtain ⟨m, hsm⟩ := h.hs
    have hMS : SM ≠ M := fun e => by
      obtain ⟨es, ck, hq⟩ := hsm.isMap
      rw [e, h.hm] at hq
      cases hq
    exact ⟨setRow_heap W M _ _ 58 _ h.hm, (setRow_other W M TB _ (fun e => hMT e.symm)).trans h.ht, own_same h.hr (fun k hk => setRow_other W M k _ (fun e => by
      obtain ⟨cs, hc⟩ := own_typed h.hr k hk
      rw [e, h.hm] at hc
      cases hc)), (setRow_other W M IX _ (fun e => hMI e.symm)).trans h.hx, ⟨m, hsm.same (setRow_other W M SM _ hMS)⟩, h.bM, h.bT, h.bI, h.bS, hb, hw, h.li⟩
  · refine ⟨row_grown W M _ base h.bM (Below.refl _ _), fun k c t hk a1 a2 a3 a4 => (setRow_other W M k _ (fun e => ?_)).trans hk⟩
    rw [e, h.hm] at hk
    cases hk
    exact a1 rfl
/-- The same, one cell of 'now'. -/
theorem Mk.setNow (h : Mk W base M TB IX SM bv o s) (i : Nat) (v : Int) (hw : (Lit.int .i64 v).wf = true) : Mk (W.setCell ⟨M, 3 + i, none⟩ (.int .i64 v)) base M TB IX SM bv o { s with now := s.now.set i v } := by
  have hMT : M ≠ TB := blk_ne h.hm h.ht (by decide)
  have hMI : M ≠ IX := blk_ne h.hm h.hx (by decide)
  obtain ⟨m, hsm⟩ := h.hs
  have hMS : SM ≠ M := fun e => by
    obtain ⟨es, ck, hq⟩ := hsm.isMap
    rw [e, h.hm] at hq
    cases hq
  refine ⟨?_, blk_far h.ht (fun e => hMT e.symm) _, own_same h.hr (fun k hk => Below.heap_setCell _ _ _ k (fun e => ?_)), blk_far h.hx (fun e => hMI e.symm) _, ⟨m, hsm.same (Below.heap_setCell _ _ _ SM hMS)⟩, h.bM, h.bT, h.bI, h.bS, by show (s.now.set i v).length = _; rw [List.length_set]; exact h.ln, fun x hx => ?_, h.li⟩
  · refine blk_put h.hm (3 + i) _ ?_
    rw [Array.setIfInBounds_append_right (by simp)]
    show _ = #[Value.pointer (some ⟨TB, 0, none⟩), Value.map (some SM), Value.int .i64 (s.cur : Int)] ++ nA (s.now.set i v)
    rw [← nA_set]
    congr 2
    simp
  · obtain ⟨cs, hc⟩ := own_typed h.hr k hk
    rw [show k = M from e, h.hm] at hc
    cases hc
  · rcases List.mem_or_eq_of_mem_set hx with hx | hx
    · exact h.wn x hx
    · rw [hx]; exact hw
theorem Mk.setCur (h : Mk W base M TB IX SM bv o s) (c : Nat) : Mk (W.setCell ⟨M, 2, none⟩ (.int .i64 (c : Int))) base M TB IX SM bv o { s with cur := c } := by
  have hMT : M ≠ TB := blk_ne h.hm h.ht (by decide)
  have hMI : M ≠ IX := blk_ne h.hm h.hx (by decide)
  obtain ⟨m, hsm⟩ := h.hs
  have hMS : SM ≠ M := fun e => by
    obtain ⟨es, ck, hq⟩ := hsm.isMap
    rw [e, h.hm] at hq
    cases hq
  refine ⟨?_, blk_far h.ht (fun e => hMT e.symm) _, own_same h.hr (fun k hk => Below.heap_setCell _ _ _ k (fun e => ?_)), blk_far h.hx (fun e => hMI e.symm) _, ⟨m, hsm.same (Below.heap_setCell _ _ _ SM hMS)⟩, h.bM, h.bT, h.bI, h.bS, h.ln, h.wn, h.li⟩
  · refine blk_put h.hm 2 _ ?_
    rw [Array.setIfInBounds_append_left (by simp)]
    rfl
  · obtain ⟨cs, hc⟩ := own_typed h.hr k hk
    rw [show k = M from e, h.hm] at hc
    cases hc
theorem Fr.setM {W' : World} (hf : Fr base W W') (h : Mk W' base M TB IX SM bv o s) (i : Nat) (v : Value) : Fr base W (W'.setCell ⟨M, i, none⟩ v) :=
  ⟨hf.below.setCell h.bM _, fun k c t hk a1 a2 a3 a4 => by
    have e := hf.others k c t hk a1 a2 a3 a4
    exact (Below.heap_setCell _ _ _ k (fun e' => by
      rw [show k = M from e', h.hm] at e
      cases e
      exact a1 rfl)).trans e⟩
end
set_option maxHeartbeats 4000000 in
theorem done_calls (W : World) (base M TB IX SM : Nat) (bv : Value) (o : Int) (s : St) (h : Mk W base M TB IX SM bv o s) (hbase : base ≤ W.heap.size) (hn : s.blks.length < 65535) (hc : s.cur < 4352) :
    Calls Try.prog 19 #[.pointer (some ⟨M, 0, none⟩)] W fun e w' => e = .returned (.tuple #[]) ∧ (∃ bv', Mk w' base M TB IX SM bv' o (done s)) ∧ Fr base W w' := by
  have HN := Aside0.mk (number_calls W.drew base M TB IX SM bv o s s.now h.drew h.ln h.wn hbase hn)
  have HC := Aside0.mk hc
  have HBASE := Aside0.mk hbase
  have HM := Aside0.mk h
  obtain ⟨c0, c2, d0, d2, x0, f0, f2⟩ := h.cellsOf hc
  have hl := congrArg (fun r => r.andThen fun a w' => Result.ok (Next.value a) w') (load56_run W.drew M 3 s.now h.ln h.drew.now_range)
  simp [go_sem] at hl
  have hfa := fun W : World => congrArg (fun r => r.andThen fun a w' => Result.ok (Next.value a) w') (field3 W M)
  simp [go_sem] at hfa
  have p1 : (0 ≤ (s.cur : Int)) = True := eq_true (by omega)
  have p2 : ((s.cur : Int) < 4352) = True := eq_true (by omega)
  have p3 : (s.cur < 4352) = True := eq_true hc
  clear h hc hn hbase
  go_enter Try.func19, Try.ntmps19
  have hlen : (nA s.now).toList.length = 256 := by rw [Array.length_toList, nA_size]; exact HM.out.ln
  have hi : (Try.prog.info? 56).map (·.size) = some (nA s.now).toList.length := by rw [hlen]; exact size56
  have hu := Try.underlying56
  have hr0 := HM.out.now_range
  clear hl
  go_region_held3 (fun w' => w'.cell? ⟨M, 0, none⟩ = some (.pointer (some ⟨TB, 0, none⟩)) ∧ w'.cell? ⟨M, 2, none⟩ = some (.int .i64 (s.cur : Int)) ∧ w'.cell? ⟨TB, 0, none⟩ = some (.slice (some ⟨IX, 0, none⟩) 4352 4352) ∧ w'.rangeAt M 3 (nA s.now).toList) (first | (refine ⟨?_, ?_, ?_, ?_⟩ <;> assumption) | exact HK.out.keepIdx HC.out _)
    ((go_at_call 17; refine HN.out.mono ?_; rintro e w1 ⟨rfl, ⟨bv', hk⟩, hf⟩; obtain ⟨c01, c21, d01, d21, x01, f01, f21⟩ := hk.cellsOf HC.out; have r01 : w1.rangeAt M 3 (nA s.now).toList := hk.now_range; have HK := Aside0.mk hk; have HF := Aside0.mk hf; clear hk hf))
  go_end0
  exact ⟨rfl, ⟨bv', HK.out.setIdx s.cur _⟩, (HF.out.undrew).setIdx HK.out s.cur _⟩
end Go.Proofs.Ytonmollpimoaoaa.Sa
