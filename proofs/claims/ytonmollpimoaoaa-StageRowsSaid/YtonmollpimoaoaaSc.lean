/- number. -/
import Derived.Test.YtonmollpimoaoaaSb
import Derived.Great.BuildSlice
namespace Go.Proofs.Ytonmollpimoaoaa.Sa
open Go.RowKit Go.Maps Go.Proofs.Ytonmollpimoaoaa.MapF Go.Proofs.Ytonmollpimoaoaa.Stg Go.Proofs.YtonmollpimoaoaaW.PrintWords Go.Proofs.YtonmollpimoaoaaW.PrintLast Go.Proofs.YtonmollpimoaoaaW.PrintMore
set_option linter.unusedVariables false
set_option linter.unusedSimpArgs false
theorem zero39 (w : World) : (zeroValue 39).run Try.prog w = .ok (.int .u16 0) w := by kernel_rfl
theorem load56_run (W : World) (g o : Nat) (b : List Int) (hb : b.length = 256) (h : W.rangeAt g o (nA b).toList) : (Instr.loadAt 56 (.pointer (some ⟨g, o, none⟩))).run Try.prog W = .ok (.agg (nA b)) W := by
  have := run_loadAt_mid (P := Try.prog) W g o 56 (nA b).toList _ h Try.underlying56 rfl (by rw [size56]; simp [nA_size, hb])
  simpa using this
theorem range_blk (W : World) (g : Nat) (b : List Int) (hb : b.length = 256) (h : W.heap[g]? = some (.cells (nA b) 56 (0, 0))) : W.rangeAt g 0 (nA b).toList := by
  have := World.rangeAt_of_block h 0 256
  rw [Nat.zero_add, Array.extract_eq_self_of_le (by rw [nA_size, hb]; exact Nat.le_refl _)] at this
  exact this
theorem own_same {w w' : World} {base : Nat} {e : TypeId} {size : Nat} {v : Value} {n : Nat} {xs : List Value} (h : w.ownsRow base e size v n xs) (hs : ∀ k, v.ownBlock = some k → w'.heap[k]? = w.heap[k]?) : w'.ownsRow base e size v n xs := by
  refine ⟨h.1, ?_⟩
  rcases h.2 with hn | ⟨g, cap, cur, rfl, hb, hgg, rest⟩
  · exact .inl hn
  · exact .inr ⟨g, cap, cur, rfl, hb, (hs g (by simp [Value.ownBlock])).trans hgg, rest⟩
section
variable {W : World} {base M TB IX SM : Nat} {bv : Value} {o : Int} {s : St}
theorem Mk.same {W' : World} (h : Mk W base M TB IX SM bv o s) (h1 : W'.heap[M]? = W.heap[M]?) (h2 : W'.heap[TB]? = W.heap[TB]?) (h3 : W'.heap[IX]? = W.heap[IX]?) (h4 : W'.heap[SM]? = W.heap[SM]?) (h5 : ∀ k, bv.ownBlock = some k → W'.heap[k]? = W.heap[k]?) : Mk W' base M TB IX SM bv o s := by
  obtain ⟨m, hs⟩ := h.hs
  exact ⟨h1.trans h.hm, h2.trans h.ht, own_same h.hr h5, h3.trans h.hx, ⟨m, hs.same h4⟩, h.bM, h.bT, h.bI, h.bS, h.ln, h.wn, h.li⟩
theorem Mk.after {W' : World} (h : Mk W base M TB IX SM bv o s) (hb : Below W.heap.size W W') : Mk W' base M TB IX SM bv o s := by
  obtain ⟨m, hs⟩ := h.hs
  exact h.same (hb.block _ (blk_lt h.hm)) (hb.block _ (blk_lt h.ht)) (hb.block _ (blk_lt h.hx)) (hb.block _ hs.lt) (fun k hk => hb.block k (h.hr.lt k hk).2)
theorem Fr.of_below {W' : World} (hb : Below W.heap.size W W') (hbase : base ≤ W.heap.size) : Fr base W W' :=
  ⟨⟨hb.os, hb.tape, hb.output, hb.size, fun i hi => hb.block i (by omega)⟩, fun k c t h _ _ _ _ => blk_below h hb⟩
/-- The row's blocks form. -/
theorem own_form {w : World} {e : TypeId} {size n : Nat} {v : Value} {xs : List Value} (h : w.ownsRow base e size v n xs) : ∃ A c, v = .slice A n c := by
  rcases h.2 with ⟨rfl, rfl⟩ | ⟨g, cap, cur, rfl, _⟩
  · exact ⟨none, 0, rfl⟩
  · exact ⟨_, cap, rfl⟩
end
theorem below_grow {w0 w w' : World} {base : Nat} {row : Option Nat} (h : Below base w0 w) (hg : w.grownBy w' row) (hrow : ∀ k, row = some k → base ≤ k) (hb : base ≤ w.heap.size) : Below base w0 w' :=
  ⟨hg.os.trans h.os, hg.tape.trans h.tape, hg.output.trans h.output, Nat.le_trans h.size hg.size, fun i hi => (hg.block i (by omega) (fun e => by have := hrow i e.symm; omega)).trans (h.block i hi)⟩
theorem build1_run (W : World) (b : List Int) (hb : b.length = 256) : (Instr.buildSlice 52 1 #[(0, .agg (nA b))]).run Try.prog W = .ok (.slice (some ⟨W.heap.size, 0, none⟩) 1 1) (W.alloc (.cells (nA b) 56)) := by
  obtain ⟨i, hi, hz⟩ := Option.map_eq_some_iff.1 zero56
  simp only [Prod.mk.injEq] at hz
  obtain ⟨hz, hs⟩ := hz
  refine run_buildSlice W 52 56 1 _ (nA b) i _ Try.underlying52 hi hz (by rw [hs]; decide) (by rw [hs]; decide) ?_
  have h := Great.fill_whole (s := 256) (by decide) [Value.agg (nA b)] ((Array.range (1 * i.size)).map ((Value.agg (Array.replicate 256 (.int .i64 0))).cells[· % (Value.agg (Array.replicate 256 (.int .i64 0))).cells.size]!)) (by simp [Value.cells, nA_size, hb]) (by simp [hs])
  rw [hs] at h ⊢
  refine Eq.trans ?_ (h.trans ?_)
  · rfl
  · simp [Value.cells]
theorem info56 : (Try.prog.info? 56).map (fun i => (i.zero, i.size, i.bytes)) = some (some (.agg (Array.replicate 256 (.int .i64 0))), 256, 2048) := by kernel_rfl
theorem append_run (W : World) (base : Nat) (v : Value) (n : Nat) (xs : List Value) (g : Nat) (b : List Int) (hb : b.length = 256) (ho : W.ownsRow base 56 256 v n xs) (hg : W.heap[g]? = some (.cells (nA b) 56 (0, 0))) (hn : n < 65535) (hbase : base ≤ W.heap.size) :
    ∃ v' w', (Builtin.append_ #[52, 52] 52 #[v, .slice (some ⟨g, 0, none⟩) 1 1]).run Try.prog W = .ok v' w' ∧ w'.ownsRow base 56 256 v' (n + 1) (xs ++ (nA b).toList) ∧ W.grownBy w' v.ownBlock := by
  obtain ⟨i, hi, hz⟩ := Option.map_eq_some_iff.1 info56
  simp only [Prod.mk.injEq] at hz
  obtain ⟨hz, hs, hby⟩ := hz
  obtain ⟨v', w', h1, h2, h3, _⟩ := Go.run_append_own (P := Try.prog) W base 52 52 56 i _ 256 2048 Try.underlying52 hi hz hs hby (by simp [Value.cells]) (by decide) v n xs ho ⟨g, 0, none⟩ 1 1 (nA b).toList (by simp [nA_size, hb]) (fun j u hu => by
    rw [show (⟨g, 0, none⟩ : Addr).add j = ⟨g, j, none⟩ by have := Addr.add_mid g 0 j; simpa using this, blk_cell hg j]
    simpa using hu) (fun u hu => (Array.all_eq_true_iff_forall_mem.1 (nA_one b)) u (by simpa using hu)) (by unfold maxLen; omega) (by omega) hbase
  exact ⟨v', w', h1, h2, h3⟩
attribute [-simp] Try.sizeOf56 Try.typeInfo56
attribute [-go_sem] Builtin.append_
theorem cm0 (a b c : Value) (l : List Int) : (#[a, b, c] ++ nA l)[0]? = some a := by simp [Array.getElem?_append]
theorem cm1 (a b c : Value) (l : List Int) : (#[a, b, c] ++ nA l)[1]? = some b := by simp [Array.getElem?_append]
theorem cm2 (a b c : Value) (l : List Int) : (#[a, b, c] ++ nA l)[2]? = some c := by simp [Array.getElem?_append]
set_option maxHeartbeats 4000000 in
theorem number_calls (W : World) (base M TB IX SM : Nat) (bv : Value) (o : Int) (s : St) (b : List Int) (h : Mk W base M TB IX SM bv o s) (hb : b.length = 256) (hw : Wf b) (hbase : base ≤ W.heap.size) (hn : s.blks.length < 65535) :
    Calls Try.prog 17 #[.pointer (some ⟨M, 0, none⟩), .agg (nA b)] W fun e w' => e = .returned (.int .u16 ((s.blks.idxOf b : Nat) : Int)) ∧ (∃ bv', Mk w' base M TB IX SM bv' o { s with blks := addB s.blks b }) ∧ Fr base W w' := by
  obtain ⟨m, hs⟩ := h.hs
  obtain ⟨kl, hk⟩ := key56 hb hw
  have HM := Aside0.mk h
  have HBL := Aside0.mk hb
  have HN := Aside0.mk hn
  have HBASE := Aside0.mk hbase
  by_cases hmem : b ∈ s.blks
  · have e1 := seenF_old hmem
    rw [show addB s.blks b = s.blks by unfold addB; rw [if_pos hmem]]
    go_enter Try.func17, Try.ntmps17
    go_wp2
    have hblk := blk_new W (.cells (nA b) 56)
    have hbel := below_alloc (Below.refl W.heap.size W) (.cells (nA b) 56)
    have c0 := (blk_cell (blk_below h.hm hbel) 0).trans (cm0 _ _ _ _)
    have c1 := (blk_cell (blk_below h.hm hbel) 1).trans (cm1 _ _ _ _)
    have hl := congrArg (fun r => r.andThen fun a w' => Result.ok (Next.value a) w') (load56_run (W.alloc (.cells (nA b) 56)).drew W.heap.size 0 b hb (range_blk _ _ b hb hblk))
    simp [go_sem] at hl
    have hlook := (hs.alloc (.cells (nA b) 56)).drew.look K56 Try.underlying55 (zero39 _) hk
    rw [e1] at hlook
    simp only [Option.getD_some, Option.isSome_some] at hlook
    have HBLK := Aside0.mk hblk
    have HBEL := Aside0.mk hbel
    clear h hs hk hb hw hblk hbel hmem e1 hn hbase
    go_region
    go_wp2
    go_ret
    have hb' : Below W.heap.size W (W.alloc (.cells (nA b) 56)).drew := by repeat (first | (with_reducible exact HBEL.out) | apply pw_below_drewN | apply below_drew1 | exact HBEL.out)
    exact ⟨rfl, ⟨bv, HM.out.after hb'⟩, Fr.of_below hb' HBASE.out⟩
  · have e1 := seenF_new hmem
    have HADD := Aside0.mk (show addB s.blks b = s.blks ++ [b] by unfold addB; rw [if_neg hmem])
    have HIX := Aside0.mk (List.idxOf_eq_length hmem)
    obtain ⟨A, c, rfl⟩ := own_form h.hr
    go_enter Try.func17, Try.ntmps17
    go_wp2
    have hblk := blk_new W (.cells (nA b) 56)
    have hbel := below_alloc (Below.refl W.heap.size W) (.cells (nA b) 56)
    have c0 := (blk_cell (blk_below h.hm hbel) 0).trans (cm0 _ _ _ _)
    have c1 := (blk_cell (blk_below h.hm hbel) 1).trans (cm1 _ _ _ _)
    have d1 : (W.alloc (.cells (nA b) 56)).cell? ⟨TB, 1, none⟩ = some (.slice A s.blks.length c) := (blk_cell (blk_below h.ht hbel) 1).trans rfl
    have hl := congrArg (fun r => r.andThen fun a w' => Result.ok (Next.value a) w') (load56_run (W.alloc (.cells (nA b) 56)).drew W.heap.size 0 b hb (range_blk _ _ b hb hblk))
    simp [go_sem] at hl
    have hlook := (hs.alloc (.cells (nA b) 56)).drew.look K56 Try.underlying55 (zero39 _) hk
    rw [e1] at hlook
    simp only [Option.getD_none, Option.isSome_none] at hlook
    have HBLK := Aside0.mk hblk
    have HBEL := Aside0.mk hbel
    have HS := Aside0.mk hs
    have HK := Aside0.mk hk
    have E1 := Aside0.mk e1
    have HMEM := Aside0.mk hmem
    clear h hs hk hb hw hblk hbel hmem e1 hn hbase
    have hwrap : IntKind.u16.wrap (s.blks.length : Int) = (s.blks.length : Int) := by
      have := HN.out
      simp [IntKind.wrap, IntKind.signed, IntKind.bits]
      omega
    go_region
    go_wp2
    clear hl hlook
    have hl2 := congrArg (fun r => r.andThen fun a w' => Result.ok (Next.value a) w') (load56_run (W.alloc (.cells (nA b) 56)).drew.drew W.heap.size 0 b HBL.out (range_blk _ _ b HBL.out HBLK.out))
    simp [go_sem] at hl2
    obtain ⟨w3, hrun3, hmap3, ht3⟩ := (HS.out.alloc (.cells (nA b) 56)).drew.drew.store K56 Try.underlying55 (by have := HN.out; unfold maxLen; omega) HK.out (seenF (s.blks ++ [b])) (seenF_add HMEM.out) (fun x hx => seenF_other x hx)
    have hbd : Below W.heap.size W (W.alloc (.cells (nA b) 56)).drew.drew := ⟨HBEL.out.os, HBEL.out.tape, HBEL.out.output, HBEL.out.size, HBEL.out.block⟩
    have hM3 : w3.heap[M]? = _ := (turned_block ht3 M (blk_lt (blk_below HM.out.hm hbd)) (fun e => by obtain ⟨es, ck, hq⟩ := HS.out.isMap; rw [← e, HM.out.hm] at hq; cases hq)).trans (blk_below HM.out.hm hbd)
    have hT3 : w3.heap[TB]? = _ := (turned_block ht3 TB (blk_lt (blk_below HM.out.ht hbd)) (fun e => by obtain ⟨es, ck, hq⟩ := HS.out.isMap; rw [← e, HM.out.ht] at hq; cases hq)).trans (blk_below HM.out.ht hbd)
    have hX3 : w3.heap[IX]? = _ := (turned_block ht3 IX (blk_lt (blk_below HM.out.hx hbd)) (fun e => by obtain ⟨es, ck, hq⟩ := HS.out.isMap; rw [← e, HM.out.hx] at hq; cases hq)).trans (blk_below HM.out.hx hbd)
    have hB3 : w3.heap[W.heap.size]? = _ := (turned_block ht3 W.heap.size (blk_lt HBLK.out) (fun e => by have := HS.out.lt; omega)).trans HBLK.out
    have HW3 := Aside0.mk hM3
    have HT3 := Aside0.mk hT3
    have HX3 := Aside0.mk hX3
    have HB3 := Aside0.mk hB3
    have HMAP3 := Aside0.mk hmap3
    have HTU3 := Aside0.mk ht3
    clear hM3 hT3 hX3 hB3 hmap3 ht3 hbd
    go_region
    clear hl2 hrun3 c0 c1 d1
    have hrow3 : w3.ownsRow base 56 256 (.slice A s.blks.length c) s.blks.length (flatB s.blks) := own_same HM.out.hr (fun k hk => by
      have hk2 := HM.out.hr.lt k hk
      have hne : k ≠ SM := by
        rintro rfl
        obtain ⟨cs, hc⟩ := own_typed HM.out.hr k hk
        obtain ⟨es, ck, hq⟩ := HS.out.isMap
        rw [hc] at hq
        cases hq
      exact (turned_block HTU3.out k (by have := HBEL.out.size; show k < (W.alloc _).heap.size; omega) hne).trans (HBEL.out.block k hk2.2))
    have hB4 : (w3.alloc (.cells (nA b) 56)).drew.heap[w3.heap.size]? = some (.cells (nA b) 56) := blk_new w3 _
    have hM4 : (w3.alloc (.cells (nA b) 56)).drew.heap[M]? = _ := blk_alloc (w := w3) HW3.out _
    have hT4 : (w3.alloc (.cells (nA b) 56)).drew.heap[TB]? = _ := blk_alloc (w := w3) HT3.out _
    obtain ⟨v5, w5, hrun5, hrow5, hg5⟩ := append_run (w3.alloc (.cells (nA b) 56)).drew base _ s.blks.length (flatB s.blks) w3.heap.size b HBL.out (own_same hrow3 (fun k hk => Below.heap_alloc w3 _ k (hrow3.lt k hk).2)) hB4 HN.out (Nat.le_of_lt (Nat.lt_of_le_of_lt HM.out.bM (blk_lt hM4)))
    obtain ⟨A5, c5, rfl⟩ := own_form hrow5
    have hneM : some M ≠ (Value.slice A s.blks.length c).ownBlock := fun e => by
      obtain ⟨cs, hc⟩ := own_typed hrow3 M e.symm
      rw [HW3.out] at hc
      cases hc
    have hneT : some TB ≠ (Value.slice A s.blks.length c).ownBlock := fun e => by
      obtain ⟨cs, hc⟩ := own_typed hrow3 TB e.symm
      rw [HT3.out] at hc
      cases hc
    have hM5 : w5.heap[M]? = _ := (hg5.block M (blk_lt hM4) hneM).trans hM4
    have hT5 : w5.heap[TB]? = _ := (hg5.block TB (blk_lt hT4) hneT).trans hT4
    have c30 := (blk_cell HW3.out 0).trans (cm0 _ _ _ _)
    have d31 : w3.cell? ⟨TB, 1, none⟩ = some (.slice A s.blks.length c) := (blk_cell HT3.out 1).trans rfl
    have c40 := (blk_cell (w := w3.alloc (.cells (nA b) 56)) hM4 0).trans (cm0 _ _ _ _)
    have d41 : (w3.alloc (.cells (nA b) 56)).cell? ⟨TB, 1, none⟩ = some (.slice A s.blks.length c) := (blk_cell (w := w3.alloc (.cells (nA b) 56)) hT4 1).trans rfl
    have c50 := (blk_cell hM5 0).trans (cm0 _ _ _ _)
    have d51 : w5.cell? ⟨TB, 1, none⟩ = some (.slice A s.blks.length c) := (blk_cell hT5 1).trans rfl
    have f51 := blk_frozen hT5 1
    have hl3 := congrArg (fun r => r.andThen fun a w' => Result.ok (Next.value a) w') (load56_run w3.drew W.heap.size 0 b HBL.out (range_blk _ _ b HBL.out HB3.out))
    have hbs := congrArg (fun r => r.andThen fun a w' => Result.ok (Next.value a) w') (build1_run w3.drew b HBL.out)
    simp [go_sem] at hl3
    simp [go_sem] at hbs
    have HM5 := Aside0.mk hM5
    have HT5 := Aside0.mk hT5
    have HG5 := Aside0.mk hg5
    have HR5 := Aside0.mk hrow5
    have HR3 := Aside0.mk hrow3
    have HNE := Aside0.mk (And.intro hneM hneT)
    clear hrow3 hB4 hrow5 hg5 hneM hneT hM4 hT4 hM5 hT5
    go_wp2
    go_region
    go_wp2
    go_ret
    have hMT : M ≠ TB := blk_ne HM5.out HT5.out (by decide)
    have hIT : IX ≠ TB := blk_ne HX3.out HT3.out (by decide)
    have hneI : some IX ≠ (Value.slice A s.blks.length c).ownBlock := fun e => by
      obtain ⟨cs, hc⟩ := own_typed HR3.out IX e.symm
      rw [HX3.out] at hc
      cases hc
    have hneS : some SM ≠ (Value.slice A s.blks.length c).ownBlock := fun e => by
      obtain ⟨cs, hc⟩ := own_typed HR3.out SM e.symm
      obtain ⟨es, ck, hq⟩ := HMAP3.out.isMap
      rw [hq] at hc
      cases hc
    have hST : SM ≠ TB := fun e => by
      obtain ⟨es, ck, hq⟩ := HMAP3.out.isMap
      rw [e, HT3.out] at hq
      cases hq
    have hI5 : w5.heap[IX]? = w3.heap[IX]? := (HG5.out.block IX (blk_lt (blk_alloc HX3.out (.cells (nA b) 56))) hneI).trans (Below.heap_alloc w3 _ IX (blk_lt HX3.out))
    have hS5 : w5.heap[SM]? = w3.heap[SM]? := (HG5.out.block SM (Nat.lt_of_lt_of_le HMAP3.out.lt (by show w3.heap.size ≤ (w3.alloc _).heap.size; exact (below_alloc (Below.refl w3.heap.size w3) _).size)) hneS).trans (Below.heap_alloc w3 _ SM HMAP3.out.lt)
    have hlen : (s.blks ++ [b]).length = s.blks.length + 1 := by simp
    refine ⟨by show Ending.returned _ = Ending.returned _; rw [HIX.out]; rfl, ⟨.slice A5 (s.blks.length + 1) c5, ?_⟩, ?_⟩
    · rw [HADD.out]
      refine ⟨blk_far HM5.out hMT _, blk_put HT5.out 1 _ rfl, ?_, ?_, ?_, HM.out.bM, HM.out.bT, HM.out.bI, HM.out.bS, HM.out.ln, HM.out.wn, HM.out.li⟩
      · show World.ownsRow _ base 56 256 _ (s.blks ++ [b]).length (flatB (s.blks ++ [b]))
        rw [flatB_snoc, hlen]
        refine own_same HR5.out (fun k hk => Below.heap_setCell _ _ _ k (fun e => ?_))
        obtain ⟨cs, hc⟩ := own_typed HR5.out k hk
        rw [show k = TB from e, HT5.out] at hc
        cases hc
      · exact (Below.heap_setCell _ _ _ IX hIT).trans (hI5.trans HX3.out)
      · show ∃ m, MapF _ Try.prog 56 SM (s.blks ++ [b]).length m (seenF (s.blks ++ [b]))
        rw [hlen]
        exact ⟨_, HMAP3.out.same ((Below.heap_setCell _ _ _ SM hST).trans hS5)⟩
    · have b1 : Below base W (W.alloc (.cells (nA b) 56)) := ⟨HBEL.out.os, HBEL.out.tape, HBEL.out.output, HBEL.out.size, fun i hi => HBEL.out.block i (by have := HBASE.out; omega)⟩
      have b3 : Below base W w3 := below_grow (w := (W.alloc (.cells (nA b) 56)).drew.drew) ⟨b1.os, b1.tape, b1.output, b1.size, b1.block⟩ HTU3.out.grown (fun k hk => by cases hk; exact HM.out.bS) (Nat.le_trans HBASE.out b1.size)
      have b4 : Below base W (w3.alloc (.cells (nA b) 56)) := ⟨b3.os, b3.tape, b3.output, Nat.le_trans b3.size (below_alloc (Below.refl w3.heap.size w3) _).size, fun i hi => (Below.heap_alloc w3 _ i (by have := b3.size; have := HBASE.out; omega)).trans (b3.block i hi)⟩
      have b5 : Below base W w5 := below_grow (w := (w3.alloc (.cells (nA b) 56)).drew) ⟨b4.os, b4.tape, b4.output, b4.size, b4.block⟩ HG5.out (fun k hk => (HR3.out.lt k hk).1) (Nat.le_trans HBASE.out b4.size)
      refine ⟨b5.setCell HM.out.bT _, fun k cs t hk a1 a2 a3 a4 => ?_⟩
      have e1 : (W.alloc (.cells (nA b) 56)).heap[k]? = some (.cells cs t (0, 0)) := blk_alloc hk _
      have e3 : w3.heap[k]? = some (.cells cs t (0, 0)) := (turned_block HTU3.out k (blk_lt e1) (fun e => by obtain ⟨es, ck, hq⟩ := HS.out.isMap; rw [← e, hk] at hq; cases hq)).trans e1
      have e5 : w5.heap[k]? = some (.cells cs t (0, 0)) := (HG5.out.block k (blk_lt (blk_alloc e3 _)) (fun e => by
        obtain ⟨cc, hc⟩ := own_typed HR3.out k e.symm
        rw [e3] at hc
        cases hc
        exact a4 rfl)).trans (blk_alloc e3 _)
      exact (Below.heap_setCell _ _ _ k (fun e => by
        have e' : k = TB := e
        rw [e', HT5.out] at e5
        cases e5
        exact a2 rfl)).trans e5
end Go.Proofs.Ytonmollpimoaoaa.Sa
