/- The law TupleGuarded: components that fit but for where their path begins fit, once they are clean and guarded: its walk and its plain law. Condition: each component is within the form's reach. -/
import Derived.Test.YtgccggbokphibaaP20h
import Derived.Test.YtgccggbokphibaaPGuax
import Derived.Deep.QuietTactic
namespace Go.Proofs.Ytgccggbokphibaa.Pure
open Go.RowKit Go.Proofs.Ytgccggbokphibaa.PGua Go.Proofs.Ytgccggbokphibaa.By Go.Proofs.Ytgccggbokphibaa.P20 Go.Proofs.YtgccggbokphibaaW.PrintWords Go.Proofs.YtgccggbokphibaaW.PrintLast
set_option linter.unusedVariables false
/-- The components that are looked through, and what may not stand in each. -/
def cmp (x0 x1 x2 x3 : ByteArray) : Nat → ByteArray | 0 => x0 | 1 => x1 | 2 => x2 | _ => x3
def sts : Nat → ByteArray | 0 => ⟨#[58, 47, 63, 35]⟩ | 1 => ⟨#[47, 63, 35]⟩ | 2 => ⟨#[63, 35]⟩ | _ => ⟨#[35]⟩
/-- No byte of the text before a place is of the set. -/
def Clear (s t : ByteArray) (n : Nat) : Prop := ∀ j : Nat, j < n → bt s j ∉ bytesOf t

theorem full8 {W : World} {g : Nat} {T : TypeId} {x0 x1 x2 x3 x4 x5 x6 x7 y0 y1 y2 y3 y4 y5 y6 y7 : Value} (h : W.heap[g]? = some (.cells #[x0, x1, x2, x3, x4, x5, x6, x7] T (0, 0))) :
    ((((((((W.setCell ⟨g, 0, none⟩ y0).setCell ⟨g, 1, none⟩ y1).setCell ⟨g, 2, none⟩ y2).setCell ⟨g, 3, none⟩ y3).setCell ⟨g, 4, none⟩ y4).setCell ⟨g, 5, none⟩ y5).setCell ⟨g, 6, none⟩ y6).setCell ⟨g, 7, none⟩ y7).heap[g]? = some (.cells #[y0, y1, y2, y3, y4, y5, y6, y7] T (0, 0)) := by
  have h1 : (W.setCell ⟨g, 0, none⟩ y0).heap[g]? = some (.cells #[y0, x1, x2, x3, x4, x5, x6, x7] T (0, 0)) := blk_put h 0 y0 rfl
  have h2 : ((W.setCell ⟨g, 0, none⟩ y0).setCell ⟨g, 1, none⟩ y1).heap[g]? = some (.cells #[y0, y1, x2, x3, x4, x5, x6, x7] T (0, 0)) := blk_put h1 1 y1 rfl
  have h3 : (((W.setCell ⟨g, 0, none⟩ y0).setCell ⟨g, 1, none⟩ y1).setCell ⟨g, 2, none⟩ y2).heap[g]? = some (.cells #[y0, y1, y2, x3, x4, x5, x6, x7] T (0, 0)) := blk_put h2 2 y2 rfl
  have h4 : ((((W.setCell ⟨g, 0, none⟩ y0).setCell ⟨g, 1, none⟩ y1).setCell ⟨g, 2, none⟩ y2).setCell ⟨g, 3, none⟩ y3).heap[g]? = some (.cells #[y0, y1, y2, y3, x4, x5, x6, x7] T (0, 0)) := blk_put h3 3 y3 rfl
  have h5 : (((((W.setCell ⟨g, 0, none⟩ y0).setCell ⟨g, 1, none⟩ y1).setCell ⟨g, 2, none⟩ y2).setCell ⟨g, 3, none⟩ y3).setCell ⟨g, 4, none⟩ y4).heap[g]? = some (.cells #[y0, y1, y2, y3, y4, x5, x6, x7] T (0, 0)) := blk_put h4 4 y4 rfl
  have h6 : ((((((W.setCell ⟨g, 0, none⟩ y0).setCell ⟨g, 1, none⟩ y1).setCell ⟨g, 2, none⟩ y2).setCell ⟨g, 3, none⟩ y3).setCell ⟨g, 4, none⟩ y4).setCell ⟨g, 5, none⟩ y5).heap[g]? = some (.cells #[y0, y1, y2, y3, y4, y5, x6, x7] T (0, 0)) := blk_put h5 5 y5 rfl
  have h7 : (((((((W.setCell ⟨g, 0, none⟩ y0).setCell ⟨g, 1, none⟩ y1).setCell ⟨g, 2, none⟩ y2).setCell ⟨g, 3, none⟩ y3).setCell ⟨g, 4, none⟩ y4).setCell ⟨g, 5, none⟩ y5).setCell ⟨g, 6, none⟩ y6).heap[g]? = some (.cells #[y0, y1, y2, y3, y4, y5, y6, x7] T (0, 0)) := blk_put h6 6 y6 rfl
  have h8 : ((((((((W.setCell ⟨g, 0, none⟩ y0).setCell ⟨g, 1, none⟩ y1).setCell ⟨g, 2, none⟩ y2).setCell ⟨g, 3, none⟩ y3).setCell ⟨g, 4, none⟩ y4).setCell ⟨g, 5, none⟩ y5).setCell ⟨g, 6, none⟩ y6).setCell ⟨g, 7, none⟩ y7).heap[g]? = some (.cells #[y0, y1, y2, y3, y4, y5, y6, y7] T (0, 0)) := blk_put h7 7 y7 rfl
  exact h8
theorem full2 {W : World} {g : Nat} {T : TypeId} {x0 x1 y0 y1 : Value} (h : W.heap[g]? = some (.cells #[x0, x1] T (0, 0))) :
    ((W.setCell ⟨g, 0, none⟩ y0).setCell ⟨g, 1, none⟩ y1).heap[g]? = some (.cells #[y0, y1] T (0, 0)) := by
  have h1 : (W.setCell ⟨g, 0, none⟩ y0).heap[g]? = some (.cells #[y0, x1] T (0, 0)) := blk_put h 0 y0 rfl
  have h2 : ((W.setCell ⟨g, 0, none⟩ y0).setCell ⟨g, 1, none⟩ y1).heap[g]? = some (.cells #[y0, y1] T (0, 0)) := blk_put h1 1 y1 rfl
  exact h2
theorem idx0 (x0 x1 x2 x3 x4 x5 x6 x7 : Value) (W : World) : Sem.run Try.prog (Instr.index 29 (.agg #[x0, x1, x2, x3, x4, x5, x6, x7]) (.int .i64 0)) W = .ok (.agg #[x0, x1]) W := by
  rfl
theorem idx1 (x0 x1 x2 x3 x4 x5 x6 x7 : Value) (W : World) : Sem.run Try.prog (Instr.index 29 (.agg #[x0, x1, x2, x3, x4, x5, x6, x7]) (.int .i64 1)) W = .ok (.agg #[x2, x3]) W := by
  rfl
theorem idx2 (x0 x1 x2 x3 x4 x5 x6 x7 : Value) (W : World) : Sem.run Try.prog (Instr.index 29 (.agg #[x0, x1, x2, x3, x4, x5, x6, x7]) (.int .i64 2)) W = .ok (.agg #[x4, x5]) W := by
  rfl
theorem idx3 (x0 x1 x2 x3 x4 x5 x6 x7 : Value) (W : World) : Sem.run Try.prog (Instr.index 29 (.agg #[x0, x1, x2, x3, x4, x5, x6, x7]) (.int .i64 3)) W = .ok (.agg #[x6, x7]) W := by
  rfl
theorem at0 (g : Nat) (W : World) : Sem.run Try.prog (Instr.indexAt 28 (.pointer (some ⟨g, 0, none⟩)) (.int .i64 0)) W = .ok (.pointer (some ⟨g, 0, none⟩)) W := by
  rfl
theorem at1 (g : Nat) (W : World) : Sem.run Try.prog (Instr.indexAt 28 (.pointer (some ⟨g, 0, none⟩)) (.int .i64 1)) W = .ok (.pointer (some ⟨g, 1, none⟩)) W := by
  rfl
set_option maxHeartbeats 8000000 in
set_option maxRecDepth 100000 in
theorem walk_parts (a0 a1 a2 a3 a4 : ByteArray) (a5 : Int) (b1 b4 b6 lb : Bool) (p2 p5 p7 : ByteArray) (w : World)
    (e1 : decide (0 < bits BinOp.and IntKind.u8 a5 1) = b1) (e4 : decide (0 < bits BinOp.and IntKind.u8 a5 2) = b4) (e6 : decide (0 < bits BinOp.and IntKind.u8 a5 4) = b6)
    (hc : Aside0 (∀ w, Calls Try.prog 11 #[.agg #[.string a0, .bool b1, .string a1, .string a2, .bool b4, .string a3, .bool b6, .string a4]] w fun e w' => e = .returned (.agg #[.string a0, .bool b1, .string p2, .string a2, .bool b4, .string p5, .bool b6, .string p7]) ∧ Below w.heap.size w w'))
    (hl : Aside0 (∀ w, Calls Try.prog 7 #[.agg #[.string a0, .bool b1, .string p2, .string a2, .bool b4, .string p5, .bool b6, .string p7]] w fun e w' => e = .returned (.bool lb) ∧ Below w.heap.size w w'))
    (haw : Aside0 (∀ w, Calls Try.prog 8 #[] w fun e w' => e = .returned (.bool true) ∧ Below w.heap.size w w'))
    (hin : Aside0 (∀ (c : Int) (t : ByteArray), t.size ≤ 10 → ∀ w, Calls Try.prog 12 #[.int .u8 c, .string t] w fun e w' => e = .returned (.bool (decide (c ∈ bytesOf t))) ∧ Drawn0 w w'))
    (hgf : Aside0 (lb = false → (∀ i, i < 4 → Clear (cmp a0 p2 a2 p5 i) (sts i) (cmp a0 p2 a2 p5 i).size) → ∃ g : ByteArray, (∀ w, Calls Try.prog 9 #[.agg #[.string a0, .bool b1, .string p2, .string a2, .bool b4, .string p5, .bool b6, .string p7]] w fun e w' => e = .returned (.agg #[.string a0, .bool b1, .string p2, .string g, .bool b4, .string p5, .bool b6, .string p7]) ∧ Below w.heap.size w w')
      ∧ (∀ w, Calls Try.prog 13 #[.agg #[.string a0, .bool b1, .string p2, .string g, .bool b4, .string p5, .bool b6, .string p7]] w fun e w' => e = .returned (.bool true) ∧ Below w.heap.size w w')))
    (hd : Aside0 ((b1 = false → p2 = ⟨#[]⟩) ∧ (b4 = false → p5 = ⟨#[]⟩) ∧ (b6 = false → p7 = ⟨#[]⟩)))
    (hs : ∀ i, (cmp a0 p2 a2 p5 i).size ≤ 140737488351232) :
    Calls Try.prog 4 #[.string a0, .string a1, .string a2, .string a3, .string a4, .int .u8 a5] w fun e w' => e = .returned (.bool true) ∧ Below w.heap.size w w' := by
  have HB := Aside0.mk (Below.refl w.heap.size w)
  have HS := Aside0.mk hs
  clear hs
  have hu23 := Try.underlying23
  go_enter Try.func4, Try.ntmps4
  go_upto_region 2 with (first
      | (go_at_call 11; refine (hc.out w).mono ?_; rintro e w1 ⟨rfl, hb⟩; have HB1 := Aside0.mk hb; clear hb)
      | ((with_reducible refine gate_dst (N := 13) rfl ?_); refine box_event ?hg (N := 13) ?hd (cs := #[.string (⟨#[]⟩ : ByteArray), .bool false, .string (⟨#[]⟩ : ByteArray), .string (⟨#[]⟩ : ByteArray), .bool false, .string (⟨#[]⟩ : ByteArray), .bool false, .string (⟨#[]⟩ : ByteArray)]) (t := 23) ?hr ?_; (case hd => rfl); (case hg => rfl); (case hr => first | (go_simp; done) | (go_simp; rfl)); intro gb hg w14 hbox hb; have HB2 := Aside0.mk (below_step HB1.out hb); have GE := Aside0.mk ((by rw [hg]; exact (below_size HB1.out)) : w.heap.size ≤ gb); have BK := Aside0.mk hbox; have z0 : w14.cell? ⟨gb, 0, none⟩ = some (.string (⟨#[]⟩ : ByteArray)) := (blk_cell hbox 0).trans rfl; have f0 := blk_frozen hbox 0; have z1 : w14.cell? ⟨gb, 1, none⟩ = some (.bool false) := (blk_cell hbox 1).trans rfl; have f1 := blk_frozen hbox 1; have z2 : w14.cell? ⟨gb, 2, none⟩ = some (.string (⟨#[]⟩ : ByteArray)) := (blk_cell hbox 2).trans rfl; have f2 := blk_frozen hbox 2; have z3 : w14.cell? ⟨gb, 3, none⟩ = some (.string (⟨#[]⟩ : ByteArray)) := (blk_cell hbox 3).trans rfl; have f3 := blk_frozen hbox 3; have z4 : w14.cell? ⟨gb, 4, none⟩ = some (.bool false) := (blk_cell hbox 4).trans rfl; have f4 := blk_frozen hbox 4; have z5 : w14.cell? ⟨gb, 5, none⟩ = some (.string (⟨#[]⟩ : ByteArray)) := (blk_cell hbox 5).trans rfl; have f5 := blk_frozen hbox 5; have z6 : w14.cell? ⟨gb, 6, none⟩ = some (.bool false) := (blk_cell hbox 6).trans rfl; have f6 := blk_frozen hbox 6; have z7 : w14.cell? ⟨gb, 7, none⟩ = some (.string (⟨#[]⟩ : ByteArray)) := (blk_cell hbox 7).trans rfl; have f7 := blk_frozen hbox 7; clear hg hbox hb))
  clear z0 f0 z1 f1 z2 f2 z3 f3 z4 f4 z5 f5 z6 f6 z7 f7
  have N1 := Aside0.mk (full8 (y0 := .string a0) (y1 := .bool b1) (y2 := .string p2) (y3 := .string a2) (y4 := .bool b4) (y5 := .string p5) (y6 := .bool b6) (y7 := .string p7) BK.out)
  have N2 := Aside0.mk (below_set (j := 7) (v := .string p7) (below_set (j := 6) (v := .bool b6) (below_set (j := 5) (v := .string p5) (below_set (j := 4) (v := .bool b4) (below_set (j := 3) (v := .string a2) (below_set (j := 2) (v := .string p2) (below_set (j := 1) (v := .bool b1) (below_set (j := 0) (v := .string a0) HB2.out GE.out) GE.out) GE.out) GE.out) GE.out) GE.out) GE.out) GE.out)
  obtain ⟨w16, hw16⟩ : ∃ x, x = ((((((((w14.setCell ⟨gb, 0, none⟩ (.string a0)).setCell ⟨gb, 1, none⟩ (.bool b1)).setCell ⟨gb, 2, none⟩ (.string p2)).setCell ⟨gb, 3, none⟩ (.string a2)).setCell ⟨gb, 4, none⟩ (.bool b4)).setCell ⟨gb, 5, none⟩ (.string p5)).setCell ⟨gb, 6, none⟩ (.bool b6)).setCell ⟨gb, 7, none⟩ (.string p7)) := ⟨_, rfl⟩
  rw [← hw16] at N1 N2 ⊢
  clear hw16 BK HB2 HB1 HB e1 e4 e6 hc
  have z0 : w16.cell? ⟨gb, 0, none⟩ = some (.string a0) := (blk_cell N1.out 0).trans rfl
  have f0 := blk_frozen N1.out 0
  have z1 : w16.cell? ⟨gb, 1, none⟩ = some (.bool b1) := (blk_cell N1.out 1).trans rfl
  have f1 := blk_frozen N1.out 1
  have z2 : w16.cell? ⟨gb, 2, none⟩ = some (.string p2) := (blk_cell N1.out 2).trans rfl
  have f2 := blk_frozen N1.out 2
  have z3 : w16.cell? ⟨gb, 3, none⟩ = some (.string a2) := (blk_cell N1.out 3).trans rfl
  have f3 := blk_frozen N1.out 3
  have z4 : w16.cell? ⟨gb, 4, none⟩ = some (.bool b4) := (blk_cell N1.out 4).trans rfl
  have f4 := blk_frozen N1.out 4
  have z5 : w16.cell? ⟨gb, 5, none⟩ = some (.string p5) := (blk_cell N1.out 5).trans rfl
  have f5 := blk_frozen N1.out 5
  have z6 : w16.cell? ⟨gb, 6, none⟩ = some (.bool b6) := (blk_cell N1.out 6).trans rfl
  have f6 := blk_frozen N1.out 6
  have z7 : w16.cell? ⟨gb, 7, none⟩ = some (.string p7) := (blk_cell N1.out 7).trans rfl
  have f7 := blk_frozen N1.out 7
  cases lb with
  | true =>
    clear hgf
    go_wp2_with (first
      | (go_at_call 7; refine (hl.out _).mono ?_; rintro e w2 ⟨rfl, hb⟩; have HB2 := Aside0.mk (below_step N2.out hb); clear hb)
      | (go_at_call 8; refine (haw.out _).mono ?_; rintro e w3 ⟨rfl, hb⟩; have HB3 := Aside0.mk (below_step HB2.out hb); clear hb))
    go_ret
    exact ⟨rfl, HB3.out⟩
  | false =>
    have hgf1 := Aside0.mk (hgf.out rfl)
    clear hgf
    go_upto_region 4 with (first
      | (go_at_call 7; refine (hl.out _).mono ?_; rintro e w2 ⟨rfl, hb⟩; have HB2 := Aside0.mk (below_step N2.out hb); have BK := Aside0.mk (blk_below N1.out hb); clear hb))
    clear z0 f0 z1 f1 z2 f2 z3 f3 z4 f4 z5 f5 z6 f6 z7 f7
    go_cut [63] (fun v63 wc => v63 = .bool false ∧ Aside0 (wc.heap[gb]? = some (.cells #[.string a0, .bool b1, .string p2, .string a2, .bool b4, .string p5, .bool b6, .string p7] 23 (0, 0))) ∧ Aside0 (Below w.heap.size w wc))
    case first =>
      clear hgf1 haw hin hl HS
      obtain ⟨d1, d4, d6⟩ := hd.out
      clear hd
      have z0 : w2.cell? ⟨gb, 0, none⟩ = some (.string a0) := (blk_cell BK.out 0).trans rfl
      have f0 := blk_frozen BK.out 0
      have z1 : w2.cell? ⟨gb, 1, none⟩ = some (.bool b1) := (blk_cell BK.out 1).trans rfl
      have f1 := blk_frozen BK.out 1
      have z2 : w2.cell? ⟨gb, 2, none⟩ = some (.string p2) := (blk_cell BK.out 2).trans rfl
      have f2 := blk_frozen BK.out 2
      have z3 : w2.cell? ⟨gb, 3, none⟩ = some (.string a2) := (blk_cell BK.out 3).trans rfl
      have f3 := blk_frozen BK.out 3
      have z4 : w2.cell? ⟨gb, 4, none⟩ = some (.bool b4) := (blk_cell BK.out 4).trans rfl
      have f4 := blk_frozen BK.out 4
      have z5 : w2.cell? ⟨gb, 5, none⟩ = some (.string p5) := (blk_cell BK.out 5).trans rfl
      have f5 := blk_frozen BK.out 5
      have z6 : w2.cell? ⟨gb, 6, none⟩ = some (.bool b6) := (blk_cell BK.out 6).trans rfl
      have f6 := blk_frozen BK.out 6
      have z7 : w2.cell? ⟨gb, 7, none⟩ = some (.string p7) := (blk_cell BK.out 7).trans rfl
      have f7 := blk_frozen BK.out 7
      cases b1 <;> cases b4 <;> cases b6 <;> simp only [reduceCtorEq, false_implies, forall_const] at d1 d4 d6 <;> (try subst d1) <;> (try subst d4) <;> (try subst d6) <;> go_wp2 <;> (go_meet; exact ⟨rfl, BK, HB2⟩)
    case rest =>
      clear BK HB2 hl N1 N2 hd
      obtain ⟨rfl, BK2, HB3⟩ := hcut
      have z0 : wc.cell? ⟨gb, 0, none⟩ = some (.string a0) := (blk_cell BK2.out 0).trans rfl
      have f0 := blk_frozen BK2.out 0
      have z1 : wc.cell? ⟨gb, 1, none⟩ = some (.bool b1) := (blk_cell BK2.out 1).trans rfl
      have f1 := blk_frozen BK2.out 1
      have z2 : wc.cell? ⟨gb, 2, none⟩ = some (.string p2) := (blk_cell BK2.out 2).trans rfl
      have f2 := blk_frozen BK2.out 2
      have z3 : wc.cell? ⟨gb, 3, none⟩ = some (.string a2) := (blk_cell BK2.out 3).trans rfl
      have f3 := blk_frozen BK2.out 3
      have z4 : wc.cell? ⟨gb, 4, none⟩ = some (.bool b4) := (blk_cell BK2.out 4).trans rfl
      have f4 := blk_frozen BK2.out 4
      have z5 : wc.cell? ⟨gb, 5, none⟩ = some (.string p5) := (blk_cell BK2.out 5).trans rfl
      have f5 := blk_frozen BK2.out 5
      have z6 : wc.cell? ⟨gb, 6, none⟩ = some (.bool b6) := (blk_cell BK2.out 6).trans rfl
      have f6 := blk_frozen BK2.out 6
      have z7 : wc.cell? ⟨gb, 7, none⟩ = some (.string p7) := (blk_cell BK2.out 7).trans rfl
      have f7 := blk_frozen BK2.out 7
      go_wp2
      clear z0 f0 z1 f1 z2 f2 z3 f3 z4 f4 z5 f5 z6 f6 z7 f7
      go_loopg [77] 4 (fun gk v77 wr => ∃ i : Nat, v77 = .int .i64 (i : Int) ∧ Aside0 (gk + i = 4) ∧ Aside0 (∀ j, j < i → Clear (cmp a0 p2 a2 p5 j) (sts j) (cmp a0 p2 a2 p5 j).size) ∧ Aside0 (wr.heap[gb]? = some (.cells #[.string a0, .bool b1, .string p2, .string a2, .bool b4, .string p5, .bool b6, .string p7] 23 (0, 0))) ∧ Aside0 (Below w.heap.size w wr))
      case atStart => exact ⟨0, rfl, ⟨rfl⟩, ⟨fun j hj => absurd hj (by omega)⟩, BK2, HB3⟩
      case round =>
        clear BK2 HB3
        obtain ⟨i, rfl, HI, HC, BK2, HB3⟩ := hrel
        by_cases hi : i = 4
        · subst hi
          obtain ⟨g, hg9, hg13⟩ := hgf1.out (fun j hj => HC.out j hj)
          have G9 := Aside0.mk hg9
          have G13 := Aside0.mk hg13
          clear hgf1 hg9 hg13 HI HC
          have z0 : wr.cell? ⟨gb, 0, none⟩ = some (.string a0) := (blk_cell BK2.out 0).trans rfl
          have f0 := blk_frozen BK2.out 0
          have z1 : wr.cell? ⟨gb, 1, none⟩ = some (.bool b1) := (blk_cell BK2.out 1).trans rfl
          have f1 := blk_frozen BK2.out 1
          have z2 : wr.cell? ⟨gb, 2, none⟩ = some (.string p2) := (blk_cell BK2.out 2).trans rfl
          have f2 := blk_frozen BK2.out 2
          have z3 : wr.cell? ⟨gb, 3, none⟩ = some (.string a2) := (blk_cell BK2.out 3).trans rfl
          have f3 := blk_frozen BK2.out 3
          have z4 : wr.cell? ⟨gb, 4, none⟩ = some (.bool b4) := (blk_cell BK2.out 4).trans rfl
          have f4 := blk_frozen BK2.out 4
          have z5 : wr.cell? ⟨gb, 5, none⟩ = some (.string p5) := (blk_cell BK2.out 5).trans rfl
          have f5 := blk_frozen BK2.out 5
          have z6 : wr.cell? ⟨gb, 6, none⟩ = some (.bool b6) := (blk_cell BK2.out 6).trans rfl
          have f6 := blk_frozen BK2.out 6
          have z7 : wr.cell? ⟨gb, 7, none⟩ = some (.string p7) := (blk_cell BK2.out 7).trans rfl
          have f7 := blk_frozen BK2.out 7
          go_wp2_with (first
            | (go_at_call 9; refine (G9.out _).mono ?_; rintro e w2 ⟨rfl, hb⟩; have HB4 := Aside0.mk (below_step HB3.out hb); clear hb)
            | (go_at_call 13; refine (G13.out _).mono ?_; rintro e w3 ⟨rfl, hb⟩; have HB5 := Aside0.mk (below_step HB4.out hb); clear hb)
            | (go_at_call 8; refine (haw.out _).mono ?_; rintro e w4 ⟨rfl, hb⟩; have HB6 := Aside0.mk (below_step HB5.out hb); clear hb))
          go_ret
          exact ⟨rfl, HB6.out⟩
        · have h4 : i = 0 ∨ i = 1 ∨ i = 2 ∨ i = 3 := by have := HI.out; omega
          obtain ⟨gO, rfl⟩ : ∃ gO, gk = gO + 1 := ⟨gk - 1, by have := HI.out; omega⟩
          have k0 := idx0
          have k1 := idx1
          have k2 := idx2
          have k3 := idx3
          clear hi hgf1
          rcases h4 with rfl | rfl | rfl | rfl
          · go_upto_region 9 with (first
              | ((with_reducible refine gate_dst (N := 15) rfl ?_); refine box_event ?hg (N := 15) ?hd (cs := #[.string (⟨#[]⟩ : ByteArray), .string (⟨#[]⟩ : ByteArray)]) (t := 28) ?hr ?_; (case hd => rfl); (case hg => rfl); (case hr => first | (go_simp; done) | (go_simp; rfl)); intro ga hg w5 hbox hb; have HB4 := Aside0.mk (below_step HB3.out hb); have GA := Aside0.mk ((by rw [hg]; exact (below_size HB3.out)) : w.heap.size ≤ ga); have BK3 := Aside0.mk (blk_below BK2.out hb); have BA := Aside0.mk hbox; have z0 : w5.cell? ⟨ga, 0, none⟩ = some (.string (⟨#[]⟩ : ByteArray)) := (blk_cell hbox 0).trans rfl; have f0 := blk_frozen hbox 0; have z1 : w5.cell? ⟨ga, 1, none⟩ = some (.string (⟨#[]⟩ : ByteArray)) := (blk_cell hbox 1).trans rfl; have f1 := blk_frozen hbox 1; clear hg hbox hb))
            have hin0 : Aside0 (∀ (c : Int) (W : World), Calls Try.prog 12 #[.int .u8 c, .string (⟨#[58, 47, 63, 35]⟩ : ByteArray)] W fun e w' => e = .returned (.bool (decide (c ∈ bytesOf (⟨#[58, 47, 63, 35]⟩ : ByteArray)))) ∧ ∃ m, w' = W.drewN m) := ⟨fun c W => (hin.out c (⟨#[58, 47, 63, 35]⟩ : ByteArray) (by decide) W).mono fun e w' h => ⟨h.1, h.2.out⟩⟩
            clear z0 f0 z1 f1
            have M1 := Aside0.mk (full2 (y0 := .string a0) (y1 := .string (⟨#[58, 47, 63, 35]⟩ : ByteArray)) BA.out)
            have M2 := Aside0.mk (below_set (j := 1) (v := .string (⟨#[58, 47, 63, 35]⟩ : ByteArray)) (below_set (j := 0) (v := .string a0) HB4.out GA.out) GA.out)
            have NE := blk_ne BK3.out BA.out (by decide)
            have M3 := Aside0.mk (blk_far (blk_far BK3.out (p := ⟨ga, 0, none⟩) NE (.string a0)) (p := ⟨ga, 1, none⟩) NE (.string (⟨#[58, 47, 63, 35]⟩ : ByteArray)))
            obtain ⟨w6, hw6⟩ : ∃ x, x = ((w5.setCell ⟨ga, 0, none⟩ (.string a0)).setCell ⟨ga, 1, none⟩ (.string (⟨#[58, 47, 63, 35]⟩ : ByteArray))) := ⟨_, rfl⟩
            rw [← hw6] at M1 M2 M3 ⊢
            clear hw6 BA HB4 BK3 NE k0 k1 k2 k3 BK2 HB3
            go_wp2
            go_loopg [16] a0.size (fun gq v16 wx => ∃ j : Nat, v16 = .int .i64 (j : Int) ∧ Aside0 (gq + j = a0.size) ∧ Aside0 (Clear a0 (⟨#[58, 47, 63, 35]⟩ : ByteArray) j) ∧ Aside0 (wx.heap[ga]? = some (.cells #[.string a0, .string (⟨#[58, 47, 63, 35]⟩ : ByteArray)] 28 (0, 0))) ∧ Aside0 (wx.heap[gb]? = some (.cells #[.string a0, .bool b1, .string p2, .string a2, .bool b4, .string p5, .bool b6, .string p7] 23 (0, 0))) ∧ Aside0 (Below w.heap.size w wx))
            case atStart => exact ⟨0, rfl, ⟨by omega⟩, ⟨fun j hj => absurd hj (by omega)⟩, M1, M3, M2⟩
            case round =>
              clear M1 M2 M3
              obtain ⟨j, rfl, HJ, HK, C1, C2, C3⟩ := hrel
              have z0 : wr.cell? ⟨ga, 0, none⟩ = some (.string a0) := (blk_cell C1.out 0).trans rfl
              have f0 := blk_frozen C1.out 0
              have z1 : wr.cell? ⟨ga, 1, none⟩ = some (.string (⟨#[58, 47, 63, 35]⟩ : ByteArray)) := (blk_cell C1.out 1).trans rfl
              have f1 := blk_frozen C1.out 1
              have t0 := at0 ga
              have t1 := at1 ga
              have hsz : a0.size ≤ 140737488351232 := HS.out 0
              by_cases hj : j < a0.size
              · have c1 : decide ((j : Int) < (a0.size : Int)) = true := decide_eq_true (by omega)
                have c2 : decide (j < a0.size) = true := decide_eq_true hj
                have p6 : (0 ≤ (j : Int)) = True := eq_true (by omega)
                have q6 : ((j : Int) < (a0.size : Int)) = True := eq_true (by omega)
                have e1 : IntKind.i64.wrap ((j : Int) + 1) = ((j + 1 : Nat) : Int) := by rw [i64_w]; unfold wrap64; omega
                cases gk with
                | zero => exact absurd HJ.out (by omega)
                | succ gr =>
                  have HJ1 := Aside0.mk hj
                  have HSZ := Aside0.mk hsz
                  have HBT := Aside0.mk (bt_at a0 j hj)
                  clear hsz
                  by_cases hm : (((a0[j]'hj).toNat : Nat) : Int) ∈ bytesOf (⟨#[58, 47, 63, 35]⟩ : ByteArray)
                  · have hin1 : Aside0 (∀ W : World, Calls Try.prog 12 #[.int .u8 (((a0[j]'hj).toNat : Nat) : Int), .string (⟨#[58, 47, 63, 35]⟩ : ByteArray)] W fun e w' => e = .returned (.bool true) ∧ ∃ m, w' = W.drewN m) := ⟨fun W => (hin0.out _ W).mono fun e w' h => ⟨h.1.trans (by rw [decide_eq_true hm]), h.2⟩⟩
                    clear hm
                    go_upto_region 12 with fail
                    go_quiet (first | (go_at_call 12; exact Calls.quiet_of (hin1.out _)))
                    go_wp2_with (first
                      | (go_at_call 8; refine (haw.out _).mono ?_; rintro e w8 ⟨rfl, hb⟩; have HB6 := Aside0.mk hb; clear hb))
                    go_ret
                    exact ⟨rfl, below_step (pw_below_drewN C3.out _) HB6.out⟩
                  · have hin1 : Aside0 (∀ W : World, Calls Try.prog 12 #[.int .u8 (((a0[j]'hj).toNat : Nat) : Int), .string (⟨#[58, 47, 63, 35]⟩ : ByteArray)] W fun e w' => e = .returned (.bool false) ∧ ∃ m, w' = W.drewN m) := ⟨fun W => (hin0.out _ W).mono fun e w' h => ⟨h.1.trans (by rw [decide_eq_false hm]), h.2⟩⟩
                    have HM := Aside0.mk (HBT.out ▸ hm : bt a0 (j : Int) ∉ bytesOf (⟨#[58, 47, 63, 35]⟩ : ByteArray))
                    clear hm
                    go_upto_region 12 with fail
                    go_quiet (first | (go_at_call 12; exact Calls.quiet_of (hin1.out _)))
                    go_wp2
                    go_roundg gr
                    case measure => exact Nat.lt_succ_self _
                    case rel => exact ⟨j + 1, by first | rfl | simp [*], ⟨by have := HJ.out; omega⟩, ⟨fun m hm => by rcases Nat.lt_succ_iff_lt_or_eq.1 hm with h | rfl; exact HK.out m h; exact HM.out⟩, ⟨blk_drewN C1.out _⟩, ⟨blk_drewN C2.out _⟩, ⟨pw_below_drewN C3.out _⟩⟩
              · have c1 : decide ((j : Int) < (a0.size : Int)) = false := decide_eq_false (by omega)
                have c2 : decide (j < a0.size) = false := decide_eq_false hj
                have hje : j = a0.size := by have := HJ.out; omega
                have HE := Aside0.mk hje
                clear hje hj hsz
                go_wp2
                go_roundg gO
                case measure => exact Nat.lt_succ_self _
                case rel => exact ⟨1, rfl, ⟨by have := HI.out; omega⟩, ⟨fun m hm => by rcases Nat.lt_succ_iff_lt_or_eq.1 hm with h | rfl; exact HC.out m h; have := HK.out; rw [HE.out] at this; exact this⟩, C2, C3⟩
          · go_upto_region 9 with (first
              | ((with_reducible refine gate_dst (N := 15) rfl ?_); refine box_event ?hg (N := 15) ?hd (cs := #[.string (⟨#[]⟩ : ByteArray), .string (⟨#[]⟩ : ByteArray)]) (t := 28) ?hr ?_; (case hd => rfl); (case hg => rfl); (case hr => first | (go_simp; done) | (go_simp; rfl)); intro ga hg w5 hbox hb; have HB4 := Aside0.mk (below_step HB3.out hb); have GA := Aside0.mk ((by rw [hg]; exact (below_size HB3.out)) : w.heap.size ≤ ga); have BK3 := Aside0.mk (blk_below BK2.out hb); have BA := Aside0.mk hbox; have z0 : w5.cell? ⟨ga, 0, none⟩ = some (.string (⟨#[]⟩ : ByteArray)) := (blk_cell hbox 0).trans rfl; have f0 := blk_frozen hbox 0; have z1 : w5.cell? ⟨ga, 1, none⟩ = some (.string (⟨#[]⟩ : ByteArray)) := (blk_cell hbox 1).trans rfl; have f1 := blk_frozen hbox 1; clear hg hbox hb))
            have hin0 : Aside0 (∀ (c : Int) (W : World), Calls Try.prog 12 #[.int .u8 c, .string (⟨#[47, 63, 35]⟩ : ByteArray)] W fun e w' => e = .returned (.bool (decide (c ∈ bytesOf (⟨#[47, 63, 35]⟩ : ByteArray)))) ∧ ∃ m, w' = W.drewN m) := ⟨fun c W => (hin.out c (⟨#[47, 63, 35]⟩ : ByteArray) (by decide) W).mono fun e w' h => ⟨h.1, h.2.out⟩⟩
            clear z0 f0 z1 f1
            have M1 := Aside0.mk (full2 (y0 := .string p2) (y1 := .string (⟨#[47, 63, 35]⟩ : ByteArray)) BA.out)
            have M2 := Aside0.mk (below_set (j := 1) (v := .string (⟨#[47, 63, 35]⟩ : ByteArray)) (below_set (j := 0) (v := .string p2) HB4.out GA.out) GA.out)
            have NE := blk_ne BK3.out BA.out (by decide)
            have M3 := Aside0.mk (blk_far (blk_far BK3.out (p := ⟨ga, 0, none⟩) NE (.string p2)) (p := ⟨ga, 1, none⟩) NE (.string (⟨#[47, 63, 35]⟩ : ByteArray)))
            obtain ⟨w6, hw6⟩ : ∃ x, x = ((w5.setCell ⟨ga, 0, none⟩ (.string p2)).setCell ⟨ga, 1, none⟩ (.string (⟨#[47, 63, 35]⟩ : ByteArray))) := ⟨_, rfl⟩
            rw [← hw6] at M1 M2 M3 ⊢
            clear hw6 BA HB4 BK3 NE k0 k1 k2 k3 BK2 HB3
            go_wp2
            go_loopg [16] p2.size (fun gq v16 wx => ∃ j : Nat, v16 = .int .i64 (j : Int) ∧ Aside0 (gq + j = p2.size) ∧ Aside0 (Clear p2 (⟨#[47, 63, 35]⟩ : ByteArray) j) ∧ Aside0 (wx.heap[ga]? = some (.cells #[.string p2, .string (⟨#[47, 63, 35]⟩ : ByteArray)] 28 (0, 0))) ∧ Aside0 (wx.heap[gb]? = some (.cells #[.string a0, .bool b1, .string p2, .string a2, .bool b4, .string p5, .bool b6, .string p7] 23 (0, 0))) ∧ Aside0 (Below w.heap.size w wx))
            case atStart => exact ⟨0, rfl, ⟨by omega⟩, ⟨fun j hj => absurd hj (by omega)⟩, M1, M3, M2⟩
            case round =>
              clear M1 M2 M3
              obtain ⟨j, rfl, HJ, HK, C1, C2, C3⟩ := hrel
              have z0 : wr.cell? ⟨ga, 0, none⟩ = some (.string p2) := (blk_cell C1.out 0).trans rfl
              have f0 := blk_frozen C1.out 0
              have z1 : wr.cell? ⟨ga, 1, none⟩ = some (.string (⟨#[47, 63, 35]⟩ : ByteArray)) := (blk_cell C1.out 1).trans rfl
              have f1 := blk_frozen C1.out 1
              have t0 := at0 ga
              have t1 := at1 ga
              have hsz : p2.size ≤ 140737488351232 := HS.out 1
              by_cases hj : j < p2.size
              · have c1 : decide ((j : Int) < (p2.size : Int)) = true := decide_eq_true (by omega)
                have c2 : decide (j < p2.size) = true := decide_eq_true hj
                have p6 : (0 ≤ (j : Int)) = True := eq_true (by omega)
                have q6 : ((j : Int) < (p2.size : Int)) = True := eq_true (by omega)
                have e1 : IntKind.i64.wrap ((j : Int) + 1) = ((j + 1 : Nat) : Int) := by rw [i64_w]; unfold wrap64; omega
                cases gk with
                | zero => exact absurd HJ.out (by omega)
                | succ gr =>
                  have HJ1 := Aside0.mk hj
                  have HSZ := Aside0.mk hsz
                  have HBT := Aside0.mk (bt_at p2 j hj)
                  clear hsz
                  by_cases hm : (((p2[j]'hj).toNat : Nat) : Int) ∈ bytesOf (⟨#[47, 63, 35]⟩ : ByteArray)
                  · have hin1 : Aside0 (∀ W : World, Calls Try.prog 12 #[.int .u8 (((p2[j]'hj).toNat : Nat) : Int), .string (⟨#[47, 63, 35]⟩ : ByteArray)] W fun e w' => e = .returned (.bool true) ∧ ∃ m, w' = W.drewN m) := ⟨fun W => (hin0.out _ W).mono fun e w' h => ⟨h.1.trans (by rw [decide_eq_true hm]), h.2⟩⟩
                    clear hm
                    go_upto_region 12 with fail
                    go_quiet (first | (go_at_call 12; exact Calls.quiet_of (hin1.out _)))
                    go_wp2_with (first
                      | (go_at_call 8; refine (haw.out _).mono ?_; rintro e w8 ⟨rfl, hb⟩; have HB6 := Aside0.mk hb; clear hb))
                    go_ret
                    exact ⟨rfl, below_step (pw_below_drewN C3.out _) HB6.out⟩
                  · have hin1 : Aside0 (∀ W : World, Calls Try.prog 12 #[.int .u8 (((p2[j]'hj).toNat : Nat) : Int), .string (⟨#[47, 63, 35]⟩ : ByteArray)] W fun e w' => e = .returned (.bool false) ∧ ∃ m, w' = W.drewN m) := ⟨fun W => (hin0.out _ W).mono fun e w' h => ⟨h.1.trans (by rw [decide_eq_false hm]), h.2⟩⟩
                    have HM := Aside0.mk (HBT.out ▸ hm : bt p2 (j : Int) ∉ bytesOf (⟨#[47, 63, 35]⟩ : ByteArray))
                    clear hm
                    go_upto_region 12 with fail
                    go_quiet (first | (go_at_call 12; exact Calls.quiet_of (hin1.out _)))
                    go_wp2
                    go_roundg gr
                    case measure => exact Nat.lt_succ_self _
                    case rel => exact ⟨j + 1, by first | rfl | simp [*], ⟨by have := HJ.out; omega⟩, ⟨fun m hm => by rcases Nat.lt_succ_iff_lt_or_eq.1 hm with h | rfl; exact HK.out m h; exact HM.out⟩, ⟨blk_drewN C1.out _⟩, ⟨blk_drewN C2.out _⟩, ⟨pw_below_drewN C3.out _⟩⟩
              · have c1 : decide ((j : Int) < (p2.size : Int)) = false := decide_eq_false (by omega)
                have c2 : decide (j < p2.size) = false := decide_eq_false hj
                have hje : j = p2.size := by have := HJ.out; omega
                have HE := Aside0.mk hje
                clear hje hj hsz
                go_wp2
                go_roundg gO
                case measure => exact Nat.lt_succ_self _
                case rel => exact ⟨2, rfl, ⟨by have := HI.out; omega⟩, ⟨fun m hm => by rcases Nat.lt_succ_iff_lt_or_eq.1 hm with h | rfl; exact HC.out m h; have := HK.out; rw [HE.out] at this; exact this⟩, C2, C3⟩
          · go_upto_region 9 with (first
              | ((with_reducible refine gate_dst (N := 15) rfl ?_); refine box_event ?hg (N := 15) ?hd (cs := #[.string (⟨#[]⟩ : ByteArray), .string (⟨#[]⟩ : ByteArray)]) (t := 28) ?hr ?_; (case hd => rfl); (case hg => rfl); (case hr => first | (go_simp; done) | (go_simp; rfl)); intro ga hg w5 hbox hb; have HB4 := Aside0.mk (below_step HB3.out hb); have GA := Aside0.mk ((by rw [hg]; exact (below_size HB3.out)) : w.heap.size ≤ ga); have BK3 := Aside0.mk (blk_below BK2.out hb); have BA := Aside0.mk hbox; have z0 : w5.cell? ⟨ga, 0, none⟩ = some (.string (⟨#[]⟩ : ByteArray)) := (blk_cell hbox 0).trans rfl; have f0 := blk_frozen hbox 0; have z1 : w5.cell? ⟨ga, 1, none⟩ = some (.string (⟨#[]⟩ : ByteArray)) := (blk_cell hbox 1).trans rfl; have f1 := blk_frozen hbox 1; clear hg hbox hb))
            have hin0 : Aside0 (∀ (c : Int) (W : World), Calls Try.prog 12 #[.int .u8 c, .string (⟨#[63, 35]⟩ : ByteArray)] W fun e w' => e = .returned (.bool (decide (c ∈ bytesOf (⟨#[63, 35]⟩ : ByteArray)))) ∧ ∃ m, w' = W.drewN m) := ⟨fun c W => (hin.out c (⟨#[63, 35]⟩ : ByteArray) (by decide) W).mono fun e w' h => ⟨h.1, h.2.out⟩⟩
            clear z0 f0 z1 f1
            have M1 := Aside0.mk (full2 (y0 := .string a2) (y1 := .string (⟨#[63, 35]⟩ : ByteArray)) BA.out)
            have M2 := Aside0.mk (below_set (j := 1) (v := .string (⟨#[63, 35]⟩ : ByteArray)) (below_set (j := 0) (v := .string a2) HB4.out GA.out) GA.out)
            have NE := blk_ne BK3.out BA.out (by decide)
            have M3 := Aside0.mk (blk_far (blk_far BK3.out (p := ⟨ga, 0, none⟩) NE (.string a2)) (p := ⟨ga, 1, none⟩) NE (.string (⟨#[63, 35]⟩ : ByteArray)))
            obtain ⟨w6, hw6⟩ : ∃ x, x = ((w5.setCell ⟨ga, 0, none⟩ (.string a2)).setCell ⟨ga, 1, none⟩ (.string (⟨#[63, 35]⟩ : ByteArray))) := ⟨_, rfl⟩
            rw [← hw6] at M1 M2 M3 ⊢
            clear hw6 BA HB4 BK3 NE k0 k1 k2 k3 BK2 HB3
            go_wp2
            go_loopg [16] a2.size (fun gq v16 wx => ∃ j : Nat, v16 = .int .i64 (j : Int) ∧ Aside0 (gq + j = a2.size) ∧ Aside0 (Clear a2 (⟨#[63, 35]⟩ : ByteArray) j) ∧ Aside0 (wx.heap[ga]? = some (.cells #[.string a2, .string (⟨#[63, 35]⟩ : ByteArray)] 28 (0, 0))) ∧ Aside0 (wx.heap[gb]? = some (.cells #[.string a0, .bool b1, .string p2, .string a2, .bool b4, .string p5, .bool b6, .string p7] 23 (0, 0))) ∧ Aside0 (Below w.heap.size w wx))
            case atStart => exact ⟨0, rfl, ⟨by omega⟩, ⟨fun j hj => absurd hj (by omega)⟩, M1, M3, M2⟩
            case round =>
              clear M1 M2 M3
              obtain ⟨j, rfl, HJ, HK, C1, C2, C3⟩ := hrel
              have z0 : wr.cell? ⟨ga, 0, none⟩ = some (.string a2) := (blk_cell C1.out 0).trans rfl
              have f0 := blk_frozen C1.out 0
              have z1 : wr.cell? ⟨ga, 1, none⟩ = some (.string (⟨#[63, 35]⟩ : ByteArray)) := (blk_cell C1.out 1).trans rfl
              have f1 := blk_frozen C1.out 1
              have t0 := at0 ga
              have t1 := at1 ga
              have hsz : a2.size ≤ 140737488351232 := HS.out 2
              by_cases hj : j < a2.size
              · have c1 : decide ((j : Int) < (a2.size : Int)) = true := decide_eq_true (by omega)
                have c2 : decide (j < a2.size) = true := decide_eq_true hj
                have p6 : (0 ≤ (j : Int)) = True := eq_true (by omega)
                have q6 : ((j : Int) < (a2.size : Int)) = True := eq_true (by omega)
                have e1 : IntKind.i64.wrap ((j : Int) + 1) = ((j + 1 : Nat) : Int) := by rw [i64_w]; unfold wrap64; omega
                cases gk with
                | zero => exact absurd HJ.out (by omega)
                | succ gr =>
                  have HJ1 := Aside0.mk hj
                  have HSZ := Aside0.mk hsz
                  have HBT := Aside0.mk (bt_at a2 j hj)
                  clear hsz
                  by_cases hm : (((a2[j]'hj).toNat : Nat) : Int) ∈ bytesOf (⟨#[63, 35]⟩ : ByteArray)
                  · have hin1 : Aside0 (∀ W : World, Calls Try.prog 12 #[.int .u8 (((a2[j]'hj).toNat : Nat) : Int), .string (⟨#[63, 35]⟩ : ByteArray)] W fun e w' => e = .returned (.bool true) ∧ ∃ m, w' = W.drewN m) := ⟨fun W => (hin0.out _ W).mono fun e w' h => ⟨h.1.trans (by rw [decide_eq_true hm]), h.2⟩⟩
                    clear hm
                    go_upto_region 12 with fail
                    go_quiet (first | (go_at_call 12; exact Calls.quiet_of (hin1.out _)))
                    go_wp2_with (first
                      | (go_at_call 8; refine (haw.out _).mono ?_; rintro e w8 ⟨rfl, hb⟩; have HB6 := Aside0.mk hb; clear hb))
                    go_ret
                    exact ⟨rfl, below_step (pw_below_drewN C3.out _) HB6.out⟩
                  · have hin1 : Aside0 (∀ W : World, Calls Try.prog 12 #[.int .u8 (((a2[j]'hj).toNat : Nat) : Int), .string (⟨#[63, 35]⟩ : ByteArray)] W fun e w' => e = .returned (.bool false) ∧ ∃ m, w' = W.drewN m) := ⟨fun W => (hin0.out _ W).mono fun e w' h => ⟨h.1.trans (by rw [decide_eq_false hm]), h.2⟩⟩
                    have HM := Aside0.mk (HBT.out ▸ hm : bt a2 (j : Int) ∉ bytesOf (⟨#[63, 35]⟩ : ByteArray))
                    clear hm
                    go_upto_region 12 with fail
                    go_quiet (first | (go_at_call 12; exact Calls.quiet_of (hin1.out _)))
                    go_wp2
                    go_roundg gr
                    case measure => exact Nat.lt_succ_self _
                    case rel => exact ⟨j + 1, by first | rfl | simp [*], ⟨by have := HJ.out; omega⟩, ⟨fun m hm => by rcases Nat.lt_succ_iff_lt_or_eq.1 hm with h | rfl; exact HK.out m h; exact HM.out⟩, ⟨blk_drewN C1.out _⟩, ⟨blk_drewN C2.out _⟩, ⟨pw_below_drewN C3.out _⟩⟩
              · have c1 : decide ((j : Int) < (a2.size : Int)) = false := decide_eq_false (by omega)
                have c2 : decide (j < a2.size) = false := decide_eq_false hj
                have hje : j = a2.size := by have := HJ.out; omega
                have HE := Aside0.mk hje
                clear hje hj hsz
                go_wp2
                go_roundg gO
                case measure => exact Nat.lt_succ_self _
                case rel => exact ⟨3, rfl, ⟨by have := HI.out; omega⟩, ⟨fun m hm => by rcases Nat.lt_succ_iff_lt_or_eq.1 hm with h | rfl; exact HC.out m h; have := HK.out; rw [HE.out] at this; exact this⟩, C2, C3⟩
          · go_upto_region 9 with (first
              | ((with_reducible refine gate_dst (N := 15) rfl ?_); refine box_event ?hg (N := 15) ?hd (cs := #[.string (⟨#[]⟩ : ByteArray), .string (⟨#[]⟩ : ByteArray)]) (t := 28) ?hr ?_; (case hd => rfl); (case hg => rfl); (case hr => first | (go_simp; done) | (go_simp; rfl)); intro ga hg w5 hbox hb; have HB4 := Aside0.mk (below_step HB3.out hb); have GA := Aside0.mk ((by rw [hg]; exact (below_size HB3.out)) : w.heap.size ≤ ga); have BK3 := Aside0.mk (blk_below BK2.out hb); have BA := Aside0.mk hbox; have z0 : w5.cell? ⟨ga, 0, none⟩ = some (.string (⟨#[]⟩ : ByteArray)) := (blk_cell hbox 0).trans rfl; have f0 := blk_frozen hbox 0; have z1 : w5.cell? ⟨ga, 1, none⟩ = some (.string (⟨#[]⟩ : ByteArray)) := (blk_cell hbox 1).trans rfl; have f1 := blk_frozen hbox 1; clear hg hbox hb))
            have hin0 : Aside0 (∀ (c : Int) (W : World), Calls Try.prog 12 #[.int .u8 c, .string (⟨#[35]⟩ : ByteArray)] W fun e w' => e = .returned (.bool (decide (c ∈ bytesOf (⟨#[35]⟩ : ByteArray)))) ∧ ∃ m, w' = W.drewN m) := ⟨fun c W => (hin.out c (⟨#[35]⟩ : ByteArray) (by decide) W).mono fun e w' h => ⟨h.1, h.2.out⟩⟩
            clear z0 f0 z1 f1
            have M1 := Aside0.mk (full2 (y0 := .string p5) (y1 := .string (⟨#[35]⟩ : ByteArray)) BA.out)
            have M2 := Aside0.mk (below_set (j := 1) (v := .string (⟨#[35]⟩ : ByteArray)) (below_set (j := 0) (v := .string p5) HB4.out GA.out) GA.out)
            have NE := blk_ne BK3.out BA.out (by decide)
            have M3 := Aside0.mk (blk_far (blk_far BK3.out (p := ⟨ga, 0, none⟩) NE (.string p5)) (p := ⟨ga, 1, none⟩) NE (.string (⟨#[35]⟩ : ByteArray)))
            obtain ⟨w6, hw6⟩ : ∃ x, x = ((w5.setCell ⟨ga, 0, none⟩ (.string p5)).setCell ⟨ga, 1, none⟩ (.string (⟨#[35]⟩ : ByteArray))) := ⟨_, rfl⟩
            rw [← hw6] at M1 M2 M3 ⊢
            clear hw6 BA HB4 BK3 NE k0 k1 k2 k3 BK2 HB3
            go_wp2
            go_loopg [16] p5.size (fun gq v16 wx => ∃ j : Nat, v16 = .int .i64 (j : Int) ∧ Aside0 (gq + j = p5.size) ∧ Aside0 (Clear p5 (⟨#[35]⟩ : ByteArray) j) ∧ Aside0 (wx.heap[ga]? = some (.cells #[.string p5, .string (⟨#[35]⟩ : ByteArray)] 28 (0, 0))) ∧ Aside0 (wx.heap[gb]? = some (.cells #[.string a0, .bool b1, .string p2, .string a2, .bool b4, .string p5, .bool b6, .string p7] 23 (0, 0))) ∧ Aside0 (Below w.heap.size w wx))
            case atStart => exact ⟨0, rfl, ⟨by omega⟩, ⟨fun j hj => absurd hj (by omega)⟩, M1, M3, M2⟩
            case round =>
              clear M1 M2 M3
              obtain ⟨j, rfl, HJ, HK, C1, C2, C3⟩ := hrel
              have z0 : wr.cell? ⟨ga, 0, none⟩ = some (.string p5) := (blk_cell C1.out 0).trans rfl
              have f0 := blk_frozen C1.out 0
              have z1 : wr.cell? ⟨ga, 1, none⟩ = some (.string (⟨#[35]⟩ : ByteArray)) := (blk_cell C1.out 1).trans rfl
              have f1 := blk_frozen C1.out 1
              have t0 := at0 ga
              have t1 := at1 ga
              have hsz : p5.size ≤ 140737488351232 := HS.out 3
              by_cases hj : j < p5.size
              · have c1 : decide ((j : Int) < (p5.size : Int)) = true := decide_eq_true (by omega)
                have c2 : decide (j < p5.size) = true := decide_eq_true hj
                have p6 : (0 ≤ (j : Int)) = True := eq_true (by omega)
                have q6 : ((j : Int) < (p5.size : Int)) = True := eq_true (by omega)
                have e1 : IntKind.i64.wrap ((j : Int) + 1) = ((j + 1 : Nat) : Int) := by rw [i64_w]; unfold wrap64; omega
                cases gk with
                | zero => exact absurd HJ.out (by omega)
                | succ gr =>
                  have HJ1 := Aside0.mk hj
                  have HSZ := Aside0.mk hsz
                  have HBT := Aside0.mk (bt_at p5 j hj)
                  clear hsz
                  by_cases hm : (((p5[j]'hj).toNat : Nat) : Int) ∈ bytesOf (⟨#[35]⟩ : ByteArray)
                  · have hin1 : Aside0 (∀ W : World, Calls Try.prog 12 #[.int .u8 (((p5[j]'hj).toNat : Nat) : Int), .string (⟨#[35]⟩ : ByteArray)] W fun e w' => e = .returned (.bool true) ∧ ∃ m, w' = W.drewN m) := ⟨fun W => (hin0.out _ W).mono fun e w' h => ⟨h.1.trans (by rw [decide_eq_true hm]), h.2⟩⟩
                    clear hm
                    go_upto_region 12 with fail
                    go_quiet (first | (go_at_call 12; exact Calls.quiet_of (hin1.out _)))
                    go_wp2_with (first
                      | (go_at_call 8; refine (haw.out _).mono ?_; rintro e w8 ⟨rfl, hb⟩; have HB6 := Aside0.mk hb; clear hb))
                    go_ret
                    exact ⟨rfl, below_step (pw_below_drewN C3.out _) HB6.out⟩
                  · have hin1 : Aside0 (∀ W : World, Calls Try.prog 12 #[.int .u8 (((p5[j]'hj).toNat : Nat) : Int), .string (⟨#[35]⟩ : ByteArray)] W fun e w' => e = .returned (.bool false) ∧ ∃ m, w' = W.drewN m) := ⟨fun W => (hin0.out _ W).mono fun e w' h => ⟨h.1.trans (by rw [decide_eq_false hm]), h.2⟩⟩
                    have HM := Aside0.mk (HBT.out ▸ hm : bt p5 (j : Int) ∉ bytesOf (⟨#[35]⟩ : ByteArray))
                    clear hm
                    go_upto_region 12 with fail
                    go_quiet (first | (go_at_call 12; exact Calls.quiet_of (hin1.out _)))
                    go_wp2
                    go_roundg gr
                    case measure => exact Nat.lt_succ_self _
                    case rel => exact ⟨j + 1, by first | rfl | simp [*], ⟨by have := HJ.out; omega⟩, ⟨fun m hm => by rcases Nat.lt_succ_iff_lt_or_eq.1 hm with h | rfl; exact HK.out m h; exact HM.out⟩, ⟨blk_drewN C1.out _⟩, ⟨blk_drewN C2.out _⟩, ⟨pw_below_drewN C3.out _⟩⟩
              · have c1 : decide ((j : Int) < (p5.size : Int)) = false := decide_eq_false (by omega)
                have c2 : decide (j < p5.size) = false := decide_eq_false hj
                have hje : j = p5.size := by have := HJ.out; omega
                have HE := Aside0.mk hje
                clear hje hj hsz
                go_wp2
                go_roundg gO
                case measure => exact Nat.lt_succ_self _
                case rel => exact ⟨4, rfl, ⟨by have := HI.out; omega⟩, ⟨fun m hm => by rcases Nat.lt_succ_iff_lt_or_eq.1 hm with h | rfl; exact HC.out m h; have := HK.out; rw [HE.out] at this; exact this⟩, C2, C3⟩
theorem long_eq (a0 : ByteArray) (a1 : Bool) (a2 a3 : ByteArray) (a4 : Bool) (a5 : ByteArray) (a6 : Bool) (a7 : ByteArray) (h0 : a0.size ≤ 140737488351232) (h2 : a2.size ≤ 140737488351232) (h3 : a3.size ≤ 140737488351232) (h5 : a5.size ≤ 140737488351232) (h7 : a7.size ≤ 140737488351232) :
    monikerlaw20_long.f a0 a1 a2 a3 a4 a5 a6 a7 = some (decide (¬ (a0.size + a2.size ≤ 200 ∧ a3.size ≤ 200 ∧ a5.size + a7.size ≤ 200))) := by
  unfold monikerlaw20_long.f
  rw [Oct.w64 (x := (a0.size : Int) + (a2.size : Int)) (by omega) (by omega), Oct.w64 (x := (a5.size : Int) + (a7.size : Int)) (by omega) (by omega)]
  by_cases c1 : (a0.size : Int) + (a2.size : Int) > 200
  · rw [if_pos c1, decide_eq_true (by omega)]
  rw [if_neg c1]
  by_cases c2 : (a3.size : Int) > 200
  · rw [if_pos c2, decide_eq_true (by omega)]
  rw [if_neg c2]
  congr 1
  exact decide_eq_decide.2 (by omega)
theorem mem_at (s : ByteArray) (c : Int) (h : c ∈ bytesOf s) : ∃ j : Nat, j < s.size ∧ bt s j = c := by
  obtain ⟨j, hj, e⟩ := List.getElem_of_mem h
  have hj2 : j < s.size := by rw [bytesOf_length] at hj; exact hj
  have h1 := Oct.drop_bytes s j hj2
  rw [List.drop_eq_getElem_cons hj] at h1
  have h2 := (List.cons.inj h1).1
  exact ⟨j, hj2, by rw [← h2]; exact e⟩
theorem clear_free {s t : ByteArray} (h : Clear s t s.size) : Free (bytesOf t) (bytesOf s) := by
  intro c hc hm
  obtain ⟨j, hj, rfl⟩ := mem_at s c hc
  exact h j hj hm
theorem TupleGuarded_walk (a0 a1 a2 a3 a4 : ByteArray) (a5 : Int) (W : World) (h0 : a0.size ≤ 140737488351232) (h1 : a1.size ≤ 140737488351232) (h2 : a2.size ≤ 140737488351232) (h3 : a3.size ≤ 140737488351232) (h4 : a4.size ≤ 140737488351232) :
    Calls Try.prog 4 #[.string a0, .string a1, .string a2, .string a3, .string a4, .int .u8 a5] W fun e w' => e = .returned (.bool true) ∧ Below W.heap.size W w' := by
  obtain ⟨b1, e1⟩ : ∃ b, decide (0 < bits BinOp.and IntKind.u8 a5 1) = b := ⟨_, rfl⟩
  obtain ⟨b4, e4⟩ : ∃ b, decide (0 < bits BinOp.and IntKind.u8 a5 2) = b := ⟨_, rfl⟩
  obtain ⟨b6, e6⟩ : ∃ b, decide (0 < bits BinOp.and IntKind.u8 a5 4) = b := ⟨_, rfl⟩
  have hce := Clean_ev a0 b1 a1 a2 b4 a3 b6 a4
  obtain ⟨p2, hp2⟩ : ∃ p, p = (if b1 = true then a1 else (⟨#[]⟩ : ByteArray)) := ⟨_, rfl⟩
  obtain ⟨p5, hp5⟩ : ∃ p, p = (if b4 = true then a3 else (⟨#[]⟩ : ByteArray)) := ⟨_, rfl⟩
  obtain ⟨p7, hp7⟩ : ∃ p, p = (if b6 = true then a4 else (⟨#[]⟩ : ByteArray)) := ⟨_, rfl⟩
  rw [← hp2, ← hp5, ← hp7] at hce
  have z2 : p2.size ≤ 140737488351232 := by rw [hp2]; split; exact h1; exact Nat.zero_le _
  have z5 : p5.size ≤ 140737488351232 := by rw [hp5]; split; exact h3; exact Nat.zero_le _
  have z7 : p7.size ≤ 140737488351232 := by rw [hp7]; split; exact h4; exact Nat.zero_le _
  have d2 : b1 = false → p2 = ⟨#[]⟩ := fun h => by rw [hp2, h]; rfl
  have d5 : b4 = false → p5 = ⟨#[]⟩ := fun h => by rw [hp5, h]; rfl
  have d7 : b6 = false → p7 = ⟨#[]⟩ := fun h => by rw [hp7, h]; rfl
  obtain ⟨kc, hkc⟩ := Ev.rounds hce
  obtain ⟨ka, hka⟩ := Ev.rounds awake_ev
  refine walk_parts a0 a1 a2 a3 a4 a5 b1 b4 b6 (decide (¬ (a0.size + p2.size ≤ 200 ∧ a2.size ≤ 200 ∧ p5.size + p7.size ≤ 200))) p2 p5 p7 W e1 e4 e6 ⟨fun w => tuple_Clean.calls kc a0 b1 a1 a2 b4 a3 b6 a4 a0 b1 p2 a2 b4 p5 b6 p7 w hkc⟩ ⟨fun w => ?_⟩ ⟨fun w => monikerlaw20_awake.calls ka true w hka⟩ ⟨fun c t ht w => ?_⟩ ⟨fun hlb hcl => ?_⟩ ⟨d2, d5, d7⟩ ?_
  · exact monikerlaw20_long.calls a0 b1 p2 a2 b4 p5 b6 p7 _ w (long_eq a0 b1 p2 a2 b4 p5 b6 p7 h0 z2 h2 z5 z7)
  · obtain ⟨k, hk⟩ := Ev.rounds (Oct.In_ev c t (by omega))
    exact monikerref01_In.calls k c t _ w hk
  · have hl := of_decide_eq_false hlb
    have hl2 := Classical.not_not.1 hl
    have f0 : Free SS (bytesOf a0) := clear_free (hcl 0 (by decide))
    have f2 : Free SA (bytesOf p2) := clear_free (hcl 1 (by decide))
    have f3 : Free SP (bytesOf a2) := clear_free (hcl 2 (by decide))
    have f5 : Free SQ (bytesOf p5) := clear_free (hcl 3 (by decide))
    obtain ⟨g, hg, hf, hz⟩ := guard_fits a0 b1 p2 a2 b4 p5 b6 p7 (by omega) (fun h => by rw [d2 h]; rfl) (fun h => by rw [d5 h]; rfl) (fun h => by rw [d7 h]; rfl) f0 f2 f3 f5
    refine ⟨g, fun w => tuple_Guard.calls a0 b1 p2 a2 b4 p5 b6 p7 a0 b1 p2 g b4 p5 b6 p7 w hg, fun w => ?_⟩
    have hF := Fits_ev a0 b1 p2 g b4 p5 b6 p7 (by omega) (by omega) (by omega) (by omega) (by omega)
    rw [(fitsB_iff _ _ _ _ _ _ _ _).2 hf] at hF
    obtain ⟨k, hk⟩ := Ev.rounds hF
    exact tuple_Fits.calls k a0 b1 p2 g b4 p5 b6 p7 true w hk
  · intro i
    unfold cmp
    split
    · exact h0
    · exact z2
    · exact h2
    · exact z5
end Go.Proofs.Ytgccggbokphibaa.Pure
