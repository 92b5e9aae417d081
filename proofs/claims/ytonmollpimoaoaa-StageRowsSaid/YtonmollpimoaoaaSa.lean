/- The stage's maker: words, blank. -/
import Derived.Test.YtonmollpimoaoaaProg
import Derived.Test.YtonmollpimoaoaaWWords
import Derived.Test.YtonmollpimoaoaaWLast
import Derived.Test.YtonmollpimoaoaaWMore
import Derived.Test.YtonmollpimoaoaaWSized
import Derived.Test.YtonmollpimoaoaaMapF
import Derived.Test.YtonmollpimoaoaaStg
import Derived.Deep.WholeRow
import Derived.Laws.CopyRow
import Derived.Deep.MidRow
import Derived.WalkKit
namespace Go.Proofs.Ytonmollpimoaoaa.Sa
open Go.RowKit Go.Maps Go.Proofs.Ytonmollpimoaoaa.MapF Go.Proofs.Ytonmollpimoaoaa.Stg Go.Proofs.YtonmollpimoaoaaW.PrintWords Go.Proofs.YtonmollpimoaoaaW.PrintLast Go.Proofs.YtonmollpimoaoaaW.PrintMore
set_option linter.unusedVariables false
set_option linter.unusedSimpArgs false
/-- Whole numbers as a row's cells. -/
def nA (l : List Int) : Array Value := (l.map (Value.int .i64)).toArray
theorem nA_size (l : List Int) : (nA l).size = l.length := by simp [nA]
theorem nA_one (l : List Int) : (nA l).all (·.oneCell') = true := by
  refine all_oneCell_toArray (fun v hv => ?_)
  obtain ⟨x, _, rfl⟩ := List.mem_map.1 hv
  rfl
theorem nA_set (l : List Int) (j : Nat) (v : Int) : (nA l).setIfInBounds j (.int .i64 v) = nA (l.set j v) := by
  unfold nA
  simp [List.map_set]
theorem nA_get (l : List Int) (j : Nat) (h : j < l.length) : (nA l)[j]? = some (.int .i64 (l.getD j 0)) := by
  unfold nA
  simp [List.getD_eq_getElem?_getD, List.getElem?_eq_getElem h]
theorem size56 : (Try.prog.info? 56).map (·.size) = some 256 := by kernel_rfl
theorem zero56 : (Try.prog.info? 56).map (fun i => (i.zero, i.size)) = some (some (.agg (Array.replicate 256 (.int .i64 0))), 256) := by kernel_rfl
/-- A store into a row's block, whole. -/
theorem store_blk {ops : Array Oper} {rest : List Oper} {o : Oper} {a : Act} {w : World} {P : Program} {Q : Exit → Act → World → Prop} (hgd : o.guard = none) (t : TypeId) (x y : Operand) (ho : o.op = .store t x y) (hd : o.dst = none)
    (g : Nat) (c c' : Array Value) (hx : a.eval x = .pointer (some ⟨g, 0, none⟩)) (hy : a.eval y = .agg c') (hg : w.heap[g]? = some (.cells c t (0, 0))) (hi : (P.info? t).map (·.size) = some c'.size) (hc : c.size = c'.size) (h1 : c'.all (·.oneCell') = true)
    (h : wpList P ops Q rest a (w.setRow g c')) : wpList P ops Q (o :: rest) a w :=
  wpList_store_row hgd t x y ho g c' hx hy t c hg hi hc h1 (by
    have e : a.put o.dst undef = a := by rw [hd]; rfl
    rw [e]
    exact h)
theorem fill_set (v : Int) (j : Nat) (h : j < 256) : (List.replicate j v ++ List.replicate (256 - j) (0 : Int)).set j v = List.replicate (j + 1) v ++ List.replicate (256 - (j + 1)) (0 : Int) := by
  obtain ⟨m, hm⟩ : ∃ m, 256 - j = m + 1 := ⟨256 - j - 1, by omega⟩
  rw [hm, show 256 - (j + 1) = m by omega, List.set_append_right _ _ (by simp), List.length_replicate, Nat.sub_self, List.replicate_succ, List.set_cons_zero, List.replicate_succ' (n := j), List.append_assoc]
  rfl
theorem row_grown (w : World) (g : Nat) (cs : Array Value) (B : Nat) (h : B ≤ g) {w0 : World} (hb : Below B w0 w) : Below B w0 (w.setRow g cs) :=
  ⟨hb.os, hb.tape, hb.output, by rw [size_setRow]; exact hb.size, fun i hi => (setRow_other w g i cs (by omega)).trans (hb.block i hi)⟩
theorem nx56 {j : Nat} (h : j < 256) : Value.int .i64 (wrap64 ((j : Int) + 1)) = .int .i64 ((j + 1 : Nat) : Int) := by
  congr 1
  unfold wrap64
  omega
set_option maxHeartbeats 4000000 in
theorem blank_calls (w : World) (m : Option Addr) (v : Int) : Calls Try.prog 16 #[.pointer m, .int .i64 v] w fun e w' => e = .returned (.agg (nA (rep v))) ∧ Below w.heap.size w w' := by
  go_enter Try.func16, Try.ntmps16
  go_wp2_with (first
    | ((with_reducible refine gate_dst (N := 4) rfl ?_); refine box_event rfl (N := 4) rfl (cs := Array.replicate 256 (.int .i64 0)) (t := 56) (by kernel_rfl) ?_; intro g hg w1 hblk hb; have HG := Aside0.mk hg; have HK := Aside0.mk hblk; have HB := Aside0.mk hb; clear hg hblk hb)
    | ((with_reducible refine gate_dst (N := 5) rfl ?_); refine box_event rfl (N := 5) rfl (cs := Array.replicate 256 (.int .i64 0)) (t := 56) (by kernel_rfl) ?_; intro g2 hg w2 hblk hb; have HG2 := Aside0.mk hg; have HK2 := Aside0.mk hblk; have HLT := Aside0.mk (show g < g2 by rw [hg]; exact blk_lt HK.out); have HK := Aside0.mk (blk_below HK.out hb); have HB := Aside0.mk (below_step HB.out hb); clear hg hblk hb))
  go_loopg [7] 257 (fun kq v7 wr => ∃ (j : Nat), v7 = .int .i64 (j : Int) ∧ Aside0 (wr.heap[g2]? = some (.cells (nA (List.replicate j v ++ List.replicate (256 - j) 0)) 56) ∧ wr.heap[g]? = some (.cells (Array.replicate 256 (.int .i64 0)) 56) ∧ Below w.heap.size w wr ∧ j + kq = 257 ∧ j ≤ 256))
  case atStart => exact ⟨0, rfl, ⟨by rw [HK2.out]; kernel_rfl, HK.out, HB.out, by omega, by omega⟩⟩
  case round =>
    obtain ⟨j, rfl, HI⟩ := hrel
    have hj := HI.out.2.2.2.2
    by_cases hl : j < 256
    · have q1 : decide ((j : Int) < 256) = true := decide_eq_true (by omega)
      have p1 : (0 ≤ (j : Int)) = True := eq_true (by omega)
      have p2 : ((j : Int) < 256) = True := eq_true (by omega)
      have p3 : (j < 256) = True := eq_true hl
      have c0 : wr.cell? ⟨g2, j, none⟩ = _ := (blk_cell HI.out.1 j).trans (nA_get _ j (by simp; omega))
      have f0 := blk_frozen HI.out.1 j
      have HLJ := Aside0.mk hl
      clear hl hj
      go_wp2
      cases gk with
      | zero => have := HI.out.2.2.2.1; have := HLJ.out; omega
      | succ q =>
      go_roundg q
      case measure => omega
      case rel => exact ⟨j + 1, nx56 HLJ.out, ⟨by rw [← fill_set v j HLJ.out, ← nA_set]; exact blk_set HI.out.1 j _, blk_far HI.out.2.1 (Nat.ne_of_lt HLT.out) _, HI.out.2.2.1.setCell (by show w.heap.size ≤ g2; rw [HG.out] at HLT; have := HLT.out; omega) _, by have := HI.out.2.2.2.1; omega, by have := HLJ.out; omega⟩⟩
    · have q1 : decide ((j : Int) < 256) = false := decide_eq_false (by omega)
      have q2 : decide (j < 256) = false := decide_eq_false hl
      obtain rfl : j = 256 := by omega
      have hfull : wr.heap[g2]? = some (.cells (nA (rep v)) 56) := by
        have := HI.out.1
        rw [Nat.sub_self, List.replicate_zero, List.append_nil] at this
        exact this
      have HF := Aside0.mk hfull
      clear hl hj hfull
      go_wp2_with (first
        | ((with_reducible refine gate_dst (N := 14) rfl ?_); refine wpList_load_row rfl 56 (.tmp 5) rfl g2 rfl 56 (nA (rep v)) (0, 0) _ HF.out Try.underlying56 rfl (by rw [nA_size]; kernel_rfl) ?_)
        | ((with_reducible refine gate_store (t := 56) (p := 4) (v := .tmp 14) rfl ?_); refine store_blk rfl 56 (.tmp 4) (.tmp 14) rfl rfl g _ (nA (rep v)) rfl rfl HI.out.2.1 (by rw [nA_size]; kernel_rfl) (by rw [nA_size]; kernel_rfl) (nA_one _) ?_))
      (try simp only [Exit.inBlock, Exit.then]); refine bodyPost_ret (results_cell_row rfl _ _ g 56 (nA (rep v)) (0, 0) _ rfl (setRow_heap wr g _ _ 56 _ HI.out.2.1) Try.underlying56 rfl (by rw [nA_size]; kernel_rfl)) rfl ?_
      exact ⟨rfl, row_grown _ g _ _ (by rw [HG.out]; exact Nat.le_refl _) HI.out.2.2.1⟩
end Go.Proofs.Ytonmollpimoaoaa.Sa
