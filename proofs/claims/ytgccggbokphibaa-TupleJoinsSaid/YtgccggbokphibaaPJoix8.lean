-- SPLICED by sprint.py: out of the kit's printer, with some functions by this session's own texts. No printed file. Lean checks it.
import Derived.Test.YtgccggbokphibaaPJoix0
import Derived.Test.YtgccggbokphibaaPJoix2
namespace Go.Proofs.Ytgccggbokphibaa.PJoi
open Go.RowKit Go.Proofs.YtgccggbokphibaaW.PrintWords Go.Proofs.YtgccggbokphibaaW.PrintLast Go.Proofs.YtgccggbokphibaaW.PrintMore
attribute [local go_sem] max2_int min2_int max_two min_two max_three min_three max_four min_four   -- for this text's walks alone
set_option linter.unusedVariables false
set_option linter.unusedSimpArgs false

/-! ### tuple_Join: function 16 -/
mutual
def tuple_Join.j0 : Nat → List Int → ByteArray → Bool → ByteArray → ByteArray → Bool → ByteArray → Bool → ByteArray → Option (ByteArray)
  | 0, _, _, _, _, _, _, _, _, _ => none
  | k + 1, x3, x178000, x178001, x178002, x178003, x178004, x178005, x178006, x178007 => if x178001 = true then (if x3.length + 2 < 140737488355328 then ((some (x3 ++ bytesOf (⟨#[47, 47]⟩ : ByteArray) : List Int)).bind fun y184 => (if y184.length + x178002.size < 140737488355328 then (tuple_Join.j1 k (y184 ++ bytesOf x178002) x178000 x178001 x178002 x178003 x178004 x178005 x178006 x178007) else (none))) else (none)) else (tuple_Join.j1 k x3 x178000 x178001 x178002 x178003 x178004 x178005 x178006 x178007)
def tuple_Join.j1 : Nat → List Int → ByteArray → Bool → ByteArray → ByteArray → Bool → ByteArray → Bool → ByteArray → Option (ByteArray)
  | 0, _, _, _, _, _, _, _, _, _ => none
  | k + 1, x3, x178000, x178001, x178002, x178003, x178004, x178005, x178006, x178007 => if x3.length + x178003.size < 140737488355328 then ((some (x3 ++ bytesOf x178003 : List Int)).bind fun y190 => (if x178004 = true then (if y190.length < 140737488355328 then ((some (y190 ++ [63] : List Int)).bind fun y193 => (if y193.length + x178005.size < 140737488355328 then ((some (y193 ++ bytesOf x178005 : List Int)).bind fun y196 => (if x178006 = true then (if y196.length < 140737488355328 then ((some (y196 ++ [35] : List Int)).bind fun y199 => (if y199.length + x178007.size < 140737488355328 then (some (strOfNums (y199 ++ bytesOf x178007))) else (none))) else (none)) else (some (strOfNums y196)))) else (none))) else (none)) else (if x178006 = true then (if y190.length < 140737488355328 then ((some (y190 ++ [35] : List Int)).bind fun y205 => (if y205.length + x178007.size < 140737488355328 then (some (strOfNums (y205 ++ bytesOf x178007))) else (none))) else (none)) else (some (strOfNums y190))))) else (none)
end
def tuple_Join.f (k : Nat) (a0_0 : ByteArray) (a0_1 : Bool) (a0_2 : ByteArray) (a0_3 : ByteArray) (a0_4 : Bool) (a0_5 : ByteArray) (a0_6 : Bool) (a0_7 : ByteArray) : Option (ByteArray) := if a0_0.toList = ([] : List UInt8) then (tuple_Join.j0 k ([] : List Int) a0_0 a0_1 a0_2 a0_3 a0_4 a0_5 a0_6 a0_7) else (if ([] : List Int).length + a0_0.size < 140737488355328 then ((some (([] : List Int) ++ bytesOf a0_0 : List Int)).bind fun y178 => (if y178.length < 140737488355328 then (tuple_Join.j0 k (y178 ++ [58]) a0_0 a0_1 a0_2 a0_3 a0_4 a0_5 a0_6 a0_7) else (none))) else (none))
theorem tuple_Join.mono_l : ∀ k, (∀ y0 y1 y2 y3 y4 y5 y6 y7 y8, LeO (tuple_Join.j0 k y0 y1 y2 y3 y4 y5 y6 y7 y8) (tuple_Join.j0 (k + 1) y0 y1 y2 y3 y4 y5 y6 y7 y8)) ∧ (∀ y0 y1 y2 y3 y4 y5 y6 y7 y8, LeO (tuple_Join.j1 k y0 y1 y2 y3 y4 y5 y6 y7 y8) (tuple_Join.j1 (k + 1) y0 y1 y2 y3 y4 y5 y6 y7 y8))
  | 0 => ⟨fun _ _ _ _ _ _ _ _ _ r h => by simp [tuple_Join.j0] at h, fun _ _ _ _ _ _ _ _ _ r h => by simp [tuple_Join.j1] at h⟩
  | k + 1 => by
    obtain ⟨ih0, ih1⟩ := tuple_Join.mono_l k
    refine ⟨?_, ?_⟩
    · intro y0 y1 y2 y3 y4 y5 y6 y7 y8
      unfold tuple_Join.j0
      repeat' first
      | (with_reducible exact ih0 _ _ _ _ _ _ _ _ _)
      | (with_reducible exact ih1 _ _ _ _ _ _ _ _ _)
      | (with_reducible exact LeO.refl _)
      | (with_reducible exact LeO.none _)
      | (with_reducible refine LeO.ite ?_ ?_)
      | (with_reducible refine LeO.bind ?_ (fun _ => ?_))
      | exact ih0 _ _ _ _ _ _ _ _ _
      | exact ih1 _ _ _ _ _ _ _ _ _
      | exact LeO.none _
      | refine LeO.ite ?_ ?_
      | refine LeO.bind ?_ (fun _ => ?_)
    · intro y0 y1 y2 y3 y4 y5 y6 y7 y8
      unfold tuple_Join.j1
      repeat' first
      | (with_reducible exact ih0 _ _ _ _ _ _ _ _ _)
      | (with_reducible exact ih1 _ _ _ _ _ _ _ _ _)
      | (with_reducible exact LeO.refl _)
      | (with_reducible exact LeO.none _)
      | (with_reducible refine LeO.ite ?_ ?_)
      | (with_reducible refine LeO.bind ?_ (fun _ => ?_))
      | exact ih0 _ _ _ _ _ _ _ _ _
      | exact ih1 _ _ _ _ _ _ _ _ _
      | exact LeO.none _
      | refine LeO.ite ?_ ?_
      | refine LeO.bind ?_ (fun _ => ?_)
theorem tuple_Join.mono : ∀ a0 a1 a2 a3 a4 a5 a6 a7 k, LeO (tuple_Join.f k a0 a1 a2 a3 a4 a5 a6 a7) (tuple_Join.f (k + 1) a0 a1 a2 a3 a4 a5 a6 a7) := by
  intro a0 a1 a2 a3 a4 a5 a6 a7 k
  obtain ⟨ih0, ih1⟩ := tuple_Join.mono_l k
  unfold tuple_Join.f
  repeat' first
      | (with_reducible exact ih0 _ _ _ _ _ _ _ _ _)
      | (with_reducible exact ih1 _ _ _ _ _ _ _ _ _)
      | (with_reducible exact LeO.refl _)
      | (with_reducible exact LeO.none _)
      | (with_reducible refine LeO.ite ?_ ?_)
      | (with_reducible refine LeO.bind ?_ (fun _ => ?_))
      | exact ih0 _ _ _ _ _ _ _ _ _
      | exact ih1 _ _ _ _ _ _ _ _ _
      | exact LeO.none _
      | refine LeO.ite ?_ ?_
      | refine LeO.bind ?_ (fun _ => ?_)
set_option maxHeartbeats 8000000 in
set_option maxRecDepth 100000 in
theorem tuple_Join.calls (k : Nat) (a0_0 : ByteArray) (a0_1 : Bool) (a0_2 : ByteArray) (a0_3 : ByteArray) (a0_4 : Bool) (a0_5 : ByteArray) (a0_6 : Bool) (a0_7 : ByteArray) (r : ByteArray) (w : World) (h : tuple_Join.f k a0_0 a0_1 a0_2 a0_3 a0_4 a0_5 a0_6 a0_7 = some r) :
    Calls Try.prog 16 #[.agg #[.string a0_0, .bool a0_1, .string a0_2, .string a0_3, .bool a0_4, .string a0_5, .bool a0_6, .string a0_7]] w fun e w' => e = .returned (.string r) ∧ Below w.heap.size w w' := by
  have hu23 := Try.underlying23
  have HB := Aside0.mk (Below.refl w.heap.size w)
  have H : (if a0_0.toList = ([] : List UInt8) then (tuple_Join.j0 k ([] : List Int) a0_0 a0_1 a0_2 a0_3 a0_4 a0_5 a0_6 a0_7) else (if ([] : List Int).length + a0_0.size < 140737488355328 then ((some (([] : List Int) ++ bytesOf a0_0 : List Int)).bind fun y178 => (if y178.length < 140737488355328 then (tuple_Join.j0 k (y178 ++ [58]) a0_0 a0_1 a0_2 a0_3 a0_4 a0_5 a0_6 a0_7) else (none))) else (none))) = some r := h
  clear h
  have HC2 := Aside0.mk H
  clear H
  go_enter Try.func16, Try.ntmps16
  go_upto_if 6 with (first | ((with_reducible refine gate_dst (N := 1) rfl ?_); refine box_event ?hg (N := 1) ?hd (cs := #[.string a0_0, .bool a0_1, .string a0_2, .string a0_3, .bool a0_4, .string a0_5, .bool a0_6, .string a0_7]) (t := 23) ?hr ?_; (case hd => rfl); (case hg => rfl); (case hr => first | (go_simp; done) | (go_simp; rfl)); intro gb177 hg w3 hbox hb; have n0_ := Aside0.mk (below_step (by repeat (first | (with_reducible first | exact HB.out | apply below_alloc | apply pw_below_drewN | apply below_drew1) | exact HB.out)) hb); have n1_ := Aside0.mk (hbox); have n2_ := Aside0.mk ((by rw [hg]; exact (below_size (by repeat (first | (with_reducible first | exact HB.out | apply below_alloc | apply pw_below_drewN | apply below_drew1) | exact HB.out))) : w.heap.size ≤ gb177)); have n3_ := Aside0.mk ((by rw [hg]; exact (below_size (by repeat (first | (with_reducible first | exact HB.out | apply below_alloc | apply pw_below_drewN | apply below_drew1) | exact HB.out))) : w.heap.size ≤ gb177)); clear HB; have HB := n0_; have BK177 := n1_; have GW177 := n2_; have GE177 := n3_; clear n0_ n1_ n2_ n3_; clear hb hbox hg; have hcz4_0 : w3.cell? ⟨gb177, 0, none⟩ = some (.string a0_0) := (blk_cell BK177.out 0).trans rfl; have hcz4_1 : w3.cell? ⟨gb177, 1, none⟩ = some (.bool a0_1) := (blk_cell BK177.out 1).trans rfl; have hcz4_2 : w3.cell? ⟨gb177, 2, none⟩ = some (.string a0_2) := (blk_cell BK177.out 2).trans rfl; have hcz4_3 : w3.cell? ⟨gb177, 3, none⟩ = some (.string a0_3) := (blk_cell BK177.out 3).trans rfl; have hcz4_4 : w3.cell? ⟨gb177, 4, none⟩ = some (.bool a0_4) := (blk_cell BK177.out 4).trans rfl; have hcz4_5 : w3.cell? ⟨gb177, 5, none⟩ = some (.string a0_5) := (blk_cell BK177.out 5).trans rfl; have hcz4_6 : w3.cell? ⟨gb177, 6, none⟩ = some (.bool a0_6) := (blk_cell BK177.out 6).trans rfl; have hcz4_7 : w3.cell? ⟨gb177, 7, none⟩ = some (.string a0_7) := (blk_cell BK177.out 7).trans rfl; have hfz4_0 := blk_frozen BK177.out 0; have hfz4_1 := blk_frozen BK177.out 1; have hfz4_2 := blk_frozen BK177.out 2; have hfz4_3 := blk_frozen BK177.out 3; have hfz4_4 := blk_frozen BK177.out 4; have hfz4_5 := blk_frozen BK177.out 5; have hfz4_6 := blk_frozen BK177.out 6; have hfz4_7 := blk_frozen BK177.out 7))
  (try simp only [Act.put, List.setIfInBounds_toArray, List.set_cons_zero, List.set_cons_succ])
  go_cut [3] (fun v3 wc => ∃ (kq : Nat) (x3_1 : List Int), Aside0 (tuple_Join.j0 kq x3_1 a0_0 a0_1 a0_2 a0_3 a0_4 a0_5 a0_6 a0_7 = some r) ∧ Aside0 (kq ≤ k) ∧ Aside0 (Kd.R (Kd.int .u8) 5 wc w.heap.size (fun _ => True) v3 x3_1) ∧ Aside0 (wc.heap[gb177]? = some (.cells #[.string a0_0, .bool a0_1, .string a0_2, .string a0_3, .bool a0_4, .string a0_5, .bool a0_6, .string a0_7] 23 (0, 0))) ∧ Aside0 (Below w.heap.size w wc))
  case first =>
    have H := HC2.out
    clear HC2
    by_cases c5 : a0_0.toList = ([] : List UInt8)
    · rw [if_pos c5] at H
      have c5b0 : (a0_0.toList == ([] : List UInt8)) = true := beq_iff_eq.mpr c5
      have c5e : a0_0.toList.isEmpty = true := by rw [c5]; rfl
      have c5b1 : (a0_0.toList != ([] : List UInt8)) = false := bne_eq_false_iff_eq.mpr c5
      clear c5
      (first | rw [c5e] | rw [c5b0] | (simp only [i64_w, i32_w]; rw [c5b0]) | skip)
      have H' := Aside0.mk H
      clear H
      go_wp2
      go_meet
      case rel => exact ⟨_, (([] : List Int)), H', ⟨by first | omega | exact Nat.le_refl _⟩, ⟨by first | exact Kd.R_nil _ _ _ _ _ | exact Kd.N_nil _ _ _ _ _ | exact Kd.V_nil _ _ _ _ _ | exact Kd.Q_nil _ _ _ _ _ | exact Kd.S_nil _ _ _ _ _⟩, ⟨by (with_reducible repeat (first | refine blk_drewN ?_ _ | refine blk_drew ?_ | refine blk_alloc ?_ _)); exact BK177.out⟩, ⟨by repeat (first | (with_reducible first | exact HB.out | apply below_alloc | apply pw_below_drewN | apply below_drew1 | refine below_set ?_ GE177.out) | exact HB.out)⟩⟩
    · rw [if_neg c5] at H
      have c5b0 : (a0_0.toList == ([] : List UInt8)) = false := beq_eq_false_iff_ne.mpr c5
      have c5e : a0_0.toList.isEmpty = false := by cases h_ : a0_0.toList with | nil => exact absurd h_ c5 | cons _ _ => rfl
      have c5b1 : (a0_0.toList != ([] : List UInt8)) = true := bne_iff_ne.mpr c5
      (first | rw [c5e] | rw [c5b0] | (simp only [i64_w, i32_w]; rw [c5b0]) | skip)
      by_cases c6 : ([] : List Int).length + a0_0.size < 140737488355328
      · rw [if_pos c6] at H
        have LMc6 := Aside0.mk c6
        clear c6
        obtain ⟨y178, hy178⟩ : ∃ y_ : List Int, y_ = (([] : List Int) ++ bytesOf a0_0) := ⟨_, rfl⟩
        replace H : (if y178.length < 140737488355328 then (tuple_Join.j0 k (y178 ++ [58]) a0_0 a0_1 a0_2 a0_3 a0_4 a0_5 a0_6 a0_7) else (none)) = some r := by first | (rw [hy178]; with_reducible exact H) | (have H2_ := (Option.bind_some _ _).symm.trans H; rw [hy178]; with_reducible exact H2_) | (have H2_ := (Option.bind_some _ _).symm.trans H; with_reducible exact H2_) | with_reducible exact H | (rw [hy178]; exact H) | exact H
        have Ny178 := Aside0.mk hy178
        clear hy178
        by_cases c7 : y178.length < 140737488355328
        · rw [if_pos c7] at H
          have LMc7 := Aside0.mk c7
          clear c7
          obtain ⟨y181, hy181⟩ : ∃ y_ : List Int, y_ = (y178 ++ [58]) := ⟨_, rfl⟩
          replace H : (tuple_Join.j0 k y181 a0_0 a0_1 a0_2 a0_3 a0_4 a0_5 a0_6 a0_7) = some r := by first | (rw [hy181]; with_reducible exact H) | (have H2_ := (Option.bind_some _ _).symm.trans H; rw [hy181]; with_reducible exact H2_) | (have H2_ := (Option.bind_some _ _).symm.trans H; with_reducible exact H2_) | with_reducible exact H | (rw [hy181]; exact H) | exact H
          have Ny181 := Aside0.mk hy181
          clear hy181
          have H' := Aside0.mk H
          clear H
          have hcz8_0 : w3.cell? ⟨gb177, 0, none⟩ = some (.string a0_0) := (blk_cell BK177.out 0).trans rfl
          have hcz8_1 : w3.cell? ⟨gb177, 1, none⟩ = some (.bool a0_1) := (blk_cell BK177.out 1).trans rfl
          have hcz8_2 : w3.cell? ⟨gb177, 2, none⟩ = some (.string a0_2) := (blk_cell BK177.out 2).trans rfl
          have hcz8_3 : w3.cell? ⟨gb177, 3, none⟩ = some (.string a0_3) := (blk_cell BK177.out 3).trans rfl
          have hcz8_4 : w3.cell? ⟨gb177, 4, none⟩ = some (.bool a0_4) := (blk_cell BK177.out 4).trans rfl
          have hcz8_5 : w3.cell? ⟨gb177, 5, none⟩ = some (.string a0_5) := (blk_cell BK177.out 5).trans rfl
          have hcz8_6 : w3.cell? ⟨gb177, 6, none⟩ = some (.bool a0_6) := (blk_cell BK177.out 6).trans rfl
          have hcz8_7 : w3.cell? ⟨gb177, 7, none⟩ = some (.string a0_7) := (blk_cell BK177.out 7).trans rfl
          have hfz8_0 := blk_frozen BK177.out 0
          have hfz8_1 := blk_frozen BK177.out 1
          have hfz8_2 := blk_frozen BK177.out 2
          have hfz8_3 := blk_frozen BK177.out 3
          have hfz8_4 := blk_frozen BK177.out 4
          have hfz8_5 := blk_frozen BK177.out 5
          have hfz8_6 := blk_frozen BK177.out 6
          have hfz8_7 := blk_frozen BK177.out 7
          go_wp2_with (first | (at_builtin; refine print_append_str (w0 := w) w.heap.size rfl (.tmp 7) _ 41 9 5 rfl Try.underlying41 Try.underlying9 info5 (.slice none 0 0) ([] : List Int) a0_0 rfl rfl ?aO ?aB ?aS ?aL ?_; (case aB => exact (by repeat (first | (with_reducible first | exact HB.out | apply below_alloc | apply pw_below_drewN | apply below_drew1 | refine below_set ?_ GE177.out) | exact HB.out))); (case aO => exact (World.ownsRow_nil _ _ _ _)); (case aS => exact (below_size (by repeat (first | (with_reducible first | exact HB.out | apply below_alloc | apply pw_below_drewN | apply below_drew1 | refine below_set ?_ GE177.out) | exact HB.out)))); (case aL => have h_ := LMc6.out; first | omega | (simp only [List.length_nil] at h_ ⊢; omega)); intro v179 w9 ho0 hb hg; have ho := Kd.R_of_own (h1 := fun _ => rfl) (ok := fun _ => True) ho0 (fun _ _ => trivial); clear ho0; have hat := True.intro; rw [← Ny178.out] at ho; change Kd.R (Kd.int .u8) 5 w9 w.heap.size (fun _ => True) v179 y178 at ho; have n0_ := Aside0.mk (blk_grown (g := gb177) (o := .cells #[.string a0_0, .bool a0_1, .string a0_2, .string a0_3, .bool a0_4, .string a0_5, .bool a0_6, .string a0_7] 23 (0, 0)) (by (with_reducible repeat (first | refine blk_drewN ?_ _ | refine blk_drew ?_ | refine blk_alloc ?_ _)); exact BK177.out) hg (by simp [Value.ownBlock])); have n1_ := Aside0.mk (hb); have n2_ := Aside0.mk (ho); clear BK177; clear HB; have BK177 := n0_; have HB := n1_; have HO180 := n2_; clear n0_ n1_ n2_; clear ho hb hg hat) | ((with_reducible refine gate_builtin (b := .append) (xs := #[.tmp 10, .tmp 11]) rfl ?_); at_builtin; refine Kd.R_append (Kd.int .u8) (w0 := w) w.heap.size rfl (.tmp 10) (.tmp 11) 41 5 (.int .u8 0) 1 rfl Try.underlying41 info5 rfl (by decide) (by omega) v179 y178 58 [.int .u8 58] (fun _ => True) (fun _ => False) rfl rfl ?aP (fun _ hk => hk.elim) ?aF ?aO ?aB ?aS ?aL ?_; (case aP => exact rfl); (case aB => exact (by repeat (first | (with_reducible first | exact HB.out | apply below_alloc | apply pw_below_drewN | apply below_drew1 | refine below_set ?_ GE177.out) | exact HB.out))); (case aF => exact (fun _ _ => trivial)); (case aO => exact (by (with_reducible repeat (first | apply Kd.R_alloc | apply Kd.R_drewN | apply Kd.R_drew)); exact HO180.out)); (case aS => exact (below_size (by repeat (first | (with_reducible first | exact HB.out | apply below_alloc | apply pw_below_drewN | apply below_drew1 | refine below_set ?_ GE177.out) | exact HB.out)))); (case aL => have h_ := LMc7.out; first | omega | (simp only [List.length_nil] at h_ ⊢; omega)); intro v182 w10 ho hb hg hat; rw [← Ny181.out] at ho; have n0_ := Aside0.mk (blk_grown (g := gb177) (o := .cells #[.string a0_0, .bool a0_1, .string a0_2, .string a0_3, .bool a0_4, .string a0_5, .bool a0_6, .string a0_7] 23 (0, 0)) (by (with_reducible repeat (first | refine blk_drewN ?_ _ | refine blk_drew ?_ | refine blk_alloc ?_ _)); exact BK177.out) hg (Kd.R_ne HO180.out BK177.out (by decide))); have n1_ := Aside0.mk (hb); have n2_ := Aside0.mk (ho); clear BK177; clear HB; clear HO180; have BK177 := n0_; have HB := n1_; have HO183 := n2_; clear n0_ n1_ n2_; clear ho hb hg hat))
          go_meet
          case rel => exact ⟨_, (y181), H', ⟨by first | omega | exact Nat.le_refl _⟩, ⟨by (with_reducible repeat (first | apply Kd.R_alloc | apply Kd.R_drewN | apply Kd.R_drew)); exact HO183.out⟩, ⟨by (with_reducible repeat (first | refine blk_drewN ?_ _ | refine blk_drew ?_ | refine blk_alloc ?_ _)); exact BK177.out⟩, ⟨by repeat (first | (with_reducible first | exact HB.out | apply below_alloc | apply pw_below_drewN | apply below_drew1 | refine below_set ?_ GE177.out) | exact HB.out)⟩⟩
        · rw [if_neg c7] at H
          exact absurd H (by simp)
      · rw [if_neg c6] at H
        exact absurd H (by simp)
  case rest =>
    clear HC2
    try clear c1
    try clear p2
    try clear c5
    try clear c5b0
    try clear c5b1
    try clear c6
    try clear c7
    try clear hcz4_0
    try clear hcz4_1
    try clear hcz4_2
    try clear hcz4_3
    try clear hcz4_4
    try clear hcz4_5
    try clear hcz4_6
    try clear hcz4_7
    try clear hcz8_0
    try clear hcz8_1
    try clear hcz8_2
    try clear hcz8_3
    try clear hcz8_4
    try clear hcz8_5
    try clear hcz8_6
    try clear hcz8_7
    try clear hfz4_0
    try clear hfz4_1
    try clear hfz4_2
    try clear hfz4_3
    try clear hfz4_4
    try clear hfz4_5
    try clear hfz4_6
    try clear hfz4_7
    try clear hfz8_0
    try clear hfz8_1
    try clear hfz8_2
    try clear hfz8_3
    try clear hfz8_4
    try clear hfz8_5
    try clear hfz8_6
    try clear hfz8_7
    obtain ⟨kq, x3_1, HA, HJ1, HO_3, BK177, HB⟩ := hcut
    cases kq with
    | zero => exact absurd HA.out (by simp [tuple_Join.j0])
    | succ kj1 =>
      have H := HA.out
      clear HA
      simp only [tuple_Join.j0] at H
      have HC11 := Aside0.mk H
      clear H
      have hcz12_0 : wc.cell? ⟨gb177, 0, none⟩ = some (.string a0_0) := (blk_cell BK177.out 0).trans rfl
      have hcz12_1 : wc.cell? ⟨gb177, 1, none⟩ = some (.bool a0_1) := (blk_cell BK177.out 1).trans rfl
      have hcz12_2 : wc.cell? ⟨gb177, 2, none⟩ = some (.string a0_2) := (blk_cell BK177.out 2).trans rfl
      have hcz12_3 : wc.cell? ⟨gb177, 3, none⟩ = some (.string a0_3) := (blk_cell BK177.out 3).trans rfl
      have hcz12_4 : wc.cell? ⟨gb177, 4, none⟩ = some (.bool a0_4) := (blk_cell BK177.out 4).trans rfl
      have hcz12_5 : wc.cell? ⟨gb177, 5, none⟩ = some (.string a0_5) := (blk_cell BK177.out 5).trans rfl
      have hcz12_6 : wc.cell? ⟨gb177, 6, none⟩ = some (.bool a0_6) := (blk_cell BK177.out 6).trans rfl
      have hcz12_7 : wc.cell? ⟨gb177, 7, none⟩ = some (.string a0_7) := (blk_cell BK177.out 7).trans rfl
      have hfz12_0 := blk_frozen BK177.out 0
      have hfz12_1 := blk_frozen BK177.out 1
      have hfz12_2 := blk_frozen BK177.out 2
      have hfz12_3 := blk_frozen BK177.out 3
      have hfz12_4 := blk_frozen BK177.out 4
      have hfz12_5 := blk_frozen BK177.out 5
      have hfz12_6 := blk_frozen BK177.out 6
      have hfz12_7 := blk_frozen BK177.out 7
      go_upto_if 14 with (fail)
      go_cut [3] (fun v3 wc => ∃ (kq : Nat) (x3_10 : List Int), Aside0 (tuple_Join.j1 kq x3_10 a0_0 a0_1 a0_2 a0_3 a0_4 a0_5 a0_6 a0_7 = some r) ∧ Aside0 (kq ≤ kj1) ∧ Aside0 (Kd.R (Kd.int .u8) 5 wc w.heap.size (fun _ => True) v3 x3_10) ∧ Aside0 (wc.heap[gb177]? = some (.cells #[.string a0_0, .bool a0_1, .string a0_2, .string a0_3, .bool a0_4, .string a0_5, .bool a0_6, .string a0_7] 23 (0, 0))) ∧ Aside0 (Below w.heap.size w wc))
      case first =>
        have H := HC11.out
        clear HC11
        by_cases c13 : a0_1 = true
        · subst c13
          have H1 : (if x3_1.length + 2 < 140737488355328 then ((some (x3_1 ++ bytesOf (⟨#[47, 47]⟩ : ByteArray) : List Int)).bind fun y184 => (if y184.length + a0_2.size < 140737488355328 then (tuple_Join.j1 kj1 (y184 ++ bytesOf a0_2) a0_0 true a0_2 a0_3 a0_4 a0_5 a0_6 a0_7) else (none))) else (none)) = some r := by rw [if_pos rfl] at H; exact H
          clear H
          have H := H1
          clear H1
          by_cases c14 : x3_1.length + 2 < 140737488355328
          · rw [if_pos c14] at H
            have LMc14 := Aside0.mk c14
            clear c14
            obtain ⟨y184, hy184⟩ : ∃ y_ : List Int, y_ = (x3_1 ++ bytesOf (⟨#[47, 47]⟩ : ByteArray)) := ⟨_, rfl⟩
            replace H : (if y184.length + a0_2.size < 140737488355328 then (tuple_Join.j1 kj1 (y184 ++ bytesOf a0_2) a0_0 true a0_2 a0_3 a0_4 a0_5 a0_6 a0_7) else (none)) = some r := by first | (rw [hy184]; with_reducible exact H) | (have H2_ := (Option.bind_some _ _).symm.trans H; rw [hy184]; with_reducible exact H2_) | (have H2_ := (Option.bind_some _ _).symm.trans H; with_reducible exact H2_) | with_reducible exact H | (rw [hy184]; exact H) | exact H
            have Ny184 := Aside0.mk hy184
            clear hy184
            by_cases c15 : y184.length + a0_2.size < 140737488355328
            · rw [if_pos c15] at H
              have LMc15 := Aside0.mk c15
              clear c15
              obtain ⟨y187, hy187⟩ : ∃ y_ : List Int, y_ = (y184 ++ bytesOf a0_2) := ⟨_, rfl⟩
              replace H : (tuple_Join.j1 kj1 y187 a0_0 true a0_2 a0_3 a0_4 a0_5 a0_6 a0_7) = some r := by first | (rw [hy187]; with_reducible exact H) | (have H2_ := (Option.bind_some _ _).symm.trans H; rw [hy187]; with_reducible exact H2_) | (have H2_ := (Option.bind_some _ _).symm.trans H; with_reducible exact H2_) | with_reducible exact H | (rw [hy187]; exact H) | exact H
              have Ny187 := Aside0.mk hy187
              clear hy187
              have H' := Aside0.mk H
              clear H
              try go_wp2
              have n0_ := Aside0.mk (Kd.R_drew HO_3.out)
              have n1_ := Aside0.mk (blk_drew BK177.out)
              have n2_ := Aside0.mk (below_drew1 HB.out)
              clear HO_3
              clear BK177
              clear HB
              have HO_3 := n0_
              have BK177 := n1_
              have HB := n2_
              clear n0_ n1_ n2_
              refine start_ (n := 6) (S := fun w' => w'.cell? ⟨gb177, 0, none⟩ = some (.string a0_0) ∧ w'.cell? ⟨gb177, 1, none⟩ = some (.bool true) ∧ w'.cell? ⟨gb177, 2, none⟩ = some (.string a0_2) ∧ w'.cell? ⟨gb177, 3, none⟩ = some (.string a0_3) ∧ w'.cell? ⟨gb177, 4, none⟩ = some (.bool a0_4) ∧ w'.cell? ⟨gb177, 5, none⟩ = some (.string a0_5) ∧ w'.cell? ⟨gb177, 6, none⟩ = some (.bool a0_6) ∧ w'.cell? ⟨gb177, 7, none⟩ = some (.string a0_7)) (ds := []) #[false,false,false,false,false,false] (by kernel_rfl) rfl rfl ⟨(blk_cell BK177.out 0).trans rfl, (blk_cell BK177.out 1).trans rfl, (blk_cell BK177.out 2).trans rfl, (blk_cell BK177.out 3).trans rfl, (blk_cell BK177.out 4).trans rfl, (blk_cell BK177.out 5).trans rfl, (blk_cell BK177.out 6).trans rfl, (blk_cell BK177.out 7).trans rfl⟩ (fun hHeld => ?_)
              generalize wc.drew = w16 at HO_3 BK177 HB hHeld ⊢
              refine pure_ (i := 0) (N := some 15) (v := ?_) (a' := ?_) #[true,false,false,false,false,false] rfl rfl (by kernel_rfl) (fun _ _ _ h => h) (Or.inl ⟨by rfl, ?_⟩) ?_ ?_
              rotate_left
              · intro w'
                go_simp
                with_reducible rfl
              rotate_left
              · simp only [Act.put, List.setIfInBounds_toArray, List.set_cons_zero, List.set_cons_succ, i64_w, i32_w]
                rfl
              refine pure_ (i := 2) (N := some 17) (v := ?_) (a' := ?_) #[true,false,true,false,false,false] rfl rfl (by kernel_rfl) (fun _ _ _ h => h) (Or.inl ⟨by rfl, ?_⟩) ?_ ?_
              rotate_left
              · intro w'
                go_simp
                with_reducible rfl
              rotate_left
              · simp only [Act.put, List.setIfInBounds_toArray, List.set_cons_zero, List.set_cons_succ, i64_w, i32_w]
                rfl
              refine take_ (i := 3) (N := some 18) (v := ?_) (a' := ?_) #[true,false,true,true,false,false] rfl rfl (by kernel_rfl) (fun _ _ _ h => h) (Or.inl ⟨by rfl, ?_⟩) hHeld ?_ ?_
              rotate_left
              · rintro w' ⟨s0, s1, s2, s3, s4, s5, s6, s7⟩
                go_simp
                with_reducible rfl
              rotate_left
              · simp only [Act.put, List.setIfInBounds_toArray, List.set_cons_zero, List.set_cons_succ, i64_w, i32_w]
                rfl
              refine one_ (i := 1) (N := some 16) #[true,true,true,true,false,false] rfl rfl (by kernel_rfl) (by decide) (fun K hK => ?_)
              refine step_append_str (w0 := w) w.heap.size (by rfl) (.tmp 15) _ 41 9 5 rfl Try.underlying41 Try.underlying9 info5 u3 x3_1 (⟨#[47, 47]⟩ : ByteArray) rfl rfl ?aO ?aB ?aS ?aL ?_
              (case aB => exact (by repeat (first | (with_reducible first | exact HB.out | apply below_alloc | apply pw_below_drewN | apply below_drew1 | refine below_set ?_ GE177.out) | exact HB.out)))
              (case aO => exact (Kd.own_of_R (by (with_reducible repeat (first | apply Kd.R_alloc | apply Kd.R_drewN | apply Kd.R_drew)); exact HO_3.out)))
              (case aS => exact (below_size (by repeat (first | (with_reducible first | exact HB.out | apply below_alloc | apply pw_below_drewN | apply below_drew1 | refine below_set ?_ GE177.out) | exact HB.out))))
              (case aL => have := LMc14.out; have hz_ : (⟨#[47, 47]⟩ : ByteArray).size = 2 := rfl; omega)
              intro v185 w17 ho0 hb hg
              have ho := Kd.R_of_own (h1 := fun _ => rfl) (ok := fun _ => True) ho0 (fun _ _ => trivial)
              clear ho0
              have hat := True.intro
              rw [← Ny184.out] at ho
              change Kd.R (Kd.int .u8) 5 w17 w.heap.size (fun _ => True) v185 y184 at ho
              have n0_ := Aside0.mk (blk_grown (g := gb177) (o := .cells #[.string a0_0, .bool true, .string a0_2, .string a0_3, .bool a0_4, .string a0_5, .bool a0_6, .string a0_7] 23 (0, 0)) (by (with_reducible repeat (first | refine blk_drewN ?_ _ | refine blk_drew ?_ | refine blk_alloc ?_ _)); exact BK177.out) hg (Kd.R_ne HO_3.out BK177.out (by decide)))
              have n1_ := Aside0.mk (hb)
              have n2_ := Aside0.mk (ho)
              clear BK177
              clear HB
              clear HO_3
              have BK177 := n0_
              have HB := n1_
              have HO186 := n2_
              clear n0_ n1_ n2_
              clear ho hb hg hat
              refine hK.out _ _ ⟨(blk_cell BK177.out 0).trans rfl, (blk_cell BK177.out 1).trans rfl, (blk_cell BK177.out 2).trans rfl, (blk_cell BK177.out 3).trans rfl, (blk_cell BK177.out 4).trans rfl, (blk_cell BK177.out 5).trans rfl, (blk_cell BK177.out 6).trans rfl, (blk_cell BK177.out 7).trans rfl⟩ (fun hHeld => ?_)
              clear hK K
              refine norm_ (a' := ?_) ?_ ?_
              rotate_left
              · show Act.put _ (some 16) _ = _
                simp only [Act.put, List.setIfInBounds_toArray, List.set_cons_zero, List.set_cons_succ, i64_w, i32_w]
                rfl
              refine one_ (i := 4) (N := some 19) #[true,true,true,true,true,false] rfl rfl (by kernel_rfl) (by decide) (fun K hK => ?_)
              refine step_append_str (w0 := w) w.heap.size (by rfl) (.tmp 16) _ 41 9 5 rfl Try.underlying41 Try.underlying9 info5 v185 y184 a0_2 rfl rfl ?aO ?aB ?aS ?aL ?_
              (case aB => exact (by repeat (first | (with_reducible first | exact HB.out | apply below_alloc | apply pw_below_drewN | apply below_drew1 | refine below_set ?_ GE177.out) | exact HB.out)))
              (case aO => exact (Kd.own_of_R (by (with_reducible repeat (first | apply Kd.R_alloc | apply Kd.R_drewN | apply Kd.R_drew)); exact HO186.out)))
              (case aS => exact (below_size (by repeat (first | (with_reducible first | exact HB.out | apply below_alloc | apply pw_below_drewN | apply below_drew1 | refine below_set ?_ GE177.out) | exact HB.out))))
              (case aL => have h_ := LMc15.out; first | omega | (simp only [List.length_nil] at h_ ⊢; omega))
              intro v188 w18 ho0 hb hg
              have ho := Kd.R_of_own (h1 := fun _ => rfl) (ok := fun _ => True) ho0 (fun _ _ => trivial)
              clear ho0
              have hat := True.intro
              rw [← Ny187.out] at ho
              change Kd.R (Kd.int .u8) 5 w18 w.heap.size (fun _ => True) v188 y187 at ho
              have n0_ := Aside0.mk (blk_grown (g := gb177) (o := .cells #[.string a0_0, .bool true, .string a0_2, .string a0_3, .bool a0_4, .string a0_5, .bool a0_6, .string a0_7] 23 (0, 0)) (by (with_reducible repeat (first | refine blk_drewN ?_ _ | refine blk_drew ?_ | refine blk_alloc ?_ _)); exact BK177.out) hg (Kd.R_ne HO186.out BK177.out (by decide)))
              have n1_ := Aside0.mk (hb)
              have n2_ := Aside0.mk (ho)
              clear BK177
              clear HB
              clear HO186
              have BK177 := n0_
              have HB := n1_
              have HO189 := n2_
              clear n0_ n1_ n2_
              clear ho hb hg hat
              refine hK.out _ _ ⟨(blk_cell BK177.out 0).trans rfl, (blk_cell BK177.out 1).trans rfl, (blk_cell BK177.out 2).trans rfl, (blk_cell BK177.out 3).trans rfl, (blk_cell BK177.out 4).trans rfl, (blk_cell BK177.out 5).trans rfl, (blk_cell BK177.out 6).trans rfl, (blk_cell BK177.out 7).trans rfl⟩ (fun hHeld => ?_)
              clear hK K
              refine norm_ (a' := ?_) ?_ ?_
              rotate_left
              · show Act.put _ (some 19) _ = _
                simp only [Act.put, List.setIfInBounds_toArray, List.set_cons_zero, List.set_cons_succ, i64_w, i32_w]
                rfl
              refine pure_ (i := 5) (N := some 3) (v := ?_) (a' := ?_) #[true,true,true,true,true,true] rfl rfl (by kernel_rfl) (fun _ _ _ h => h) (Or.inl ⟨by rfl, ?_⟩) ?_ ?_
              rotate_left
              · intro w'
                go_simp
                with_reducible rfl
              rotate_left
              · simp only [Act.put, List.setIfInBounds_toArray, List.set_cons_zero, List.set_cons_succ, i64_w, i32_w]
                rfl
              refine done_ (by kernel_rfl) ?_
              try go_wp2
              go_meet
              case rel => exact ⟨_, (y187), H', ⟨by have := HJ1.out; first | omega | exact Nat.le_refl _⟩, ⟨by (with_reducible repeat (first | apply Kd.R_alloc | apply Kd.R_drewN | apply Kd.R_drew)); exact HO189.out⟩, ⟨by (with_reducible repeat (first | refine blk_drewN ?_ _ | refine blk_drew ?_ | refine blk_alloc ?_ _)); exact BK177.out⟩, ⟨by repeat (first | (with_reducible first | exact HB.out | apply below_alloc | apply pw_below_drewN | apply below_drew1 | refine below_set ?_ GE177.out) | exact HB.out)⟩⟩
            · rw [if_neg c15] at H
              exact absurd H (by simp)
          · rw [if_neg c14] at H
            exact absurd H (by simp)
        · replace c13 := Bool.eq_false_iff.mpr c13
          subst c13
          have H1 : (tuple_Join.j1 kj1 x3_1 a0_0 false a0_2 a0_3 a0_4 a0_5 a0_6 a0_7) = some r := by rw [if_neg (show ¬ (false = true) by decide)] at H; exact H
          clear H
          have H := H1
          clear H1
          have H' := Aside0.mk H
          clear H
          go_wp2
          go_meet
          case rel => exact ⟨_, (x3_1), H', ⟨by have := HJ1.out; first | omega | exact Nat.le_refl _⟩, ⟨by (with_reducible repeat (first | apply Kd.R_alloc | apply Kd.R_drewN | apply Kd.R_drew)); exact HO_3.out⟩, ⟨by (with_reducible repeat (first | refine blk_drewN ?_ _ | refine blk_drew ?_ | refine blk_alloc ?_ _)); exact BK177.out⟩, ⟨by repeat (first | (with_reducible first | exact HB.out | apply below_alloc | apply pw_below_drewN | apply below_drew1 | refine below_set ?_ GE177.out) | exact HB.out)⟩⟩
      case rest =>
        clear HC11
        try clear c1
        try clear p2
        try clear c5
        try clear c5b0
        try clear c5b1
        try clear c6
        try clear c7
        try clear c13
        try clear c14
        try clear c15
        try clear c16
        try clear hcz12_0
        try clear hcz12_1
        try clear hcz12_2
        try clear hcz12_3
        try clear hcz12_4
        try clear hcz12_5
        try clear hcz12_6
        try clear hcz12_7
        try clear hcz4_0
        try clear hcz4_1
        try clear hcz4_2
        try clear hcz4_3
        try clear hcz4_4
        try clear hcz4_5
        try clear hcz4_6
        try clear hcz4_7
        try clear hcz8_0
        try clear hcz8_1
        try clear hcz8_2
        try clear hcz8_3
        try clear hcz8_4
        try clear hcz8_5
        try clear hcz8_6
        try clear hcz8_7
        try clear hfz12_0
        try clear hfz12_1
        try clear hfz12_2
        try clear hfz12_3
        try clear hfz12_4
        try clear hfz12_5
        try clear hfz12_6
        try clear hfz12_7
        try clear hfz4_0
        try clear hfz4_1
        try clear hfz4_2
        try clear hfz4_3
        try clear hfz4_4
        try clear hfz4_5
        try clear hfz4_6
        try clear hfz4_7
        try clear hfz8_0
        try clear hfz8_1
        try clear hfz8_2
        try clear hfz8_3
        try clear hfz8_4
        try clear hfz8_5
        try clear hfz8_6
        try clear hfz8_7
        try clear p2
        obtain ⟨kq, x3_10, HA, HJ10, HO_3, BK177, HB⟩ := hcut
        cases kq with
        | zero => exact absurd HA.out (by simp [tuple_Join.j1])
        | succ kj10 =>
          have H := HA.out
          clear HA
          simp only [tuple_Join.j1] at H
          by_cases c19 : x3_10.length + a0_3.size < 140737488355328
          · rw [if_pos c19] at H
            have LMc19 := Aside0.mk c19
            clear c19
            obtain ⟨y190, hy190⟩ : ∃ y_ : List Int, y_ = (x3_10 ++ bytesOf a0_3) := ⟨_, rfl⟩
            replace H : (if a0_4 = true then (if y190.length < 140737488355328 then ((some (y190 ++ [63] : List Int)).bind fun y193 => (if y193.length + a0_5.size < 140737488355328 then ((some (y193 ++ bytesOf a0_5 : List Int)).bind fun y196 => (if a0_6 = true then (if y196.length < 140737488355328 then ((some (y196 ++ [35] : List Int)).bind fun y199 => (if y199.length + a0_7.size < 140737488355328 then (some (strOfNums (y199 ++ bytesOf a0_7))) else (none))) else (none)) else (some (strOfNums y196)))) else (none))) else (none)) else (if a0_6 = true then (if y190.length < 140737488355328 then ((some (y190 ++ [35] : List Int)).bind fun y205 => (if y205.length + a0_7.size < 140737488355328 then (some (strOfNums (y205 ++ bytesOf a0_7))) else (none))) else (none)) else (some (strOfNums y190)))) = some r := by first | (rw [hy190]; with_reducible exact H) | (have H2_ := (Option.bind_some _ _).symm.trans H; rw [hy190]; with_reducible exact H2_) | (have H2_ := (Option.bind_some _ _).symm.trans H; with_reducible exact H2_) | with_reducible exact H | (rw [hy190]; exact H) | exact H
            have Ny190 := Aside0.mk hy190
            clear hy190
            by_cases c20 : a0_4 = true
            · subst c20
              have H1 : (if y190.length < 140737488355328 then ((some (y190 ++ [63] : List Int)).bind fun y193 => (if y193.length + a0_5.size < 140737488355328 then ((some (y193 ++ bytesOf a0_5 : List Int)).bind fun y196 => (if a0_6 = true then (if y196.length < 140737488355328 then ((some (y196 ++ [35] : List Int)).bind fun y199 => (if y199.length + a0_7.size < 140737488355328 then (some (strOfNums (y199 ++ bytesOf a0_7))) else (none))) else (none)) else (some (strOfNums y196)))) else (none))) else (none)) = some r := by rw [if_pos rfl] at H; exact H
              clear H
              have H := H1
              clear H1
              by_cases c21 : y190.length < 140737488355328
              · rw [if_pos c21] at H
                have LMc21 := Aside0.mk c21
                clear c21
                obtain ⟨y193, hy193⟩ : ∃ y_ : List Int, y_ = (y190 ++ [63]) := ⟨_, rfl⟩
                replace H : (if y193.length + a0_5.size < 140737488355328 then ((some (y193 ++ bytesOf a0_5 : List Int)).bind fun y196 => (if a0_6 = true then (if y196.length < 140737488355328 then ((some (y196 ++ [35] : List Int)).bind fun y199 => (if y199.length + a0_7.size < 140737488355328 then (some (strOfNums (y199 ++ bytesOf a0_7))) else (none))) else (none)) else (some (strOfNums y196)))) else (none)) = some r := by first | (rw [hy193]; with_reducible exact H) | (have H2_ := (Option.bind_some _ _).symm.trans H; rw [hy193]; with_reducible exact H2_) | (have H2_ := (Option.bind_some _ _).symm.trans H; with_reducible exact H2_) | with_reducible exact H | (rw [hy193]; exact H) | exact H
                have Ny193 := Aside0.mk hy193
                clear hy193
                by_cases c22 : y193.length + a0_5.size < 140737488355328
                · rw [if_pos c22] at H
                  have LMc22 := Aside0.mk c22
                  clear c22
                  obtain ⟨y196, hy196⟩ : ∃ y_ : List Int, y_ = (y193 ++ bytesOf a0_5) := ⟨_, rfl⟩
                  replace H : (if a0_6 = true then (if y196.length < 140737488355328 then ((some (y196 ++ [35] : List Int)).bind fun y199 => (if y199.length + a0_7.size < 140737488355328 then (some (strOfNums (y199 ++ bytesOf a0_7))) else (none))) else (none)) else (some (strOfNums y196))) = some r := by first | (rw [hy196]; with_reducible exact H) | (have H2_ := (Option.bind_some _ _).symm.trans H; rw [hy196]; with_reducible exact H2_) | (have H2_ := (Option.bind_some _ _).symm.trans H; with_reducible exact H2_) | with_reducible exact H | (rw [hy196]; exact H) | exact H
                  have Ny196 := Aside0.mk hy196
                  clear hy196
                  by_cases c23 : a0_6 = true
                  · subst c23
                    have H1 : (if y196.length < 140737488355328 then ((some (y196 ++ [35] : List Int)).bind fun y199 => (if y199.length + a0_7.size < 140737488355328 then (some (strOfNums (y199 ++ bytesOf a0_7))) else (none))) else (none)) = some r := by rw [if_pos rfl] at H; exact H
                    clear H
                    have H := H1
                    clear H1
                    by_cases c24 : y196.length < 140737488355328
                    · rw [if_pos c24] at H
                      have LMc24 := Aside0.mk c24
                      clear c24
                      obtain ⟨y199, hy199⟩ : ∃ y_ : List Int, y_ = (y196 ++ [35]) := ⟨_, rfl⟩
                      replace H : (if y199.length + a0_7.size < 140737488355328 then (some (strOfNums (y199 ++ bytesOf a0_7))) else (none)) = some r := by first | (rw [hy199]; with_reducible exact H) | (have H2_ := (Option.bind_some _ _).symm.trans H; rw [hy199]; with_reducible exact H2_) | (have H2_ := (Option.bind_some _ _).symm.trans H; with_reducible exact H2_) | with_reducible exact H | (rw [hy199]; exact H) | exact H
                      have Ny199 := Aside0.mk hy199
                      clear hy199
                      by_cases c25 : y199.length + a0_7.size < 140737488355328
                      · rw [if_pos c25] at H
                        have LMc25 := Aside0.mk c25
                        clear c25
                        obtain ⟨y202, hy202⟩ : ∃ y_ : List Int, y_ = (y199 ++ bytesOf a0_7) := ⟨_, rfl⟩
                        replace H : (some (strOfNums y202)) = some r := by first | (rw [hy202]; with_reducible exact H) | (have H2_ := (Option.bind_some _ _).symm.trans H; rw [hy202]; with_reducible exact H2_) | (have H2_ := (Option.bind_some _ _).symm.trans H; with_reducible exact H2_) | with_reducible exact H | (rw [hy202]; exact H) | exact H
                        have Ny202 := Aside0.mk hy202
                        clear hy202
                        obtain rfl := Option.some.inj H
                        have hcz26_0 : wc.cell? ⟨gb177, 0, none⟩ = some (.string a0_0) := (blk_cell BK177.out 0).trans rfl
                        have hcz26_1 : wc.cell? ⟨gb177, 1, none⟩ = some (.bool a0_1) := (blk_cell BK177.out 1).trans rfl
                        have hcz26_2 : wc.cell? ⟨gb177, 2, none⟩ = some (.string a0_2) := (blk_cell BK177.out 2).trans rfl
                        have hcz26_3 : wc.cell? ⟨gb177, 3, none⟩ = some (.string a0_3) := (blk_cell BK177.out 3).trans rfl
                        have hcz26_4 : wc.cell? ⟨gb177, 4, none⟩ = some (.bool true) := (blk_cell BK177.out 4).trans rfl
                        have hcz26_5 : wc.cell? ⟨gb177, 5, none⟩ = some (.string a0_5) := (blk_cell BK177.out 5).trans rfl
                        have hcz26_6 : wc.cell? ⟨gb177, 6, none⟩ = some (.bool true) := (blk_cell BK177.out 6).trans rfl
                        have hcz26_7 : wc.cell? ⟨gb177, 7, none⟩ = some (.string a0_7) := (blk_cell BK177.out 7).trans rfl
                        have hfz26_0 := blk_frozen BK177.out 0
                        have hfz26_1 := blk_frozen BK177.out 1
                        have hfz26_2 := blk_frozen BK177.out 2
                        have hfz26_3 := blk_frozen BK177.out 3
                        have hfz26_4 := blk_frozen BK177.out 4
                        have hfz26_5 := blk_frozen BK177.out 5
                        have hfz26_6 := blk_frozen BK177.out 6
                        have hfz26_7 := blk_frozen BK177.out 7
                        try go_wp2_with (first | (at_builtin; refine print_append_str (w0 := w) w.heap.size rfl (.tmp 20) _ 41 9 5 rfl Try.underlying41 Try.underlying9 info5 u3 x3_10 a0_3 rfl rfl ?aO ?aB ?aS ?aL ?_; (case aB => exact (by repeat (first | (with_reducible first | exact HB.out | apply below_alloc | apply pw_below_drewN | apply below_drew1 | refine below_set ?_ GE177.out) | exact HB.out))); (case aO => exact (Kd.own_of_R (by (with_reducible repeat (first | apply Kd.R_alloc | apply Kd.R_drewN | apply Kd.R_drew)); exact HO_3.out))); (case aS => exact (below_size (by repeat (first | (with_reducible first | exact HB.out | apply below_alloc | apply pw_below_drewN | apply below_drew1 | refine below_set ?_ GE177.out) | exact HB.out)))); (case aL => have h_ := LMc19.out; first | omega | (simp only [List.length_nil] at h_ ⊢; omega)); intro v191 w27 ho0 hb hg; have ho := Kd.R_of_own (h1 := fun _ => rfl) (ok := fun _ => True) ho0 (fun _ _ => trivial); clear ho0; have hat := True.intro; rw [← Ny190.out] at ho; change Kd.R (Kd.int .u8) 5 w27 w.heap.size (fun _ => True) v191 y190 at ho; have n0_ := Aside0.mk (blk_grown (g := gb177) (o := .cells #[.string a0_0, .bool a0_1, .string a0_2, .string a0_3, .bool true, .string a0_5, .bool true, .string a0_7] 23 (0, 0)) (by (with_reducible repeat (first | refine blk_drewN ?_ _ | refine blk_drew ?_ | refine blk_alloc ?_ _)); exact BK177.out) hg (Kd.R_ne HO_3.out BK177.out (by decide))); have n1_ := Aside0.mk (hb); have n2_ := Aside0.mk (ho); clear BK177; clear HB; clear HO_3; have BK177 := n0_; have HB := n1_; have HO192 := n2_; clear n0_ n1_ n2_; clear ho hb hg hat; have hcz28_0 : w27.cell? ⟨gb177, 0, none⟩ = some (.string a0_0) := (blk_cell BK177.out 0).trans rfl; have hcz28_1 : w27.cell? ⟨gb177, 1, none⟩ = some (.bool a0_1) := (blk_cell BK177.out 1).trans rfl; have hcz28_2 : w27.cell? ⟨gb177, 2, none⟩ = some (.string a0_2) := (blk_cell BK177.out 2).trans rfl; have hcz28_3 : w27.cell? ⟨gb177, 3, none⟩ = some (.string a0_3) := (blk_cell BK177.out 3).trans rfl; have hcz28_4 : w27.cell? ⟨gb177, 4, none⟩ = some (.bool true) := (blk_cell BK177.out 4).trans rfl; have hcz28_5 : w27.cell? ⟨gb177, 5, none⟩ = some (.string a0_5) := (blk_cell BK177.out 5).trans rfl; have hcz28_6 : w27.cell? ⟨gb177, 6, none⟩ = some (.bool true) := (blk_cell BK177.out 6).trans rfl; have hcz28_7 : w27.cell? ⟨gb177, 7, none⟩ = some (.string a0_7) := (blk_cell BK177.out 7).trans rfl; have hfz28_0 := blk_frozen BK177.out 0; have hfz28_1 := blk_frozen BK177.out 1; have hfz28_2 := blk_frozen BK177.out 2; have hfz28_3 := blk_frozen BK177.out 3; have hfz28_4 := blk_frozen BK177.out 4; have hfz28_5 := blk_frozen BK177.out 5; have hfz28_6 := blk_frozen BK177.out 6; have hfz28_7 := blk_frozen BK177.out 7))
                        have n0_ := Aside0.mk (Kd.R_drew HO192.out)
                        have n1_ := Aside0.mk (blk_drew BK177.out)
                        have n2_ := Aside0.mk (below_drew1 HB.out)
                        clear HO192
                        clear BK177
                        clear HB
                        have HO192 := n0_
                        have BK177 := n1_
                        have HB := n2_
                        clear n0_ n1_ n2_
                        refine start_ (n := 7) (S := fun w' => w'.cell? ⟨gb177, 0, none⟩ = some (.string a0_0) ∧ w'.cell? ⟨gb177, 1, none⟩ = some (.bool a0_1) ∧ w'.cell? ⟨gb177, 2, none⟩ = some (.string a0_2) ∧ w'.cell? ⟨gb177, 3, none⟩ = some (.string a0_3) ∧ w'.cell? ⟨gb177, 4, none⟩ = some (.bool true) ∧ w'.cell? ⟨gb177, 5, none⟩ = some (.string a0_5) ∧ w'.cell? ⟨gb177, 6, none⟩ = some (.bool true) ∧ w'.cell? ⟨gb177, 7, none⟩ = some (.string a0_7)) (ds := []) #[false,false,false,false,false,false,false] (by kernel_rfl) rfl rfl ⟨(blk_cell BK177.out 0).trans rfl, (blk_cell BK177.out 1).trans rfl, (blk_cell BK177.out 2).trans rfl, (blk_cell BK177.out 3).trans rfl, (blk_cell BK177.out 4).trans rfl, (blk_cell BK177.out 5).trans rfl, (blk_cell BK177.out 6).trans rfl, (blk_cell BK177.out 7).trans rfl⟩ (fun hHeld => ?_)
                        generalize w27.drew = w29 at HO192 BK177 HB hHeld ⊢
                        refine pure_ (i := 0) (N := some 26) (v := ?_) (a' := ?_) #[true,false,false,false,false,false,false] rfl rfl (by kernel_rfl) (fun _ _ _ h => h) (Or.inl ⟨by rfl, ?_⟩) ?_ ?_
                        rotate_left
                        · intro w'
                          go_simp
                          with_reducible rfl
                        rotate_left
                        · simp only [Act.put, List.setIfInBounds_toArray, List.set_cons_zero, List.set_cons_succ, i64_w, i32_w]
                          rfl
                        refine pure_ (i := 3) (N := some 29) (v := ?_) (a' := ?_) #[true,false,false,true,false,false,false] rfl rfl (by kernel_rfl) (fun _ _ _ h => h) (Or.inl ⟨by rfl, ?_⟩) ?_ ?_
                        rotate_left
                        · intro w'
                          go_simp
                          with_reducible rfl
                        rotate_left
                        · simp only [Act.put, List.setIfInBounds_toArray, List.set_cons_zero, List.set_cons_succ, i64_w, i32_w]
                          rfl
                        refine take_ (i := 4) (N := some 30) (v := ?_) (a' := ?_) #[true,false,false,true,true,false,false] rfl rfl (by kernel_rfl) (fun _ _ _ h => h) (Or.inl ⟨by rfl, ?_⟩) hHeld ?_ ?_
                        rotate_left
                        · rintro w' ⟨s0, s1, s2, s3, s4, s5, s6, s7⟩
                          go_simp
                          with_reducible rfl
                        rotate_left
                        · simp only [Act.put, List.setIfInBounds_toArray, List.set_cons_zero, List.set_cons_succ, i64_w, i32_w]
                          rfl
                        refine one_ (i := 1) (N := some 27) #[true,true,false,true,true,false,false] rfl rfl (by kernel_rfl) (by decide) (fun K hK => ?_)
                        refine value_ (w1 := ?_) (v := ?_) (by rfl) rfl ?_ ?_
                        rotate_left 2
                        · go_simp
                          constructor
                          · rfl
                          · rfl
                        refine hK.out _ _ ⟨(blk_cell (blk_alloc BK177.out _) 0).trans rfl, (blk_cell (blk_alloc BK177.out _) 1).trans rfl, (blk_cell (blk_alloc BK177.out _) 2).trans rfl, (blk_cell (blk_alloc BK177.out _) 3).trans rfl, (blk_cell (blk_alloc BK177.out _) 4).trans rfl, (blk_cell (blk_alloc BK177.out _) 5).trans rfl, (blk_cell (blk_alloc BK177.out _) 6).trans rfl, (blk_cell (blk_alloc BK177.out _) 7).trans rfl⟩ (fun hHeld => ?_)
                        clear hK K
                        refine norm_ (a' := ?_) ?_ ?_
                        rotate_left
                        · show Act.put _ (some 27) _ = _
                          simp only [Act.put, List.setIfInBounds_toArray, List.set_cons_zero, List.set_cons_succ, i64_w, i32_w]
                          rfl
                        refine one_ (i := 2) (N := some 28) #[true,true,true,true,true,false,false] rfl rfl (by kernel_rfl) (by decide) (fun K hK => ?_)
                        refine Kd.R_append_step (Kd.int .u8) (w0 := w) w.heap.size (by rfl) (.tmp 26) (.tmp 27) 41 5 (.int .u8 0) 1 rfl Try.underlying41 info5 rfl (by decide) (by omega) v191 y190 63 [.int .u8 63] (fun _ => True) (fun _ => False) rfl rfl ?aP (fun _ hk => hk.elim) ?aF ?aO ?aB ?aS ?aL ?_
                        (case aP => exact rfl)
                        (case aB => exact (by repeat (first | (with_reducible first | exact HB.out | apply below_alloc | apply pw_below_drewN | apply below_drew1 | refine below_set ?_ GE177.out) | exact HB.out)))
                        (case aF => exact (fun _ _ => trivial))
                        (case aO => exact (by (with_reducible repeat (first | apply Kd.R_alloc | apply Kd.R_drewN | apply Kd.R_drew)); exact HO192.out))
                        (case aS => exact (below_size (by repeat (first | (with_reducible first | exact HB.out | apply below_alloc | apply pw_below_drewN | apply below_drew1 | refine below_set ?_ GE177.out) | exact HB.out))))
                        (case aL => have h_ := LMc21.out; first | omega | (simp only [List.length_nil] at h_ ⊢; omega))
                        intro v194 w30 ho hb hg hat
                        rw [← Ny193.out] at ho
                        have n0_ := Aside0.mk (blk_grown (g := gb177) (o := .cells #[.string a0_0, .bool a0_1, .string a0_2, .string a0_3, .bool true, .string a0_5, .bool true, .string a0_7] 23 (0, 0)) (by (with_reducible repeat (first | refine blk_drewN ?_ _ | refine blk_drew ?_ | refine blk_alloc ?_ _)); exact BK177.out) hg (Kd.R_ne HO192.out BK177.out (by decide)))
                        have n1_ := Aside0.mk (hb)
                        have n2_ := Aside0.mk (ho)
                        clear BK177
                        clear HB
                        clear HO192
                        have BK177 := n0_
                        have HB := n1_
                        have HO195 := n2_
                        clear n0_ n1_ n2_
                        clear ho hb hg hat
                        refine hK.out _ _ ⟨(blk_cell BK177.out 0).trans rfl, (blk_cell BK177.out 1).trans rfl, (blk_cell BK177.out 2).trans rfl, (blk_cell BK177.out 3).trans rfl, (blk_cell BK177.out 4).trans rfl, (blk_cell BK177.out 5).trans rfl, (blk_cell BK177.out 6).trans rfl, (blk_cell BK177.out 7).trans rfl⟩ (fun hHeld => ?_)
                        clear hK K
                        refine norm_ (a' := ?_) ?_ ?_
                        rotate_left
                        · show Act.put _ (some 28) _ = _
                          simp only [Act.put, List.setIfInBounds_toArray, List.set_cons_zero, List.set_cons_succ, i64_w, i32_w]
                          rfl
                        refine one_ (i := 5) (N := some 31) #[true,true,true,true,true,true,false] rfl rfl (by kernel_rfl) (by decide) (fun K hK => ?_)
                        refine step_append_str (w0 := w) w.heap.size (by rfl) (.tmp 28) _ 41 9 5 rfl Try.underlying41 Try.underlying9 info5 v194 y193 a0_5 rfl rfl ?aO ?aB ?aS ?aL ?_
                        (case aB => exact (by repeat (first | (with_reducible first | exact HB.out | apply below_alloc | apply pw_below_drewN | apply below_drew1 | refine below_set ?_ GE177.out) | exact HB.out)))
                        (case aO => exact (Kd.own_of_R (by (with_reducible repeat (first | apply Kd.R_alloc | apply Kd.R_drewN | apply Kd.R_drew)); exact HO195.out)))
                        (case aS => exact (below_size (by repeat (first | (with_reducible first | exact HB.out | apply below_alloc | apply pw_below_drewN | apply below_drew1 | refine below_set ?_ GE177.out) | exact HB.out))))
                        (case aL => have h_ := LMc22.out; first | omega | (simp only [List.length_nil] at h_ ⊢; omega))
                        intro v197 w31 ho0 hb hg
                        have ho := Kd.R_of_own (h1 := fun _ => rfl) (ok := fun _ => True) ho0 (fun _ _ => trivial)
                        clear ho0
                        have hat := True.intro
                        rw [← Ny196.out] at ho
                        change Kd.R (Kd.int .u8) 5 w31 w.heap.size (fun _ => True) v197 y196 at ho
                        have n0_ := Aside0.mk (blk_grown (g := gb177) (o := .cells #[.string a0_0, .bool a0_1, .string a0_2, .string a0_3, .bool true, .string a0_5, .bool true, .string a0_7] 23 (0, 0)) (by (with_reducible repeat (first | refine blk_drewN ?_ _ | refine blk_drew ?_ | refine blk_alloc ?_ _)); exact BK177.out) hg (Kd.R_ne HO195.out BK177.out (by decide)))
                        have n1_ := Aside0.mk (hb)
                        have n2_ := Aside0.mk (ho)
                        clear BK177
                        clear HB
                        clear HO195
                        have BK177 := n0_
                        have HB := n1_
                        have HO198 := n2_
                        clear n0_ n1_ n2_
                        clear ho hb hg hat
                        refine hK.out _ _ ⟨(blk_cell BK177.out 0).trans rfl, (blk_cell BK177.out 1).trans rfl, (blk_cell BK177.out 2).trans rfl, (blk_cell BK177.out 3).trans rfl, (blk_cell BK177.out 4).trans rfl, (blk_cell BK177.out 5).trans rfl, (blk_cell BK177.out 6).trans rfl, (blk_cell BK177.out 7).trans rfl⟩ (fun hHeld => ?_)
                        clear hK K
                        refine norm_ (a' := ?_) ?_ ?_
                        rotate_left
                        · show Act.put _ (some 31) _ = _
                          simp only [Act.put, List.setIfInBounds_toArray, List.set_cons_zero, List.set_cons_succ, i64_w, i32_w]
                          rfl
                        refine pure_ (i := 6) (N := some 3) (v := ?_) (a' := ?_) #[true,true,true,true,true,true,true] rfl rfl (by kernel_rfl) (fun _ _ _ h => h) (Or.inl ⟨by rfl, ?_⟩) ?_ ?_
                        rotate_left
                        · intro w'
                          go_simp
                          with_reducible rfl
                        rotate_left
                        · simp only [Act.put, List.setIfInBounds_toArray, List.set_cons_zero, List.set_cons_succ, i64_w, i32_w]
                          rfl
                        refine done_ (by kernel_rfl) ?_
                        have hcz32_0 : w31.cell? ⟨gb177, 0, none⟩ = some (.string a0_0) := (blk_cell BK177.out 0).trans rfl
                        have hcz32_1 : w31.cell? ⟨gb177, 1, none⟩ = some (.bool a0_1) := (blk_cell BK177.out 1).trans rfl
                        have hcz32_2 : w31.cell? ⟨gb177, 2, none⟩ = some (.string a0_2) := (blk_cell BK177.out 2).trans rfl
                        have hcz32_3 : w31.cell? ⟨gb177, 3, none⟩ = some (.string a0_3) := (blk_cell BK177.out 3).trans rfl
                        have hcz32_4 : w31.cell? ⟨gb177, 4, none⟩ = some (.bool true) := (blk_cell BK177.out 4).trans rfl
                        have hcz32_5 : w31.cell? ⟨gb177, 5, none⟩ = some (.string a0_5) := (blk_cell BK177.out 5).trans rfl
                        have hcz32_6 : w31.cell? ⟨gb177, 6, none⟩ = some (.bool true) := (blk_cell BK177.out 6).trans rfl
                        have hcz32_7 : w31.cell? ⟨gb177, 7, none⟩ = some (.string a0_7) := (blk_cell BK177.out 7).trans rfl
                        have hfz32_0 := blk_frozen BK177.out 0
                        have hfz32_1 := blk_frozen BK177.out 1
                        have hfz32_2 := blk_frozen BK177.out 2
                        have hfz32_3 := blk_frozen BK177.out 3
                        have hfz32_4 := blk_frozen BK177.out 4
                        have hfz32_5 := blk_frozen BK177.out 5
                        have hfz32_6 := blk_frozen BK177.out 6
                        have hfz32_7 := blk_frozen BK177.out 7
                        try go_wp2
                        have n0_ := Aside0.mk (Kd.R_drew HO198.out)
                        have n1_ := Aside0.mk (blk_drew BK177.out)
                        have n2_ := Aside0.mk (below_drew1 HB.out)
                        clear HO198
                        clear BK177
                        clear HB
                        have HO198 := n0_
                        have BK177 := n1_
                        have HB := n2_
                        clear n0_ n1_ n2_
                        refine start_ (n := 7) (S := fun w' => w'.cell? ⟨gb177, 0, none⟩ = some (.string a0_0) ∧ w'.cell? ⟨gb177, 1, none⟩ = some (.bool a0_1) ∧ w'.cell? ⟨gb177, 2, none⟩ = some (.string a0_2) ∧ w'.cell? ⟨gb177, 3, none⟩ = some (.string a0_3) ∧ w'.cell? ⟨gb177, 4, none⟩ = some (.bool true) ∧ w'.cell? ⟨gb177, 5, none⟩ = some (.string a0_5) ∧ w'.cell? ⟨gb177, 6, none⟩ = some (.bool true) ∧ w'.cell? ⟨gb177, 7, none⟩ = some (.string a0_7)) (ds := []) #[false,false,false,false,false,false,false] (by kernel_rfl) rfl rfl ⟨(blk_cell BK177.out 0).trans rfl, (blk_cell BK177.out 1).trans rfl, (blk_cell BK177.out 2).trans rfl, (blk_cell BK177.out 3).trans rfl, (blk_cell BK177.out 4).trans rfl, (blk_cell BK177.out 5).trans rfl, (blk_cell BK177.out 6).trans rfl, (blk_cell BK177.out 7).trans rfl⟩ (fun hHeld => ?_)
                        generalize w31.drew = w33 at HO198 BK177 HB hHeld ⊢
                        refine pure_ (i := 0) (N := some 34) (v := ?_) (a' := ?_) #[true,false,false,false,false,false,false] rfl rfl (by kernel_rfl) (fun _ _ _ h => h) (Or.inl ⟨by rfl, ?_⟩) ?_ ?_
                        rotate_left
                        · intro w'
                          go_simp
                          with_reducible rfl
                        rotate_left
                        · simp only [Act.put, List.setIfInBounds_toArray, List.set_cons_zero, List.set_cons_succ, i64_w, i32_w]
                          rfl
                        refine pure_ (i := 3) (N := some 37) (v := ?_) (a' := ?_) #[true,false,false,true,false,false,false] rfl rfl (by kernel_rfl) (fun _ _ _ h => h) (Or.inl ⟨by rfl, ?_⟩) ?_ ?_
                        rotate_left
                        · intro w'
                          go_simp
                          with_reducible rfl
                        rotate_left
                        · simp only [Act.put, List.setIfInBounds_toArray, List.set_cons_zero, List.set_cons_succ, i64_w, i32_w]
                          rfl
                        refine take_ (i := 4) (N := some 38) (v := ?_) (a' := ?_) #[true,false,false,true,true,false,false] rfl rfl (by kernel_rfl) (fun _ _ _ h => h) (Or.inl ⟨by rfl, ?_⟩) hHeld ?_ ?_
                        rotate_left
                        · rintro w' ⟨s0, s1, s2, s3, s4, s5, s6, s7⟩
                          go_simp
                          with_reducible rfl
                        rotate_left
                        · simp only [Act.put, List.setIfInBounds_toArray, List.set_cons_zero, List.set_cons_succ, i64_w, i32_w]
                          rfl
                        refine one_ (i := 1) (N := some 35) #[true,true,false,true,true,false,false] rfl rfl (by kernel_rfl) (by decide) (fun K hK => ?_)
                        refine value_ (w1 := ?_) (v := ?_) (by rfl) rfl ?_ ?_
                        rotate_left 2
                        · go_simp
                          constructor
                          · rfl
                          · rfl
                        refine hK.out _ _ ⟨(blk_cell (blk_alloc BK177.out _) 0).trans rfl, (blk_cell (blk_alloc BK177.out _) 1).trans rfl, (blk_cell (blk_alloc BK177.out _) 2).trans rfl, (blk_cell (blk_alloc BK177.out _) 3).trans rfl, (blk_cell (blk_alloc BK177.out _) 4).trans rfl, (blk_cell (blk_alloc BK177.out _) 5).trans rfl, (blk_cell (blk_alloc BK177.out _) 6).trans rfl, (blk_cell (blk_alloc BK177.out _) 7).trans rfl⟩ (fun hHeld => ?_)
                        clear hK K
                        refine norm_ (a' := ?_) ?_ ?_
                        rotate_left
                        · show Act.put _ (some 35) _ = _
                          simp only [Act.put, List.setIfInBounds_toArray, List.set_cons_zero, List.set_cons_succ, i64_w, i32_w]
                          rfl
                        refine one_ (i := 2) (N := some 36) #[true,true,true,true,true,false,false] rfl rfl (by kernel_rfl) (by decide) (fun K hK => ?_)
                        refine Kd.R_append_step (Kd.int .u8) (w0 := w) w.heap.size (by rfl) (.tmp 34) (.tmp 35) 41 5 (.int .u8 0) 1 rfl Try.underlying41 info5 rfl (by decide) (by omega) v197 y196 35 [.int .u8 35] (fun _ => True) (fun _ => False) rfl rfl ?aP (fun _ hk => hk.elim) ?aF ?aO ?aB ?aS ?aL ?_
                        (case aP => exact rfl)
                        (case aB => exact (by repeat (first | (with_reducible first | exact HB.out | apply below_alloc | apply pw_below_drewN | apply below_drew1 | refine below_set ?_ GE177.out) | exact HB.out)))
                        (case aF => exact (fun _ _ => trivial))
                        (case aO => exact (by (with_reducible repeat (first | apply Kd.R_alloc | apply Kd.R_drewN | apply Kd.R_drew)); exact HO198.out))
                        (case aS => exact (below_size (by repeat (first | (with_reducible first | exact HB.out | apply below_alloc | apply pw_below_drewN | apply below_drew1 | refine below_set ?_ GE177.out) | exact HB.out))))
                        (case aL => have h_ := LMc24.out; first | omega | (simp only [List.length_nil] at h_ ⊢; omega))
                        intro v200 w34 ho hb hg hat
                        rw [← Ny199.out] at ho
                        have n0_ := Aside0.mk (blk_grown (g := gb177) (o := .cells #[.string a0_0, .bool a0_1, .string a0_2, .string a0_3, .bool true, .string a0_5, .bool true, .string a0_7] 23 (0, 0)) (by (with_reducible repeat (first | refine blk_drewN ?_ _ | refine blk_drew ?_ | refine blk_alloc ?_ _)); exact BK177.out) hg (Kd.R_ne HO198.out BK177.out (by decide)))
                        have n1_ := Aside0.mk (hb)
                        have n2_ := Aside0.mk (ho)
                        clear BK177
                        clear HB
                        clear HO198
                        have BK177 := n0_
                        have HB := n1_
                        have HO201 := n2_
                        clear n0_ n1_ n2_
                        clear ho hb hg hat
                        refine hK.out _ _ ⟨(blk_cell BK177.out 0).trans rfl, (blk_cell BK177.out 1).trans rfl, (blk_cell BK177.out 2).trans rfl, (blk_cell BK177.out 3).trans rfl, (blk_cell BK177.out 4).trans rfl, (blk_cell BK177.out 5).trans rfl, (blk_cell BK177.out 6).trans rfl, (blk_cell BK177.out 7).trans rfl⟩ (fun hHeld => ?_)
                        clear hK K
                        refine norm_ (a' := ?_) ?_ ?_
                        rotate_left
                        · show Act.put _ (some 36) _ = _
                          simp only [Act.put, List.setIfInBounds_toArray, List.set_cons_zero, List.set_cons_succ, i64_w, i32_w]
                          rfl
                        refine one_ (i := 5) (N := some 39) #[true,true,true,true,true,true,false] rfl rfl (by kernel_rfl) (by decide) (fun K hK => ?_)
                        refine step_append_str (w0 := w) w.heap.size (by rfl) (.tmp 36) _ 41 9 5 rfl Try.underlying41 Try.underlying9 info5 v200 y199 a0_7 rfl rfl ?aO ?aB ?aS ?aL ?_
                        (case aB => exact (by repeat (first | (with_reducible first | exact HB.out | apply below_alloc | apply pw_below_drewN | apply below_drew1 | refine below_set ?_ GE177.out) | exact HB.out)))
                        (case aO => exact (Kd.own_of_R (by (with_reducible repeat (first | apply Kd.R_alloc | apply Kd.R_drewN | apply Kd.R_drew)); exact HO201.out)))
                        (case aS => exact (below_size (by repeat (first | (with_reducible first | exact HB.out | apply below_alloc | apply pw_below_drewN | apply below_drew1 | refine below_set ?_ GE177.out) | exact HB.out))))
                        (case aL => have h_ := LMc25.out; first | omega | (simp only [List.length_nil] at h_ ⊢; omega))
                        intro v203 w35 ho0 hb hg
                        have ho := Kd.R_of_own (h1 := fun _ => rfl) (ok := fun _ => True) ho0 (fun _ _ => trivial)
                        clear ho0
                        have hat := True.intro
                        rw [← Ny202.out] at ho
                        change Kd.R (Kd.int .u8) 5 w35 w.heap.size (fun _ => True) v203 y202 at ho
                        have n0_ := Aside0.mk (blk_grown (g := gb177) (o := .cells #[.string a0_0, .bool a0_1, .string a0_2, .string a0_3, .bool true, .string a0_5, .bool true, .string a0_7] 23 (0, 0)) (by (with_reducible repeat (first | refine blk_drewN ?_ _ | refine blk_drew ?_ | refine blk_alloc ?_ _)); exact BK177.out) hg (Kd.R_ne HO201.out BK177.out (by decide)))
                        have n1_ := Aside0.mk (hb)
                        have n2_ := Aside0.mk (ho)
                        clear BK177
                        clear HB
                        clear HO201
                        have BK177 := n0_
                        have HB := n1_
                        have HO204 := n2_
                        clear n0_ n1_ n2_
                        clear ho hb hg hat
                        refine hK.out _ _ ⟨(blk_cell BK177.out 0).trans rfl, (blk_cell BK177.out 1).trans rfl, (blk_cell BK177.out 2).trans rfl, (blk_cell BK177.out 3).trans rfl, (blk_cell BK177.out 4).trans rfl, (blk_cell BK177.out 5).trans rfl, (blk_cell BK177.out 6).trans rfl, (blk_cell BK177.out 7).trans rfl⟩ (fun hHeld => ?_)
                        clear hK K
                        refine norm_ (a' := ?_) ?_ ?_
                        rotate_left
                        · show Act.put _ (some 39) _ = _
                          simp only [Act.put, List.setIfInBounds_toArray, List.set_cons_zero, List.set_cons_succ, i64_w, i32_w]
                          rfl
                        refine pure_ (i := 6) (N := some 3) (v := ?_) (a' := ?_) #[true,true,true,true,true,true,true] rfl rfl (by kernel_rfl) (fun _ _ _ h => h) (Or.inl ⟨by rfl, ?_⟩) ?_ ?_
                        rotate_left
                        · intro w'
                          go_simp
                          with_reducible rfl
                        rotate_left
                        · simp only [Act.put, List.setIfInBounds_toArray, List.set_cons_zero, List.set_cons_succ, i64_w, i32_w]
                          rfl
                        refine done_ (by kernel_rfl) ?_
                        have hcv36 := own_string (P := Try.prog) Try.underlying41 Try.underlying5 Try.underlying9 (Kd.own_of_R HO204.out)
                        try go_wp2
                        go_ret
                        exact ⟨by first | rfl | (simp [errW_none, errW_some] <;> rfl) | (simp [*, errW_none, errW_some] <;> rfl), by repeat (first | (with_reducible first | exact HB.out | apply below_alloc | apply pw_below_drewN | apply below_drew1 | refine below_set ?_ GE177.out) | exact HB.out)⟩
                      · rw [if_neg c25] at H
                        exact absurd H (by simp)
                    · rw [if_neg c24] at H
                      exact absurd H (by simp)
                  · replace c23 := Bool.eq_false_iff.mpr c23
                    subst c23
                    have H1 : (some (strOfNums y196)) = some r := by rw [if_neg (show ¬ (false = true) by decide)] at H; exact H
                    clear H
                    have H := H1
                    clear H1
                    obtain rfl := Option.some.inj H
                    have hcz37_0 : wc.cell? ⟨gb177, 0, none⟩ = some (.string a0_0) := (blk_cell BK177.out 0).trans rfl
                    have hcz37_1 : wc.cell? ⟨gb177, 1, none⟩ = some (.bool a0_1) := (blk_cell BK177.out 1).trans rfl
                    have hcz37_2 : wc.cell? ⟨gb177, 2, none⟩ = some (.string a0_2) := (blk_cell BK177.out 2).trans rfl
                    have hcz37_3 : wc.cell? ⟨gb177, 3, none⟩ = some (.string a0_3) := (blk_cell BK177.out 3).trans rfl
                    have hcz37_4 : wc.cell? ⟨gb177, 4, none⟩ = some (.bool true) := (blk_cell BK177.out 4).trans rfl
                    have hcz37_5 : wc.cell? ⟨gb177, 5, none⟩ = some (.string a0_5) := (blk_cell BK177.out 5).trans rfl
                    have hcz37_6 : wc.cell? ⟨gb177, 6, none⟩ = some (.bool false) := (blk_cell BK177.out 6).trans rfl
                    have hcz37_7 : wc.cell? ⟨gb177, 7, none⟩ = some (.string a0_7) := (blk_cell BK177.out 7).trans rfl
                    have hfz37_0 := blk_frozen BK177.out 0
                    have hfz37_1 := blk_frozen BK177.out 1
                    have hfz37_2 := blk_frozen BK177.out 2
                    have hfz37_3 := blk_frozen BK177.out 3
                    have hfz37_4 := blk_frozen BK177.out 4
                    have hfz37_5 := blk_frozen BK177.out 5
                    have hfz37_6 := blk_frozen BK177.out 6
                    have hfz37_7 := blk_frozen BK177.out 7
                    try go_wp2_with (first | (at_builtin; refine print_append_str (w0 := w) w.heap.size rfl (.tmp 20) _ 41 9 5 rfl Try.underlying41 Try.underlying9 info5 u3 x3_10 a0_3 rfl rfl ?aO ?aB ?aS ?aL ?_; (case aB => exact (by repeat (first | (with_reducible first | exact HB.out | apply below_alloc | apply pw_below_drewN | apply below_drew1 | refine below_set ?_ GE177.out) | exact HB.out))); (case aO => exact (Kd.own_of_R (by (with_reducible repeat (first | apply Kd.R_alloc | apply Kd.R_drewN | apply Kd.R_drew)); exact HO_3.out))); (case aS => exact (below_size (by repeat (first | (with_reducible first | exact HB.out | apply below_alloc | apply pw_below_drewN | apply below_drew1 | refine below_set ?_ GE177.out) | exact HB.out)))); (case aL => have h_ := LMc19.out; first | omega | (simp only [List.length_nil] at h_ ⊢; omega)); intro v191 w38 ho0 hb hg; have ho := Kd.R_of_own (h1 := fun _ => rfl) (ok := fun _ => True) ho0 (fun _ _ => trivial); clear ho0; have hat := True.intro; rw [← Ny190.out] at ho; change Kd.R (Kd.int .u8) 5 w38 w.heap.size (fun _ => True) v191 y190 at ho; have n0_ := Aside0.mk (blk_grown (g := gb177) (o := .cells #[.string a0_0, .bool a0_1, .string a0_2, .string a0_3, .bool true, .string a0_5, .bool false, .string a0_7] 23 (0, 0)) (by (with_reducible repeat (first | refine blk_drewN ?_ _ | refine blk_drew ?_ | refine blk_alloc ?_ _)); exact BK177.out) hg (Kd.R_ne HO_3.out BK177.out (by decide))); have n1_ := Aside0.mk (hb); have n2_ := Aside0.mk (ho); clear BK177; clear HB; clear HO_3; have BK177 := n0_; have HB := n1_; have HO192 := n2_; clear n0_ n1_ n2_; clear ho hb hg hat; have hcz39_0 : w38.cell? ⟨gb177, 0, none⟩ = some (.string a0_0) := (blk_cell BK177.out 0).trans rfl; have hcz39_1 : w38.cell? ⟨gb177, 1, none⟩ = some (.bool a0_1) := (blk_cell BK177.out 1).trans rfl; have hcz39_2 : w38.cell? ⟨gb177, 2, none⟩ = some (.string a0_2) := (blk_cell BK177.out 2).trans rfl; have hcz39_3 : w38.cell? ⟨gb177, 3, none⟩ = some (.string a0_3) := (blk_cell BK177.out 3).trans rfl; have hcz39_4 : w38.cell? ⟨gb177, 4, none⟩ = some (.bool true) := (blk_cell BK177.out 4).trans rfl; have hcz39_5 : w38.cell? ⟨gb177, 5, none⟩ = some (.string a0_5) := (blk_cell BK177.out 5).trans rfl; have hcz39_6 : w38.cell? ⟨gb177, 6, none⟩ = some (.bool false) := (blk_cell BK177.out 6).trans rfl; have hcz39_7 : w38.cell? ⟨gb177, 7, none⟩ = some (.string a0_7) := (blk_cell BK177.out 7).trans rfl; have hfz39_0 := blk_frozen BK177.out 0; have hfz39_1 := blk_frozen BK177.out 1; have hfz39_2 := blk_frozen BK177.out 2; have hfz39_3 := blk_frozen BK177.out 3; have hfz39_4 := blk_frozen BK177.out 4; have hfz39_5 := blk_frozen BK177.out 5; have hfz39_6 := blk_frozen BK177.out 6; have hfz39_7 := blk_frozen BK177.out 7))
                    have n0_ := Aside0.mk (Kd.R_drew HO192.out)
                    have n1_ := Aside0.mk (blk_drew BK177.out)
                    have n2_ := Aside0.mk (below_drew1 HB.out)
                    clear HO192
                    clear BK177
                    clear HB
                    have HO192 := n0_
                    have BK177 := n1_
                    have HB := n2_
                    clear n0_ n1_ n2_
                    refine start_ (n := 7) (S := fun w' => w'.cell? ⟨gb177, 0, none⟩ = some (.string a0_0) ∧ w'.cell? ⟨gb177, 1, none⟩ = some (.bool a0_1) ∧ w'.cell? ⟨gb177, 2, none⟩ = some (.string a0_2) ∧ w'.cell? ⟨gb177, 3, none⟩ = some (.string a0_3) ∧ w'.cell? ⟨gb177, 4, none⟩ = some (.bool true) ∧ w'.cell? ⟨gb177, 5, none⟩ = some (.string a0_5) ∧ w'.cell? ⟨gb177, 6, none⟩ = some (.bool false) ∧ w'.cell? ⟨gb177, 7, none⟩ = some (.string a0_7)) (ds := []) #[false,false,false,false,false,false,false] (by kernel_rfl) rfl rfl ⟨(blk_cell BK177.out 0).trans rfl, (blk_cell BK177.out 1).trans rfl, (blk_cell BK177.out 2).trans rfl, (blk_cell BK177.out 3).trans rfl, (blk_cell BK177.out 4).trans rfl, (blk_cell BK177.out 5).trans rfl, (blk_cell BK177.out 6).trans rfl, (blk_cell BK177.out 7).trans rfl⟩ (fun hHeld => ?_)
                    generalize w38.drew = w40 at HO192 BK177 HB hHeld ⊢
                    refine pure_ (i := 0) (N := some 26) (v := ?_) (a' := ?_) #[true,false,false,false,false,false,false] rfl rfl (by kernel_rfl) (fun _ _ _ h => h) (Or.inl ⟨by rfl, ?_⟩) ?_ ?_
                    rotate_left
                    · intro w'
                      go_simp
                      with_reducible rfl
                    rotate_left
                    · simp only [Act.put, List.setIfInBounds_toArray, List.set_cons_zero, List.set_cons_succ, i64_w, i32_w]
                      rfl
                    refine pure_ (i := 3) (N := some 29) (v := ?_) (a' := ?_) #[true,false,false,true,false,false,false] rfl rfl (by kernel_rfl) (fun _ _ _ h => h) (Or.inl ⟨by rfl, ?_⟩) ?_ ?_
                    rotate_left
                    · intro w'
                      go_simp
                      with_reducible rfl
                    rotate_left
                    · simp only [Act.put, List.setIfInBounds_toArray, List.set_cons_zero, List.set_cons_succ, i64_w, i32_w]
                      rfl
                    refine take_ (i := 4) (N := some 30) (v := ?_) (a' := ?_) #[true,false,false,true,true,false,false] rfl rfl (by kernel_rfl) (fun _ _ _ h => h) (Or.inl ⟨by rfl, ?_⟩) hHeld ?_ ?_
                    rotate_left
                    · rintro w' ⟨s0, s1, s2, s3, s4, s5, s6, s7⟩
                      go_simp
                      with_reducible rfl
                    rotate_left
                    · simp only [Act.put, List.setIfInBounds_toArray, List.set_cons_zero, List.set_cons_succ, i64_w, i32_w]
                      rfl
                    refine one_ (i := 1) (N := some 27) #[true,true,false,true,true,false,false] rfl rfl (by kernel_rfl) (by decide) (fun K hK => ?_)
                    refine value_ (w1 := ?_) (v := ?_) (by rfl) rfl ?_ ?_
                    rotate_left 2
                    · go_simp
                      constructor
                      · rfl
                      · rfl
                    refine hK.out _ _ ⟨(blk_cell (blk_alloc BK177.out _) 0).trans rfl, (blk_cell (blk_alloc BK177.out _) 1).trans rfl, (blk_cell (blk_alloc BK177.out _) 2).trans rfl, (blk_cell (blk_alloc BK177.out _) 3).trans rfl, (blk_cell (blk_alloc BK177.out _) 4).trans rfl, (blk_cell (blk_alloc BK177.out _) 5).trans rfl, (blk_cell (blk_alloc BK177.out _) 6).trans rfl, (blk_cell (blk_alloc BK177.out _) 7).trans rfl⟩ (fun hHeld => ?_)
                    clear hK K
                    refine norm_ (a' := ?_) ?_ ?_
                    rotate_left
                    · show Act.put _ (some 27) _ = _
                      simp only [Act.put, List.setIfInBounds_toArray, List.set_cons_zero, List.set_cons_succ, i64_w, i32_w]
                      rfl
                    refine one_ (i := 2) (N := some 28) #[true,true,true,true,true,false,false] rfl rfl (by kernel_rfl) (by decide) (fun K hK => ?_)
                    refine Kd.R_append_step (Kd.int .u8) (w0 := w) w.heap.size (by rfl) (.tmp 26) (.tmp 27) 41 5 (.int .u8 0) 1 rfl Try.underlying41 info5 rfl (by decide) (by omega) v191 y190 63 [.int .u8 63] (fun _ => True) (fun _ => False) rfl rfl ?aP (fun _ hk => hk.elim) ?aF ?aO ?aB ?aS ?aL ?_
                    (case aP => exact rfl)
                    (case aB => exact (by repeat (first | (with_reducible first | exact HB.out | apply below_alloc | apply pw_below_drewN | apply below_drew1 | refine below_set ?_ GE177.out) | exact HB.out)))
                    (case aF => exact (fun _ _ => trivial))
                    (case aO => exact (by (with_reducible repeat (first | apply Kd.R_alloc | apply Kd.R_drewN | apply Kd.R_drew)); exact HO192.out))
                    (case aS => exact (below_size (by repeat (first | (with_reducible first | exact HB.out | apply below_alloc | apply pw_below_drewN | apply below_drew1 | refine below_set ?_ GE177.out) | exact HB.out))))
                    (case aL => have h_ := LMc21.out; first | omega | (simp only [List.length_nil] at h_ ⊢; omega))
                    intro v194 w41 ho hb hg hat
                    rw [← Ny193.out] at ho
                    have n0_ := Aside0.mk (blk_grown (g := gb177) (o := .cells #[.string a0_0, .bool a0_1, .string a0_2, .string a0_3, .bool true, .string a0_5, .bool false, .string a0_7] 23 (0, 0)) (by (with_reducible repeat (first | refine blk_drewN ?_ _ | refine blk_drew ?_ | refine blk_alloc ?_ _)); exact BK177.out) hg (Kd.R_ne HO192.out BK177.out (by decide)))
                    have n1_ := Aside0.mk (hb)
                    have n2_ := Aside0.mk (ho)
                    clear BK177
                    clear HB
                    clear HO192
                    have BK177 := n0_
                    have HB := n1_
                    have HO195 := n2_
                    clear n0_ n1_ n2_
                    clear ho hb hg hat
                    refine hK.out _ _ ⟨(blk_cell BK177.out 0).trans rfl, (blk_cell BK177.out 1).trans rfl, (blk_cell BK177.out 2).trans rfl, (blk_cell BK177.out 3).trans rfl, (blk_cell BK177.out 4).trans rfl, (blk_cell BK177.out 5).trans rfl, (blk_cell BK177.out 6).trans rfl, (blk_cell BK177.out 7).trans rfl⟩ (fun hHeld => ?_)
                    clear hK K
                    refine norm_ (a' := ?_) ?_ ?_
                    rotate_left
                    · show Act.put _ (some 28) _ = _
                      simp only [Act.put, List.setIfInBounds_toArray, List.set_cons_zero, List.set_cons_succ, i64_w, i32_w]
                      rfl
                    refine one_ (i := 5) (N := some 31) #[true,true,true,true,true,true,false] rfl rfl (by kernel_rfl) (by decide) (fun K hK => ?_)
                    refine step_append_str (w0 := w) w.heap.size (by rfl) (.tmp 28) _ 41 9 5 rfl Try.underlying41 Try.underlying9 info5 v194 y193 a0_5 rfl rfl ?aO ?aB ?aS ?aL ?_
                    (case aB => exact (by repeat (first | (with_reducible first | exact HB.out | apply below_alloc | apply pw_below_drewN | apply below_drew1 | refine below_set ?_ GE177.out) | exact HB.out)))
                    (case aO => exact (Kd.own_of_R (by (with_reducible repeat (first | apply Kd.R_alloc | apply Kd.R_drewN | apply Kd.R_drew)); exact HO195.out)))
                    (case aS => exact (below_size (by repeat (first | (with_reducible first | exact HB.out | apply below_alloc | apply pw_below_drewN | apply below_drew1 | refine below_set ?_ GE177.out) | exact HB.out))))
                    (case aL => have h_ := LMc22.out; first | omega | (simp only [List.length_nil] at h_ ⊢; omega))
                    intro v197 w42 ho0 hb hg
                    have ho := Kd.R_of_own (h1 := fun _ => rfl) (ok := fun _ => True) ho0 (fun _ _ => trivial)
                    clear ho0
                    have hat := True.intro
                    rw [← Ny196.out] at ho
                    change Kd.R (Kd.int .u8) 5 w42 w.heap.size (fun _ => True) v197 y196 at ho
                    have n0_ := Aside0.mk (blk_grown (g := gb177) (o := .cells #[.string a0_0, .bool a0_1, .string a0_2, .string a0_3, .bool true, .string a0_5, .bool false, .string a0_7] 23 (0, 0)) (by (with_reducible repeat (first | refine blk_drewN ?_ _ | refine blk_drew ?_ | refine blk_alloc ?_ _)); exact BK177.out) hg (Kd.R_ne HO195.out BK177.out (by decide)))
                    have n1_ := Aside0.mk (hb)
                    have n2_ := Aside0.mk (ho)
                    clear BK177
                    clear HB
                    clear HO195
                    have BK177 := n0_
                    have HB := n1_
                    have HO198 := n2_
                    clear n0_ n1_ n2_
                    clear ho hb hg hat
                    refine hK.out _ _ ⟨(blk_cell BK177.out 0).trans rfl, (blk_cell BK177.out 1).trans rfl, (blk_cell BK177.out 2).trans rfl, (blk_cell BK177.out 3).trans rfl, (blk_cell BK177.out 4).trans rfl, (blk_cell BK177.out 5).trans rfl, (blk_cell BK177.out 6).trans rfl, (blk_cell BK177.out 7).trans rfl⟩ (fun hHeld => ?_)
                    clear hK K
                    refine norm_ (a' := ?_) ?_ ?_
                    rotate_left
                    · show Act.put _ (some 31) _ = _
                      simp only [Act.put, List.setIfInBounds_toArray, List.set_cons_zero, List.set_cons_succ, i64_w, i32_w]
                      rfl
                    refine pure_ (i := 6) (N := some 3) (v := ?_) (a' := ?_) #[true,true,true,true,true,true,true] rfl rfl (by kernel_rfl) (fun _ _ _ h => h) (Or.inl ⟨by rfl, ?_⟩) ?_ ?_
                    rotate_left
                    · intro w'
                      go_simp
                      with_reducible rfl
                    rotate_left
                    · simp only [Act.put, List.setIfInBounds_toArray, List.set_cons_zero, List.set_cons_succ, i64_w, i32_w]
                      rfl
                    refine done_ (by kernel_rfl) ?_
                    have hcz43_0 : w42.cell? ⟨gb177, 0, none⟩ = some (.string a0_0) := (blk_cell BK177.out 0).trans rfl
                    have hcz43_1 : w42.cell? ⟨gb177, 1, none⟩ = some (.bool a0_1) := (blk_cell BK177.out 1).trans rfl
                    have hcz43_2 : w42.cell? ⟨gb177, 2, none⟩ = some (.string a0_2) := (blk_cell BK177.out 2).trans rfl
                    have hcz43_3 : w42.cell? ⟨gb177, 3, none⟩ = some (.string a0_3) := (blk_cell BK177.out 3).trans rfl
                    have hcz43_4 : w42.cell? ⟨gb177, 4, none⟩ = some (.bool true) := (blk_cell BK177.out 4).trans rfl
                    have hcz43_5 : w42.cell? ⟨gb177, 5, none⟩ = some (.string a0_5) := (blk_cell BK177.out 5).trans rfl
                    have hcz43_6 : w42.cell? ⟨gb177, 6, none⟩ = some (.bool false) := (blk_cell BK177.out 6).trans rfl
                    have hcz43_7 : w42.cell? ⟨gb177, 7, none⟩ = some (.string a0_7) := (blk_cell BK177.out 7).trans rfl
                    have hfz43_0 := blk_frozen BK177.out 0
                    have hfz43_1 := blk_frozen BK177.out 1
                    have hfz43_2 := blk_frozen BK177.out 2
                    have hfz43_3 := blk_frozen BK177.out 3
                    have hfz43_4 := blk_frozen BK177.out 4
                    have hfz43_5 := blk_frozen BK177.out 5
                    have hfz43_6 := blk_frozen BK177.out 6
                    have hfz43_7 := blk_frozen BK177.out 7
                    have hcv44 := own_string (P := Try.prog) Try.underlying41 Try.underlying5 Try.underlying9 (Kd.own_of_R HO198.out)
                    try go_wp2
                    go_ret
                    exact ⟨by first | rfl | (simp [errW_none, errW_some] <;> rfl) | (simp [*, errW_none, errW_some] <;> rfl), by repeat (first | (with_reducible first | exact HB.out | apply below_alloc | apply pw_below_drewN | apply below_drew1 | refine below_set ?_ GE177.out) | exact HB.out)⟩
                · rw [if_neg c22] at H
                  exact absurd H (by simp)
              · rw [if_neg c21] at H
                exact absurd H (by simp)
            · replace c20 := Bool.eq_false_iff.mpr c20
              subst c20
              have H1 : (if a0_6 = true then (if y190.length < 140737488355328 then ((some (y190 ++ [35] : List Int)).bind fun y205 => (if y205.length + a0_7.size < 140737488355328 then (some (strOfNums (y205 ++ bytesOf a0_7))) else (none))) else (none)) else (some (strOfNums y190))) = some r := by rw [if_neg (show ¬ (false = true) by decide)] at H; exact H
              clear H
              have H := H1
              clear H1
              by_cases c45 : a0_6 = true
              · subst c45
                have H1 : (if y190.length < 140737488355328 then ((some (y190 ++ [35] : List Int)).bind fun y205 => (if y205.length + a0_7.size < 140737488355328 then (some (strOfNums (y205 ++ bytesOf a0_7))) else (none))) else (none)) = some r := by rw [if_pos rfl] at H; exact H
                clear H
                have H := H1
                clear H1
                by_cases c46 : y190.length < 140737488355328
                · rw [if_pos c46] at H
                  have LMc46 := Aside0.mk c46
                  clear c46
                  obtain ⟨y205, hy205⟩ : ∃ y_ : List Int, y_ = (y190 ++ [35]) := ⟨_, rfl⟩
                  replace H : (if y205.length + a0_7.size < 140737488355328 then (some (strOfNums (y205 ++ bytesOf a0_7))) else (none)) = some r := by first | (rw [hy205]; with_reducible exact H) | (have H2_ := (Option.bind_some _ _).symm.trans H; rw [hy205]; with_reducible exact H2_) | (have H2_ := (Option.bind_some _ _).symm.trans H; with_reducible exact H2_) | with_reducible exact H | (rw [hy205]; exact H) | exact H
                  have Ny205 := Aside0.mk hy205
                  clear hy205
                  by_cases c47 : y205.length + a0_7.size < 140737488355328
                  · rw [if_pos c47] at H
                    have LMc47 := Aside0.mk c47
                    clear c47
                    obtain ⟨y208, hy208⟩ : ∃ y_ : List Int, y_ = (y205 ++ bytesOf a0_7) := ⟨_, rfl⟩
                    replace H : (some (strOfNums y208)) = some r := by first | (rw [hy208]; with_reducible exact H) | (have H2_ := (Option.bind_some _ _).symm.trans H; rw [hy208]; with_reducible exact H2_) | (have H2_ := (Option.bind_some _ _).symm.trans H; with_reducible exact H2_) | with_reducible exact H | (rw [hy208]; exact H) | exact H
                    have Ny208 := Aside0.mk hy208
                    clear hy208
                    obtain rfl := Option.some.inj H
                    have hcz48_0 : wc.cell? ⟨gb177, 0, none⟩ = some (.string a0_0) := (blk_cell BK177.out 0).trans rfl
                    have hcz48_1 : wc.cell? ⟨gb177, 1, none⟩ = some (.bool a0_1) := (blk_cell BK177.out 1).trans rfl
                    have hcz48_2 : wc.cell? ⟨gb177, 2, none⟩ = some (.string a0_2) := (blk_cell BK177.out 2).trans rfl
                    have hcz48_3 : wc.cell? ⟨gb177, 3, none⟩ = some (.string a0_3) := (blk_cell BK177.out 3).trans rfl
                    have hcz48_4 : wc.cell? ⟨gb177, 4, none⟩ = some (.bool false) := (blk_cell BK177.out 4).trans rfl
                    have hcz48_5 : wc.cell? ⟨gb177, 5, none⟩ = some (.string a0_5) := (blk_cell BK177.out 5).trans rfl
                    have hcz48_6 : wc.cell? ⟨gb177, 6, none⟩ = some (.bool true) := (blk_cell BK177.out 6).trans rfl
                    have hcz48_7 : wc.cell? ⟨gb177, 7, none⟩ = some (.string a0_7) := (blk_cell BK177.out 7).trans rfl
                    have hfz48_0 := blk_frozen BK177.out 0
                    have hfz48_1 := blk_frozen BK177.out 1
                    have hfz48_2 := blk_frozen BK177.out 2
                    have hfz48_3 := blk_frozen BK177.out 3
                    have hfz48_4 := blk_frozen BK177.out 4
                    have hfz48_5 := blk_frozen BK177.out 5
                    have hfz48_6 := blk_frozen BK177.out 6
                    have hfz48_7 := blk_frozen BK177.out 7
                    try go_wp2_with (first | (at_builtin; refine print_append_str (w0 := w) w.heap.size rfl (.tmp 20) _ 41 9 5 rfl Try.underlying41 Try.underlying9 info5 u3 x3_10 a0_3 rfl rfl ?aO ?aB ?aS ?aL ?_; (case aB => exact (by repeat (first | (with_reducible first | exact HB.out | apply below_alloc | apply pw_below_drewN | apply below_drew1 | refine below_set ?_ GE177.out) | exact HB.out))); (case aO => exact (Kd.own_of_R (by (with_reducible repeat (first | apply Kd.R_alloc | apply Kd.R_drewN | apply Kd.R_drew)); exact HO_3.out))); (case aS => exact (below_size (by repeat (first | (with_reducible first | exact HB.out | apply below_alloc | apply pw_below_drewN | apply below_drew1 | refine below_set ?_ GE177.out) | exact HB.out)))); (case aL => have h_ := LMc19.out; first | omega | (simp only [List.length_nil] at h_ ⊢; omega)); intro v191 w49 ho0 hb hg; have ho := Kd.R_of_own (h1 := fun _ => rfl) (ok := fun _ => True) ho0 (fun _ _ => trivial); clear ho0; have hat := True.intro; rw [← Ny190.out] at ho; change Kd.R (Kd.int .u8) 5 w49 w.heap.size (fun _ => True) v191 y190 at ho; have n0_ := Aside0.mk (blk_grown (g := gb177) (o := .cells #[.string a0_0, .bool a0_1, .string a0_2, .string a0_3, .bool false, .string a0_5, .bool true, .string a0_7] 23 (0, 0)) (by (with_reducible repeat (first | refine blk_drewN ?_ _ | refine blk_drew ?_ | refine blk_alloc ?_ _)); exact BK177.out) hg (Kd.R_ne HO_3.out BK177.out (by decide))); have n1_ := Aside0.mk (hb); have n2_ := Aside0.mk (ho); clear BK177; clear HB; clear HO_3; have BK177 := n0_; have HB := n1_; have HO192 := n2_; clear n0_ n1_ n2_; clear ho hb hg hat; have hcz50_0 : w49.cell? ⟨gb177, 0, none⟩ = some (.string a0_0) := (blk_cell BK177.out 0).trans rfl; have hcz50_1 : w49.cell? ⟨gb177, 1, none⟩ = some (.bool a0_1) := (blk_cell BK177.out 1).trans rfl; have hcz50_2 : w49.cell? ⟨gb177, 2, none⟩ = some (.string a0_2) := (blk_cell BK177.out 2).trans rfl; have hcz50_3 : w49.cell? ⟨gb177, 3, none⟩ = some (.string a0_3) := (blk_cell BK177.out 3).trans rfl; have hcz50_4 : w49.cell? ⟨gb177, 4, none⟩ = some (.bool false) := (blk_cell BK177.out 4).trans rfl; have hcz50_5 : w49.cell? ⟨gb177, 5, none⟩ = some (.string a0_5) := (blk_cell BK177.out 5).trans rfl; have hcz50_6 : w49.cell? ⟨gb177, 6, none⟩ = some (.bool true) := (blk_cell BK177.out 6).trans rfl; have hcz50_7 : w49.cell? ⟨gb177, 7, none⟩ = some (.string a0_7) := (blk_cell BK177.out 7).trans rfl; have hfz50_0 := blk_frozen BK177.out 0; have hfz50_1 := blk_frozen BK177.out 1; have hfz50_2 := blk_frozen BK177.out 2; have hfz50_3 := blk_frozen BK177.out 3; have hfz50_4 := blk_frozen BK177.out 4; have hfz50_5 := blk_frozen BK177.out 5; have hfz50_6 := blk_frozen BK177.out 6; have hfz50_7 := blk_frozen BK177.out 7))
                    have n0_ := Aside0.mk (Kd.R_drew HO192.out)
                    have n1_ := Aside0.mk (blk_drew BK177.out)
                    have n2_ := Aside0.mk (below_drew1 HB.out)
                    clear HO192
                    clear BK177
                    clear HB
                    have HO192 := n0_
                    have BK177 := n1_
                    have HB := n2_
                    clear n0_ n1_ n2_
                    refine start_ (n := 7) (S := fun w' => w'.cell? ⟨gb177, 0, none⟩ = some (.string a0_0) ∧ w'.cell? ⟨gb177, 1, none⟩ = some (.bool a0_1) ∧ w'.cell? ⟨gb177, 2, none⟩ = some (.string a0_2) ∧ w'.cell? ⟨gb177, 3, none⟩ = some (.string a0_3) ∧ w'.cell? ⟨gb177, 4, none⟩ = some (.bool false) ∧ w'.cell? ⟨gb177, 5, none⟩ = some (.string a0_5) ∧ w'.cell? ⟨gb177, 6, none⟩ = some (.bool true) ∧ w'.cell? ⟨gb177, 7, none⟩ = some (.string a0_7)) (ds := []) #[false,false,false,false,false,false,false] (by kernel_rfl) rfl rfl ⟨(blk_cell BK177.out 0).trans rfl, (blk_cell BK177.out 1).trans rfl, (blk_cell BK177.out 2).trans rfl, (blk_cell BK177.out 3).trans rfl, (blk_cell BK177.out 4).trans rfl, (blk_cell BK177.out 5).trans rfl, (blk_cell BK177.out 6).trans rfl, (blk_cell BK177.out 7).trans rfl⟩ (fun hHeld => ?_)
                    generalize w49.drew = w51 at HO192 BK177 HB hHeld ⊢
                    refine pure_ (i := 0) (N := some 34) (v := ?_) (a' := ?_) #[true,false,false,false,false,false,false] rfl rfl (by kernel_rfl) (fun _ _ _ h => h) (Or.inl ⟨by rfl, ?_⟩) ?_ ?_
                    rotate_left
                    · intro w'
                      go_simp
                      with_reducible rfl
                    rotate_left
                    · simp only [Act.put, List.setIfInBounds_toArray, List.set_cons_zero, List.set_cons_succ, i64_w, i32_w]
                      rfl
                    refine pure_ (i := 3) (N := some 37) (v := ?_) (a' := ?_) #[true,false,false,true,false,false,false] rfl rfl (by kernel_rfl) (fun _ _ _ h => h) (Or.inl ⟨by rfl, ?_⟩) ?_ ?_
                    rotate_left
                    · intro w'
                      go_simp
                      with_reducible rfl
                    rotate_left
                    · simp only [Act.put, List.setIfInBounds_toArray, List.set_cons_zero, List.set_cons_succ, i64_w, i32_w]
                      rfl
                    refine take_ (i := 4) (N := some 38) (v := ?_) (a' := ?_) #[true,false,false,true,true,false,false] rfl rfl (by kernel_rfl) (fun _ _ _ h => h) (Or.inl ⟨by rfl, ?_⟩) hHeld ?_ ?_
                    rotate_left
                    · rintro w' ⟨s0, s1, s2, s3, s4, s5, s6, s7⟩
                      go_simp
                      with_reducible rfl
                    rotate_left
                    · simp only [Act.put, List.setIfInBounds_toArray, List.set_cons_zero, List.set_cons_succ, i64_w, i32_w]
                      rfl
                    refine one_ (i := 1) (N := some 35) #[true,true,false,true,true,false,false] rfl rfl (by kernel_rfl) (by decide) (fun K hK => ?_)
                    refine value_ (w1 := ?_) (v := ?_) (by rfl) rfl ?_ ?_
                    rotate_left 2
                    · go_simp
                      constructor
                      · rfl
                      · rfl
                    refine hK.out _ _ ⟨(blk_cell (blk_alloc BK177.out _) 0).trans rfl, (blk_cell (blk_alloc BK177.out _) 1).trans rfl, (blk_cell (blk_alloc BK177.out _) 2).trans rfl, (blk_cell (blk_alloc BK177.out _) 3).trans rfl, (blk_cell (blk_alloc BK177.out _) 4).trans rfl, (blk_cell (blk_alloc BK177.out _) 5).trans rfl, (blk_cell (blk_alloc BK177.out _) 6).trans rfl, (blk_cell (blk_alloc BK177.out _) 7).trans rfl⟩ (fun hHeld => ?_)
                    clear hK K
                    refine norm_ (a' := ?_) ?_ ?_
                    rotate_left
                    · show Act.put _ (some 35) _ = _
                      simp only [Act.put, List.setIfInBounds_toArray, List.set_cons_zero, List.set_cons_succ, i64_w, i32_w]
                      rfl
                    refine one_ (i := 2) (N := some 36) #[true,true,true,true,true,false,false] rfl rfl (by kernel_rfl) (by decide) (fun K hK => ?_)
                    refine Kd.R_append_step (Kd.int .u8) (w0 := w) w.heap.size (by rfl) (.tmp 34) (.tmp 35) 41 5 (.int .u8 0) 1 rfl Try.underlying41 info5 rfl (by decide) (by omega) v191 y190 35 [.int .u8 35] (fun _ => True) (fun _ => False) rfl rfl ?aP (fun _ hk => hk.elim) ?aF ?aO ?aB ?aS ?aL ?_
                    (case aP => exact rfl)
                    (case aB => exact (by repeat (first | (with_reducible first | exact HB.out | apply below_alloc | apply pw_below_drewN | apply below_drew1 | refine below_set ?_ GE177.out) | exact HB.out)))
                    (case aF => exact (fun _ _ => trivial))
                    (case aO => exact (by (with_reducible repeat (first | apply Kd.R_alloc | apply Kd.R_drewN | apply Kd.R_drew)); exact HO192.out))
                    (case aS => exact (below_size (by repeat (first | (with_reducible first | exact HB.out | apply below_alloc | apply pw_below_drewN | apply below_drew1 | refine below_set ?_ GE177.out) | exact HB.out))))
                    (case aL => have h_ := LMc46.out; first | omega | (simp only [List.length_nil] at h_ ⊢; omega))
                    intro v206 w52 ho hb hg hat
                    rw [← Ny205.out] at ho
                    have n0_ := Aside0.mk (blk_grown (g := gb177) (o := .cells #[.string a0_0, .bool a0_1, .string a0_2, .string a0_3, .bool false, .string a0_5, .bool true, .string a0_7] 23 (0, 0)) (by (with_reducible repeat (first | refine blk_drewN ?_ _ | refine blk_drew ?_ | refine blk_alloc ?_ _)); exact BK177.out) hg (Kd.R_ne HO192.out BK177.out (by decide)))
                    have n1_ := Aside0.mk (hb)
                    have n2_ := Aside0.mk (ho)
                    clear BK177
                    clear HB
                    clear HO192
                    have BK177 := n0_
                    have HB := n1_
                    have HO207 := n2_
                    clear n0_ n1_ n2_
                    clear ho hb hg hat
                    refine hK.out _ _ ⟨(blk_cell BK177.out 0).trans rfl, (blk_cell BK177.out 1).trans rfl, (blk_cell BK177.out 2).trans rfl, (blk_cell BK177.out 3).trans rfl, (blk_cell BK177.out 4).trans rfl, (blk_cell BK177.out 5).trans rfl, (blk_cell BK177.out 6).trans rfl, (blk_cell BK177.out 7).trans rfl⟩ (fun hHeld => ?_)
                    clear hK K
                    refine norm_ (a' := ?_) ?_ ?_
                    rotate_left
                    · show Act.put _ (some 36) _ = _
                      simp only [Act.put, List.setIfInBounds_toArray, List.set_cons_zero, List.set_cons_succ, i64_w, i32_w]
                      rfl
                    refine one_ (i := 5) (N := some 39) #[true,true,true,true,true,true,false] rfl rfl (by kernel_rfl) (by decide) (fun K hK => ?_)
                    refine step_append_str (w0 := w) w.heap.size (by rfl) (.tmp 36) _ 41 9 5 rfl Try.underlying41 Try.underlying9 info5 v206 y205 a0_7 rfl rfl ?aO ?aB ?aS ?aL ?_
                    (case aB => exact (by repeat (first | (with_reducible first | exact HB.out | apply below_alloc | apply pw_below_drewN | apply below_drew1 | refine below_set ?_ GE177.out) | exact HB.out)))
                    (case aO => exact (Kd.own_of_R (by (with_reducible repeat (first | apply Kd.R_alloc | apply Kd.R_drewN | apply Kd.R_drew)); exact HO207.out)))
                    (case aS => exact (below_size (by repeat (first | (with_reducible first | exact HB.out | apply below_alloc | apply pw_below_drewN | apply below_drew1 | refine below_set ?_ GE177.out) | exact HB.out))))
                    (case aL => have h_ := LMc47.out; first | omega | (simp only [List.length_nil] at h_ ⊢; omega))
                    intro v209 w53 ho0 hb hg
                    have ho := Kd.R_of_own (h1 := fun _ => rfl) (ok := fun _ => True) ho0 (fun _ _ => trivial)
                    clear ho0
                    have hat := True.intro
                    rw [← Ny208.out] at ho
                    change Kd.R (Kd.int .u8) 5 w53 w.heap.size (fun _ => True) v209 y208 at ho
                    have n0_ := Aside0.mk (blk_grown (g := gb177) (o := .cells #[.string a0_0, .bool a0_1, .string a0_2, .string a0_3, .bool false, .string a0_5, .bool true, .string a0_7] 23 (0, 0)) (by (with_reducible repeat (first | refine blk_drewN ?_ _ | refine blk_drew ?_ | refine blk_alloc ?_ _)); exact BK177.out) hg (Kd.R_ne HO207.out BK177.out (by decide)))
                    have n1_ := Aside0.mk (hb)
                    have n2_ := Aside0.mk (ho)
                    clear BK177
                    clear HB
                    clear HO207
                    have BK177 := n0_
                    have HB := n1_
                    have HO210 := n2_
                    clear n0_ n1_ n2_
                    clear ho hb hg hat
                    refine hK.out _ _ ⟨(blk_cell BK177.out 0).trans rfl, (blk_cell BK177.out 1).trans rfl, (blk_cell BK177.out 2).trans rfl, (blk_cell BK177.out 3).trans rfl, (blk_cell BK177.out 4).trans rfl, (blk_cell BK177.out 5).trans rfl, (blk_cell BK177.out 6).trans rfl, (blk_cell BK177.out 7).trans rfl⟩ (fun hHeld => ?_)
                    clear hK K
                    refine norm_ (a' := ?_) ?_ ?_
                    rotate_left
                    · show Act.put _ (some 39) _ = _
                      simp only [Act.put, List.setIfInBounds_toArray, List.set_cons_zero, List.set_cons_succ, i64_w, i32_w]
                      rfl
                    refine pure_ (i := 6) (N := some 3) (v := ?_) (a' := ?_) #[true,true,true,true,true,true,true] rfl rfl (by kernel_rfl) (fun _ _ _ h => h) (Or.inl ⟨by rfl, ?_⟩) ?_ ?_
                    rotate_left
                    · intro w'
                      go_simp
                      with_reducible rfl
                    rotate_left
                    · simp only [Act.put, List.setIfInBounds_toArray, List.set_cons_zero, List.set_cons_succ, i64_w, i32_w]
                      rfl
                    refine done_ (by kernel_rfl) ?_
                    have hcv54 := own_string (P := Try.prog) Try.underlying41 Try.underlying5 Try.underlying9 (Kd.own_of_R HO210.out)
                    try go_wp2
                    go_ret
                    exact ⟨by first | rfl | (simp [errW_none, errW_some] <;> rfl) | (simp [*, errW_none, errW_some] <;> rfl), by repeat (first | (with_reducible first | exact HB.out | apply below_alloc | apply pw_below_drewN | apply below_drew1 | refine below_set ?_ GE177.out) | exact HB.out)⟩
                  · rw [if_neg c47] at H
                    exact absurd H (by simp)
                · rw [if_neg c46] at H
                  exact absurd H (by simp)
              · replace c45 := Bool.eq_false_iff.mpr c45
                subst c45
                have H1 : (some (strOfNums y190)) = some r := by rw [if_neg (show ¬ (false = true) by decide)] at H; exact H
                clear H
                have H := H1
                clear H1
                obtain rfl := Option.some.inj H
                have hcz55_0 : wc.cell? ⟨gb177, 0, none⟩ = some (.string a0_0) := (blk_cell BK177.out 0).trans rfl
                have hcz55_1 : wc.cell? ⟨gb177, 1, none⟩ = some (.bool a0_1) := (blk_cell BK177.out 1).trans rfl
                have hcz55_2 : wc.cell? ⟨gb177, 2, none⟩ = some (.string a0_2) := (blk_cell BK177.out 2).trans rfl
                have hcz55_3 : wc.cell? ⟨gb177, 3, none⟩ = some (.string a0_3) := (blk_cell BK177.out 3).trans rfl
                have hcz55_4 : wc.cell? ⟨gb177, 4, none⟩ = some (.bool false) := (blk_cell BK177.out 4).trans rfl
                have hcz55_5 : wc.cell? ⟨gb177, 5, none⟩ = some (.string a0_5) := (blk_cell BK177.out 5).trans rfl
                have hcz55_6 : wc.cell? ⟨gb177, 6, none⟩ = some (.bool false) := (blk_cell BK177.out 6).trans rfl
                have hcz55_7 : wc.cell? ⟨gb177, 7, none⟩ = some (.string a0_7) := (blk_cell BK177.out 7).trans rfl
                have hfz55_0 := blk_frozen BK177.out 0
                have hfz55_1 := blk_frozen BK177.out 1
                have hfz55_2 := blk_frozen BK177.out 2
                have hfz55_3 := blk_frozen BK177.out 3
                have hfz55_4 := blk_frozen BK177.out 4
                have hfz55_5 := blk_frozen BK177.out 5
                have hfz55_6 := blk_frozen BK177.out 6
                have hfz55_7 := blk_frozen BK177.out 7
                go_wp2_with (first | (at_builtin; refine print_append_str (w0 := w) w.heap.size rfl (.tmp 20) _ 41 9 5 rfl Try.underlying41 Try.underlying9 info5 u3 x3_10 a0_3 rfl rfl ?aO ?aB ?aS ?aL ?_; (case aB => exact (by repeat (first | (with_reducible first | exact HB.out | apply below_alloc | apply pw_below_drewN | apply below_drew1 | refine below_set ?_ GE177.out) | exact HB.out))); (case aO => exact (Kd.own_of_R (by (with_reducible repeat (first | apply Kd.R_alloc | apply Kd.R_drewN | apply Kd.R_drew)); exact HO_3.out))); (case aS => exact (below_size (by repeat (first | (with_reducible first | exact HB.out | apply below_alloc | apply pw_below_drewN | apply below_drew1 | refine below_set ?_ GE177.out) | exact HB.out)))); (case aL => have h_ := LMc19.out; first | omega | (simp only [List.length_nil] at h_ ⊢; omega)); intro v191 w56 ho0 hb hg; have ho := Kd.R_of_own (h1 := fun _ => rfl) (ok := fun _ => True) ho0 (fun _ _ => trivial); clear ho0; have hat := True.intro; rw [← Ny190.out] at ho; change Kd.R (Kd.int .u8) 5 w56 w.heap.size (fun _ => True) v191 y190 at ho; have n0_ := Aside0.mk (blk_grown (g := gb177) (o := .cells #[.string a0_0, .bool a0_1, .string a0_2, .string a0_3, .bool false, .string a0_5, .bool false, .string a0_7] 23 (0, 0)) (by (with_reducible repeat (first | refine blk_drewN ?_ _ | refine blk_drew ?_ | refine blk_alloc ?_ _)); exact BK177.out) hg (Kd.R_ne HO_3.out BK177.out (by decide))); have n1_ := Aside0.mk (hb); have n2_ := Aside0.mk (ho); clear BK177; clear HB; clear HO_3; have BK177 := n0_; have HB := n1_; have HO192 := n2_; clear n0_ n1_ n2_; clear ho hb hg hat; have hcz57_0 : w56.cell? ⟨gb177, 0, none⟩ = some (.string a0_0) := (blk_cell BK177.out 0).trans rfl; have hcz57_1 : w56.cell? ⟨gb177, 1, none⟩ = some (.bool a0_1) := (blk_cell BK177.out 1).trans rfl; have hcz57_2 : w56.cell? ⟨gb177, 2, none⟩ = some (.string a0_2) := (blk_cell BK177.out 2).trans rfl; have hcz57_3 : w56.cell? ⟨gb177, 3, none⟩ = some (.string a0_3) := (blk_cell BK177.out 3).trans rfl; have hcz57_4 : w56.cell? ⟨gb177, 4, none⟩ = some (.bool false) := (blk_cell BK177.out 4).trans rfl; have hcz57_5 : w56.cell? ⟨gb177, 5, none⟩ = some (.string a0_5) := (blk_cell BK177.out 5).trans rfl; have hcz57_6 : w56.cell? ⟨gb177, 6, none⟩ = some (.bool false) := (blk_cell BK177.out 6).trans rfl; have hcz57_7 : w56.cell? ⟨gb177, 7, none⟩ = some (.string a0_7) := (blk_cell BK177.out 7).trans rfl; have hfz57_0 := blk_frozen BK177.out 0; have hfz57_1 := blk_frozen BK177.out 1; have hfz57_2 := blk_frozen BK177.out 2; have hfz57_3 := blk_frozen BK177.out 3; have hfz57_4 := blk_frozen BK177.out 4; have hfz57_5 := blk_frozen BK177.out 5; have hfz57_6 := blk_frozen BK177.out 6; have hfz57_7 := blk_frozen BK177.out 7; have hcv58 := own_string (P := Try.prog) Try.underlying41 Try.underlying5 Try.underlying9 (Kd.own_of_R HO192.out)))
                go_ret
                exact ⟨by first | rfl | (simp [errW_none, errW_some] <;> rfl) | (simp [*, errW_none, errW_some] <;> rfl), by repeat (first | (with_reducible first | exact HB.out | apply below_alloc | apply pw_below_drewN | apply below_drew1 | refine below_set ?_ GE177.out) | exact HB.out)⟩
          · rw [if_neg c19] at H
            exact absurd H (by simp)

end Go.Proofs.Ytgccggbokphibaa.PJoi
