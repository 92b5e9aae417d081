-- PRINTED BY print.sh 35421559b90ae4d0a3588c463048766b98c2df88dd9212a6774a882060cdf62d: not written by this session
import Derived.Test.YtejkfochijgkdaaPPairCasesx0
namespace Go.Proofs.Ytejkfochijgkdaa.PPairCases
open Go.RowKit Go.Proofs.YtejkfochijgkdaaW.PrintWords Go.Proofs.YtejkfochijgkdaaW.PrintLast Go.Proofs.YtejkfochijgkdaaW.PrintMore
attribute [local go_sem] max2_int min2_int max_two min_two max_three min_three max_four min_four   -- for this text's walks alone
set_option linter.unusedVariables false
set_option linter.unusedSimpArgs false

-- NOT PRINTED: function 13 (pair_Pairs_Excluded)

-- NOT PRINTED: function 23 (pair_Pairs_read)

-- NOT PRINTED: function 7 (pair_New)

-- NOT PRINTED: function 10 (pair_Pairs_Up)

-- NOT PRINTED: function 12 (pair_Pairs_Down)

/-! ### pair_look: function 32 -/
def pair_look.l0 : Nat → Int → List (S65) → Int → Int → Option (Int × Bool)
  | 0, _, _, _, _ => none
  | k + 1, x1, x8, x9, x10 => if x10 < x9 then (if 0 ≤ x10 then (if x10 < (x8.length : Int) then (if x1 ≥ ((rd_T65 x8 x10).f0) then (if x1 ≤ ((rd_T65 x8 x10).f1) then (if ((rd_T65 x8 x10).f2) = 0 then (none) else (if (Int.tmod (wrap32 (x1 - ((rd_T65 x8 x10).f0))) ((rd_T65 x8 x10).f2)) = 0 then (some (wrap32 (x1 + ((rd_T65 x8 x10).f3)), true)) else (pair_look.l0 k x1 x8 x9 (wrap64 (x10 + 1))))) else (pair_look.l0 k x1 x8 x9 (wrap64 (x10 + 1)))) else (pair_look.l0 k x1 x8 x9 (wrap64 (x10 + 1)))) else (none)) else (none)) else (some (x1, false))
def pair_look.f (k : Nat) (l0 : List (S65)) (a1 : Int) : Option (Int × Bool) := pair_look.l0 k a1 l0 (l0.length : Int) 0
theorem pair_look.mono_l : ∀ k, (∀ y0 y1 y2 y3, LeO (pair_look.l0 k y0 y1 y2 y3) (pair_look.l0 (k + 1) y0 y1 y2 y3))
  | 0 => fun _ _ _ _ r h => by simp [pair_look.l0] at h
  | k + 1 => by
    have ih0 := pair_look.mono_l k
    · intro y0 y1 y2 y3
      unfold pair_look.l0
      repeat' first
      | (with_reducible exact ih0 _ _ _ _)
      | (with_reducible exact LeO.refl _)
      | (with_reducible exact LeO.none _)
      | (with_reducible refine LeO.ite ?_ ?_)
      | (with_reducible refine LeO.bind ?_ (fun _ => ?_))
      | exact ih0 _ _ _ _
      | exact LeO.none _
      | refine LeO.ite ?_ ?_
      | refine LeO.bind ?_ (fun _ => ?_)
theorem pair_look.mono : ∀ a0 a1 k, LeO (pair_look.f k a0 a1) (pair_look.f (k + 1) a0 a1) := by
  intro a0 a1 k
  have ih0 := pair_look.mono_l k
  unfold pair_look.f
  repeat' first
      | (with_reducible exact ih0 _ _ _ _)
      | (with_reducible exact LeO.refl _)
      | (with_reducible exact LeO.none _)
      | (with_reducible refine LeO.ite ?_ ?_)
      | (with_reducible refine LeO.bind ?_ (fun _ => ?_))
      | exact ih0 _ _ _ _
      | exact LeO.none _
      | refine LeO.ite ?_ ?_
      | refine LeO.bind ?_ (fun _ => ?_)
set_option maxHeartbeats 8000000 in
set_option maxRecDepth 100000 in
theorem pair_look.calls (k : Nat) (A0 : Option Addr) (c0 : Nat) (l0 : List (S65)) (a1 : Int) (r1 : Int) (r2 : Bool) (w : World) (hr0 : Kd.C k65 w A0 l0.length l0) (hc0 : l0.length ≤ c0) (h : pair_look.f k l0 a1 = some (r1, r2)) :
    Calls Try.prog 32 #[.slice A0 l0.length c0, .int .i32 a1] w fun e w' => e = .returned (.tuple #[.int .i32 r1, .bool r2]) ∧ Below w.heap.size w w' := by
  have hu65 := Try.underlying65
  have HR0 := Aside0.mk hr0
  have HC0 := Aside0.mk hc0
  clear hr0 hc0
  have HB := Aside0.mk (Below.refl w.heap.size w)
  have H : (pair_look.l0 k a1 l0 (l0.length : Int) 0) = some (r1, r2) := h
  clear h
  have H' := Aside0.mk H
  clear H
  go_enter Try.func32, Try.ntmps32
  go_wp2
  go_loopg [10] k (fun kq v10 w' => ∃ (x10_1 : Int), v10 = .int .i64 x10_1 ∧ Aside0 (pair_look.l0 kq a1 l0 (l0.length : Int) x10_1 = some (r1, r2)) ∧ Aside0 (kq ≤ k) ∧ Aside0 (Below w.heap.size w w'))
  case atStart => exact ⟨(0), (by first | rfl | (simp; done) | (simp [*]; done)), H', ⟨Nat.le_refl _⟩, ⟨by repeat (first | (with_reducible first | exact HB.out | apply below_alloc | apply pw_below_drewN | apply below_drew1) | exact HB.out)⟩⟩
  case round =>
    clear H'
    try clear p2
    obtain ⟨x10_1, rfl, HA, HK1, HB⟩ := hrel
    cases gk with
    | zero => exact absurd HA.out (by simp [pair_look.l0])
    | succ k1 =>
      have H := HA.out
      clear HA
      simp only [pair_look.l0] at H
      by_cases c3 : x10_1 < (l0.length : Int)
      · rw [if_pos c3] at H
        have c3b0 : decide (x10_1 < (l0.length : Int)) = true := decide_eq_true c3
        clear c3
        by_cases c4 : 0 ≤ x10_1
        · rw [if_pos c4] at H
          have c4b0 : decide (0 ≤ x10_1) = true := decide_eq_true c4
          clear c4
          by_cases c5 : x10_1 < (l0.length : Int)
          · rw [if_pos c5] at H
            have c5b0 : decide (x10_1 < (l0.length : Int)) = true := decide_eq_true c5
            clear c5
            by_cases c6 : a1 ≥ ((rd_T65 l0 x10_1).f0)
            · rw [if_pos c6] at H
              have c6b0 : decide (((rd_T65 l0 x10_1).f0) ≤ a1) = true := decide_eq_true c6
              clear c6
              by_cases c7 : a1 ≤ ((rd_T65 l0 x10_1).f1)
              · rw [if_pos c7] at H
                have c7b0 : decide (a1 ≤ ((rd_T65 l0 x10_1).f1)) = true := decide_eq_true c7
                clear c7
                by_cases c8 : ((rd_T65 l0 x10_1).f2) = 0
                · rw [if_pos c8] at H
                  exact absurd H (by simp)
                · rw [if_neg c8] at H
                  have c8b0 : (((rd_T65 l0 x10_1).f2) == 0) = false := beq_eq_false_iff_ne.mpr c8
                  have c8b1 : (((rd_T65 l0 x10_1).f2) != 0) = true := bne_iff_ne.mpr c8
                  by_cases c9 : (Int.tmod (wrap32 (a1 - ((rd_T65 l0 x10_1).f0))) ((rd_T65 l0 x10_1).f2)) = 0
                  · rw [if_pos c9] at H
                    have c9b0 : ((Int.tmod (wrap32 (a1 - ((rd_T65 l0 x10_1).f0))) ((rd_T65 l0 x10_1).f2)) == 0) = true := beq_iff_eq.mpr c9
                    have c9b1 : ((Int.tmod (wrap32 (a1 - ((rd_T65 l0 x10_1).f0))) ((rd_T65 l0 x10_1).f2)) != 0) = false := bne_eq_false_iff_eq.mpr c9
                    clear c9
                    simp only [Option.some.injEq, Prod.mk.injEq] at H
                    obtain ⟨rfl, rfl⟩ := H
                    have p101 : 0 ≤ (x10_1 : Int) := of_decide_eq_true (by first | (with_reducible assumption) | assumption)
                    have q101 : x10_1 < (l0.length : Int) := of_decide_eq_true (by first | (with_reducible assumption) | assumption)
                    obtain ⟨ad101, e101, hx101_0, hx101_1, hx101_2, hx101_3⟩ := at_T65 HR0.out x10_1 p101 q101
                    cases e101
                    replace hx101_0 := (HB.out.cell (World.block_lt_of_cell? w _ hx101_0)).trans hx101_0
                    replace hx101_1 := (HB.out.cell (World.block_lt_of_cell? w _ hx101_1)).trans hx101_1
                    replace hx101_2 := (HB.out.cell (World.block_lt_of_cell? w _ hx101_2)).trans hx101_2
                    replace hx101_3 := (HB.out.cell (World.block_lt_of_cell? w _ hx101_3)).trans hx101_3
                    replace p101 := eq_true p101
                    replace q101 := eq_true q101
                    go_wp2_with (first | ((with_reducible refine gate_dst (N := 7) rfl ?_); refine box_event ?hg (N := 7) ?hd (cs := #[.int .i32 0, .int .i32 0, .int .i32 0, .int .i32 0]) (t := 65) ?hr ?_; (case hd => rfl); (case hg => rfl); (case hr => first | (go_simp; done) | (go_simp; rfl)); intro gb102 hg w10 hbox hb; have n0_ := Aside0.mk (below_step (by repeat (first | (with_reducible first | exact HB.out | apply below_alloc | apply pw_below_drewN | apply below_drew1) | exact HB.out)) hb); have n1_ := Aside0.mk (hbox); have n2_ := Aside0.mk ((by rw [hg]; exact (below_size (by repeat (first | (with_reducible first | exact HB.out | apply below_alloc | apply pw_below_drewN | apply below_drew1) | exact HB.out))) : w.heap.size ≤ gb102)); have n3_ := Aside0.mk ((by rw [hg]; exact (below_size (by repeat (first | (with_reducible first | exact HB.out | apply below_alloc | apply pw_below_drewN | apply below_drew1) | exact HB.out))) : w.heap.size ≤ gb102)); clear HB; have HB := n0_; have BK102 := n1_; have GW102 := n2_; have GE102 := n3_; clear n0_ n1_ n2_ n3_; clear hb hbox hg; have hcz11_0 : w10.cell? ⟨gb102, 0, none⟩ = some (.int .i32 0) := (blk_cell BK102.out 0).trans rfl; have hcz11_1 : w10.cell? ⟨gb102, 1, none⟩ = some (.int .i32 0) := (blk_cell BK102.out 1).trans rfl; have hcz11_2 : w10.cell? ⟨gb102, 2, none⟩ = some (.int .i32 0) := (blk_cell BK102.out 2).trans rfl; have hcz11_3 : w10.cell? ⟨gb102, 3, none⟩ = some (.int .i32 0) := (blk_cell BK102.out 3).trans rfl; have hfz11_0 := blk_frozen BK102.out 0; have hfz11_1 := blk_frozen BK102.out 1; have hfz11_2 := blk_frozen BK102.out 2; have hfz11_3 := blk_frozen BK102.out 3))
                    go_ret2
                    exact ⟨by first | rfl | (simp [errW_none, errW_some] <;> rfl) | (simp [*, errW_none, errW_some] <;> rfl), by repeat (first | (with_reducible first | exact HB.out | apply below_alloc | apply pw_below_drewN | apply below_drew1 | refine below_set ?_ GE102.out) | exact HB.out)⟩
                  · rw [if_neg c9] at H
                    have c9b0 : ((Int.tmod (wrap32 (a1 - ((rd_T65 l0 x10_1).f0))) ((rd_T65 l0 x10_1).f2)) == 0) = false := beq_eq_false_iff_ne.mpr c9
                    have c9b1 : ((Int.tmod (wrap32 (a1 - ((rd_T65 l0 x10_1).f0))) ((rd_T65 l0 x10_1).f2)) != 0) = true := bne_iff_ne.mpr c9
                    have H' := Aside0.mk H
                    clear H
                    have p101 : 0 ≤ (x10_1 : Int) := of_decide_eq_true (by first | (with_reducible assumption) | assumption)
                    have q101 : x10_1 < (l0.length : Int) := of_decide_eq_true (by first | (with_reducible assumption) | assumption)
                    obtain ⟨ad101, e101, hx101_0, hx101_1, hx101_2, hx101_3⟩ := at_T65 HR0.out x10_1 p101 q101
                    cases e101
                    replace hx101_0 := (HB.out.cell (World.block_lt_of_cell? w _ hx101_0)).trans hx101_0
                    replace hx101_1 := (HB.out.cell (World.block_lt_of_cell? w _ hx101_1)).trans hx101_1
                    replace hx101_2 := (HB.out.cell (World.block_lt_of_cell? w _ hx101_2)).trans hx101_2
                    replace hx101_3 := (HB.out.cell (World.block_lt_of_cell? w _ hx101_3)).trans hx101_3
                    replace p101 := eq_true p101
                    replace q101 := eq_true q101
                    go_wp2_with (first | ((with_reducible refine gate_dst (N := 7) rfl ?_); refine box_event ?hg (N := 7) ?hd (cs := #[.int .i32 0, .int .i32 0, .int .i32 0, .int .i32 0]) (t := 65) ?hr ?_; (case hd => rfl); (case hg => rfl); (case hr => first | (go_simp; done) | (go_simp; rfl)); intro gb102 hg w12 hbox hb; have n0_ := Aside0.mk (below_step (by repeat (first | (with_reducible first | exact HB.out | apply below_alloc | apply pw_below_drewN | apply below_drew1) | exact HB.out)) hb); have n1_ := Aside0.mk (hbox); have n2_ := Aside0.mk ((by rw [hg]; exact (below_size (by repeat (first | (with_reducible first | exact HB.out | apply below_alloc | apply pw_below_drewN | apply below_drew1) | exact HB.out))) : w.heap.size ≤ gb102)); have n3_ := Aside0.mk ((by rw [hg]; exact (below_size (by repeat (first | (with_reducible first | exact HB.out | apply below_alloc | apply pw_below_drewN | apply below_drew1) | exact HB.out))) : w.heap.size ≤ gb102)); clear HB; have HB := n0_; have BK102 := n1_; have GW102 := n2_; have GE102 := n3_; clear n0_ n1_ n2_ n3_; clear hb hbox hg; have hcz13_0 : w12.cell? ⟨gb102, 0, none⟩ = some (.int .i32 0) := (blk_cell BK102.out 0).trans rfl; have hcz13_1 : w12.cell? ⟨gb102, 1, none⟩ = some (.int .i32 0) := (blk_cell BK102.out 1).trans rfl; have hcz13_2 : w12.cell? ⟨gb102, 2, none⟩ = some (.int .i32 0) := (blk_cell BK102.out 2).trans rfl; have hcz13_3 : w12.cell? ⟨gb102, 3, none⟩ = some (.int .i32 0) := (blk_cell BK102.out 3).trans rfl; have hfz13_0 := blk_frozen BK102.out 0; have hfz13_1 := blk_frozen BK102.out 1; have hfz13_2 := blk_frozen BK102.out 2; have hfz13_3 := blk_frozen BK102.out 3))
                    go_roundg k1
                    case measure => have := HK1.out; omega
                    case rel => exact ⟨(wrap64 (x10_1 + 1)), (by first | rfl | (simp; done) | (simp [*]; done)), H', ⟨by have := HK1.out; omega⟩, ⟨by repeat (first | (with_reducible first | exact HB.out | apply below_alloc | apply pw_below_drewN | apply below_drew1 | refine below_set ?_ GE102.out) | exact HB.out)⟩⟩
              · rw [if_neg c7] at H
                have c7b0 : decide (a1 ≤ ((rd_T65 l0 x10_1).f1)) = false := decide_eq_false c7
                clear c7
                have H' := Aside0.mk H
                clear H
                have p101 : 0 ≤ (x10_1 : Int) := of_decide_eq_true (by first | (with_reducible assumption) | assumption)
                have q101 : x10_1 < (l0.length : Int) := of_decide_eq_true (by first | (with_reducible assumption) | assumption)
                obtain ⟨ad101, e101, hx101_0, hx101_1, hx101_2, hx101_3⟩ := at_T65 HR0.out x10_1 p101 q101
                cases e101
                replace hx101_0 := (HB.out.cell (World.block_lt_of_cell? w _ hx101_0)).trans hx101_0
                replace hx101_1 := (HB.out.cell (World.block_lt_of_cell? w _ hx101_1)).trans hx101_1
                replace hx101_2 := (HB.out.cell (World.block_lt_of_cell? w _ hx101_2)).trans hx101_2
                replace hx101_3 := (HB.out.cell (World.block_lt_of_cell? w _ hx101_3)).trans hx101_3
                replace p101 := eq_true p101
                replace q101 := eq_true q101
                go_wp2_with (first | ((with_reducible refine gate_dst (N := 7) rfl ?_); refine box_event ?hg (N := 7) ?hd (cs := #[.int .i32 0, .int .i32 0, .int .i32 0, .int .i32 0]) (t := 65) ?hr ?_; (case hd => rfl); (case hg => rfl); (case hr => first | (go_simp; done) | (go_simp; rfl)); intro gb102 hg w14 hbox hb; have n0_ := Aside0.mk (below_step (by repeat (first | (with_reducible first | exact HB.out | apply below_alloc | apply pw_below_drewN | apply below_drew1) | exact HB.out)) hb); have n1_ := Aside0.mk (hbox); have n2_ := Aside0.mk ((by rw [hg]; exact (below_size (by repeat (first | (with_reducible first | exact HB.out | apply below_alloc | apply pw_below_drewN | apply below_drew1) | exact HB.out))) : w.heap.size ≤ gb102)); have n3_ := Aside0.mk ((by rw [hg]; exact (below_size (by repeat (first | (with_reducible first | exact HB.out | apply below_alloc | apply pw_below_drewN | apply below_drew1) | exact HB.out))) : w.heap.size ≤ gb102)); clear HB; have HB := n0_; have BK102 := n1_; have GW102 := n2_; have GE102 := n3_; clear n0_ n1_ n2_ n3_; clear hb hbox hg; have hcz15_0 : w14.cell? ⟨gb102, 0, none⟩ = some (.int .i32 0) := (blk_cell BK102.out 0).trans rfl; have hcz15_1 : w14.cell? ⟨gb102, 1, none⟩ = some (.int .i32 0) := (blk_cell BK102.out 1).trans rfl; have hcz15_2 : w14.cell? ⟨gb102, 2, none⟩ = some (.int .i32 0) := (blk_cell BK102.out 2).trans rfl; have hcz15_3 : w14.cell? ⟨gb102, 3, none⟩ = some (.int .i32 0) := (blk_cell BK102.out 3).trans rfl; have hfz15_0 := blk_frozen BK102.out 0; have hfz15_1 := blk_frozen BK102.out 1; have hfz15_2 := blk_frozen BK102.out 2; have hfz15_3 := blk_frozen BK102.out 3))
                go_roundg k1
                case measure => have := HK1.out; omega
                case rel => exact ⟨(wrap64 (x10_1 + 1)), (by first | rfl | (simp; done) | (simp [*]; done)), H', ⟨by have := HK1.out; omega⟩, ⟨by repeat (first | (with_reducible first | exact HB.out | apply below_alloc | apply pw_below_drewN | apply below_drew1 | refine below_set ?_ GE102.out) | exact HB.out)⟩⟩
            · rw [if_neg c6] at H
              have c6b0 : decide (((rd_T65 l0 x10_1).f0) ≤ a1) = false := decide_eq_false c6
              clear c6
              have H' := Aside0.mk H
              clear H
              have p101 : 0 ≤ (x10_1 : Int) := of_decide_eq_true (by first | (with_reducible assumption) | assumption)
              have q101 : x10_1 < (l0.length : Int) := of_decide_eq_true (by first | (with_reducible assumption) | assumption)
              obtain ⟨ad101, e101, hx101_0, hx101_1, hx101_2, hx101_3⟩ := at_T65 HR0.out x10_1 p101 q101
              cases e101
              replace hx101_0 := (HB.out.cell (World.block_lt_of_cell? w _ hx101_0)).trans hx101_0
              replace hx101_1 := (HB.out.cell (World.block_lt_of_cell? w _ hx101_1)).trans hx101_1
              replace hx101_2 := (HB.out.cell (World.block_lt_of_cell? w _ hx101_2)).trans hx101_2
              replace hx101_3 := (HB.out.cell (World.block_lt_of_cell? w _ hx101_3)).trans hx101_3
              replace p101 := eq_true p101
              replace q101 := eq_true q101
              go_wp2_with (first | ((with_reducible refine gate_dst (N := 7) rfl ?_); refine box_event ?hg (N := 7) ?hd (cs := #[.int .i32 0, .int .i32 0, .int .i32 0, .int .i32 0]) (t := 65) ?hr ?_; (case hd => rfl); (case hg => rfl); (case hr => first | (go_simp; done) | (go_simp; rfl)); intro gb102 hg w16 hbox hb; have n0_ := Aside0.mk (below_step (by repeat (first | (with_reducible first | exact HB.out | apply below_alloc | apply pw_below_drewN | apply below_drew1) | exact HB.out)) hb); have n1_ := Aside0.mk (hbox); have n2_ := Aside0.mk ((by rw [hg]; exact (below_size (by repeat (first | (with_reducible first | exact HB.out | apply below_alloc | apply pw_below_drewN | apply below_drew1) | exact HB.out))) : w.heap.size ≤ gb102)); have n3_ := Aside0.mk ((by rw [hg]; exact (below_size (by repeat (first | (with_reducible first | exact HB.out | apply below_alloc | apply pw_below_drewN | apply below_drew1) | exact HB.out))) : w.heap.size ≤ gb102)); clear HB; have HB := n0_; have BK102 := n1_; have GW102 := n2_; have GE102 := n3_; clear n0_ n1_ n2_ n3_; clear hb hbox hg; have hcz17_0 : w16.cell? ⟨gb102, 0, none⟩ = some (.int .i32 0) := (blk_cell BK102.out 0).trans rfl; have hcz17_1 : w16.cell? ⟨gb102, 1, none⟩ = some (.int .i32 0) := (blk_cell BK102.out 1).trans rfl; have hcz17_2 : w16.cell? ⟨gb102, 2, none⟩ = some (.int .i32 0) := (blk_cell BK102.out 2).trans rfl; have hcz17_3 : w16.cell? ⟨gb102, 3, none⟩ = some (.int .i32 0) := (blk_cell BK102.out 3).trans rfl; have hfz17_0 := blk_frozen BK102.out 0; have hfz17_1 := blk_frozen BK102.out 1; have hfz17_2 := blk_frozen BK102.out 2; have hfz17_3 := blk_frozen BK102.out 3))
              go_roundg k1
              case measure => have := HK1.out; omega
              case rel => exact ⟨(wrap64 (x10_1 + 1)), (by first | rfl | (simp; done) | (simp [*]; done)), H', ⟨by have := HK1.out; omega⟩, ⟨by repeat (first | (with_reducible first | exact HB.out | apply below_alloc | apply pw_below_drewN | apply below_drew1 | refine below_set ?_ GE102.out) | exact HB.out)⟩⟩
          · rw [if_neg c5] at H
            exact absurd H (by simp)
        · rw [if_neg c4] at H
          exact absurd H (by simp)
      · rw [if_neg c3] at H
        have c3b0 : decide (x10_1 < (l0.length : Int)) = false := decide_eq_false c3
        clear c3
        simp only [Option.some.injEq, Prod.mk.injEq] at H
        obtain ⟨rfl, rfl⟩ := H
        go_wp2
        go_ret2
        exact ⟨by first | rfl | (simp [errW_none, errW_some] <;> rfl) | (simp [*, errW_none, errW_some] <;> rfl), by repeat (first | (with_reducible first | exact HB.out | apply below_alloc | apply pw_below_drewN | apply below_drew1) | exact HB.out)⟩

/-! ### pair_latin: function 33 -/
def pair_latin.f  : Option ((List (S65))) := some (([(⟨65, 90, 1, 32⟩ : S65), (⟨192, 214, 1, 32⟩ : S65), (⟨216, 222, 1, 32⟩ : S65), (⟨256, 302, 2, 1⟩ : S65), (⟨304, 304, 1, (-199)⟩ : S65), (⟨306, 310, 2, 1⟩ : S65), (⟨313, 327, 2, 1⟩ : S65), (⟨330, 374, 2, 1⟩ : S65), (⟨376, 376, 1, (-121)⟩ : S65), (⟨377, 381, 2, 1⟩ : S65), (⟨416, 416, 1, 1⟩ : S65), (⟨431, 431, 1, 1⟩ : S65), (⟨461, 475, 2, 1⟩ : S65), (⟨7840, 7928, 2, 1⟩ : S65)] : List (S65)))
set_option maxHeartbeats 8000000 in
set_option maxRecDepth 100000 in
theorem pair_latin.calls  (r : List (S65)) (w : World) (h : pair_latin.f  = some r) :
    Calls Try.prog 33 #[] w fun e w' => ∃ v0_ : Value, e = .returned (v0_) ∧ Kd.R k65 65 w' w.heap.size (fun _ => True) v0_ r ∧ Below w.heap.size w w' := by
  have hu65 := Try.underlying65
  have HB := Aside0.mk (Below.refl w.heap.size w)
  have H : (some (([(⟨65, 90, 1, 32⟩ : S65), (⟨192, 214, 1, 32⟩ : S65), (⟨216, 222, 1, 32⟩ : S65), (⟨256, 302, 2, 1⟩ : S65), (⟨304, 304, 1, (-199)⟩ : S65), (⟨306, 310, 2, 1⟩ : S65), (⟨313, 327, 2, 1⟩ : S65), (⟨330, 374, 2, 1⟩ : S65), (⟨376, 376, 1, (-121)⟩ : S65), (⟨377, 381, 2, 1⟩ : S65), (⟨416, 416, 1, 1⟩ : S65), (⟨431, 431, 1, 1⟩ : S65), (⟨461, 475, 2, 1⟩ : S65), (⟨7840, 7928, 2, 1⟩ : S65)] : List (S65)))) = some r := h
  clear h
  obtain ⟨y103, hy103⟩ : ∃ y_ : List (S65), y_ = (([(⟨65, 90, 1, 32⟩ : S65), (⟨192, 214, 1, 32⟩ : S65), (⟨216, 222, 1, 32⟩ : S65), (⟨256, 302, 2, 1⟩ : S65), (⟨304, 304, 1, (-199)⟩ : S65), (⟨306, 310, 2, 1⟩ : S65), (⟨313, 327, 2, 1⟩ : S65), (⟨330, 374, 2, 1⟩ : S65), (⟨376, 376, 1, (-121)⟩ : S65), (⟨377, 381, 2, 1⟩ : S65), (⟨416, 416, 1, 1⟩ : S65), (⟨431, 431, 1, 1⟩ : S65), (⟨461, 475, 2, 1⟩ : S65), (⟨7840, 7928, 2, 1⟩ : S65)] : List (S65))) := ⟨_, rfl⟩
  replace H : (some y103) = some r := by first | (rw [hy103]; with_reducible exact H) | (have H2_ := (Option.bind_some _ _).symm.trans H; rw [hy103]; with_reducible exact H2_) | (have H2_ := (Option.bind_some _ _).symm.trans H; with_reducible exact H2_) | with_reducible exact H | (rw [hy103]; exact H) | exact H
  have Ny103 := Aside0.mk hy103
  clear hy103
  obtain rfl := Option.some.inj H
  go_enter Try.func33, Try.ntmps33
  go_wp2_with (first | ((with_reducible refine gate_dst (N := 15) rfl ?_); refine Kd.R_lit k65 _ 65 ?hg (N := 15) ?hd (xs := ([(⟨65, 90, 1, 32⟩ : S65), (⟨192, 214, 1, 32⟩ : S65), (⟨216, 222, 1, 32⟩ : S65), (⟨256, 302, 2, 1⟩ : S65), (⟨304, 304, 1, (-199)⟩ : S65), (⟨306, 310, 2, 1⟩ : S65), (⟨313, 327, 2, 1⟩ : S65), (⟨330, 374, 2, 1⟩ : S65), (⟨376, 376, 1, (-121)⟩ : S65), (⟨377, 381, 2, 1⟩ : S65), (⟨416, 416, 1, 1⟩ : S65), (⟨431, 431, 1, 1⟩ : S65), (⟨461, 475, 2, 1⟩ : S65), (⟨7840, 7928, 2, 1⟩ : S65)] : List (S65))) (inner := [.int .i32 65, .int .i32 90, .int .i32 1, .int .i32 32, .int .i32 192, .int .i32 214, .int .i32 1, .int .i32 32, .int .i32 216, .int .i32 222, .int .i32 1, .int .i32 32, .int .i32 256, .int .i32 302, .int .i32 2, .int .i32 1, .int .i32 304, .int .i32 304, .int .i32 1, .int .i32 (-199), .int .i32 306, .int .i32 310, .int .i32 2, .int .i32 1, .int .i32 313, .int .i32 327, .int .i32 2, .int .i32 1, .int .i32 330, .int .i32 374, .int .i32 2, .int .i32 1, .int .i32 376, .int .i32 376, .int .i32 1, .int .i32 (-121), .int .i32 377, .int .i32 381, .int .i32 2, .int .i32 1, .int .i32 416, .int .i32 416, .int .i32 1, .int .i32 1, .int .i32 431, .int .i32 431, .int .i32 1, .int .i32 1, .int .i32 461, .int .i32 475, .int .i32 2, .int .i32 1, .int .i32 7840, .int .i32 7928, .int .i32 2, .int .i32 1]) (ok := fun _ => True) (okp := fun _ => True) ?hr ?hp (fun _ hk => hk) trivial (Below.refl _ _) (Nat.le_refl _) (by simp) ?_; (case hd => rfl); (case hg => rfl); (case hr => first | (go_simp; done) | (go_simp; rfl)); (case hp => exact (Reps.c4 (show Kd.M k65 _ _ _ (⟨65, 90, 1, 32⟩ : S65) [.int .i32 65, .int .i32 90, .int .i32 1, .int .i32 32] from (k65_mkM _ _ _ (⟨65, 90, 1, 32⟩ : S65) )) (Reps.c4 (show Kd.M k65 _ _ _ (⟨192, 214, 1, 32⟩ : S65) [.int .i32 192, .int .i32 214, .int .i32 1, .int .i32 32] from (k65_mkM _ _ _ (⟨192, 214, 1, 32⟩ : S65) )) (Reps.c4 (show Kd.M k65 _ _ _ (⟨216, 222, 1, 32⟩ : S65) [.int .i32 216, .int .i32 222, .int .i32 1, .int .i32 32] from (k65_mkM _ _ _ (⟨216, 222, 1, 32⟩ : S65) )) (Reps.c4 (show Kd.M k65 _ _ _ (⟨256, 302, 2, 1⟩ : S65) [.int .i32 256, .int .i32 302, .int .i32 2, .int .i32 1] from (k65_mkM _ _ _ (⟨256, 302, 2, 1⟩ : S65) )) (Reps.c4 (show Kd.M k65 _ _ _ (⟨304, 304, 1, (-199)⟩ : S65) [.int .i32 304, .int .i32 304, .int .i32 1, .int .i32 (-199)] from (k65_mkM _ _ _ (⟨304, 304, 1, (-199)⟩ : S65) )) (Reps.c4 (show Kd.M k65 _ _ _ (⟨306, 310, 2, 1⟩ : S65) [.int .i32 306, .int .i32 310, .int .i32 2, .int .i32 1] from (k65_mkM _ _ _ (⟨306, 310, 2, 1⟩ : S65) )) (Reps.c4 (show Kd.M k65 _ _ _ (⟨313, 327, 2, 1⟩ : S65) [.int .i32 313, .int .i32 327, .int .i32 2, .int .i32 1] from (k65_mkM _ _ _ (⟨313, 327, 2, 1⟩ : S65) )) (Reps.c4 (show Kd.M k65 _ _ _ (⟨330, 374, 2, 1⟩ : S65) [.int .i32 330, .int .i32 374, .int .i32 2, .int .i32 1] from (k65_mkM _ _ _ (⟨330, 374, 2, 1⟩ : S65) )) (Reps.c4 (show Kd.M k65 _ _ _ (⟨376, 376, 1, (-121)⟩ : S65) [.int .i32 376, .int .i32 376, .int .i32 1, .int .i32 (-121)] from (k65_mkM _ _ _ (⟨376, 376, 1, (-121)⟩ : S65) )) (Reps.c4 (show Kd.M k65 _ _ _ (⟨377, 381, 2, 1⟩ : S65) [.int .i32 377, .int .i32 381, .int .i32 2, .int .i32 1] from (k65_mkM _ _ _ (⟨377, 381, 2, 1⟩ : S65) )) (Reps.c4 (show Kd.M k65 _ _ _ (⟨416, 416, 1, 1⟩ : S65) [.int .i32 416, .int .i32 416, .int .i32 1, .int .i32 1] from (k65_mkM _ _ _ (⟨416, 416, 1, 1⟩ : S65) )) (Reps.c4 (show Kd.M k65 _ _ _ (⟨431, 431, 1, 1⟩ : S65) [.int .i32 431, .int .i32 431, .int .i32 1, .int .i32 1] from (k65_mkM _ _ _ (⟨431, 431, 1, 1⟩ : S65) )) (Reps.c4 (show Kd.M k65 _ _ _ (⟨461, 475, 2, 1⟩ : S65) [.int .i32 461, .int .i32 475, .int .i32 2, .int .i32 1] from (k65_mkM _ _ _ (⟨461, 475, 2, 1⟩ : S65) )) (Reps.c4 (show Kd.M k65 _ _ _ (⟨7840, 7928, 2, 1⟩ : S65) [.int .i32 7840, .int .i32 7928, .int .i32 2, .int .i32 1] from (k65_mkM _ _ _ (⟨7840, 7928, 2, 1⟩ : S65) )) (Reps.none _ _)))))))))))))))); intro v104 w1 ho2 hb hg_ hnew_; clear hg_ hnew_; (first | rw [← Ny103.out] at ho2 | (simp only [Int.reduceToNat] at ho2; rw [← Ny103.out] at ho2)); have n0_ := Aside0.mk (Kd.R_lower ho2 (below_size (by repeat (first | (with_reducible first | exact HB.out | apply below_alloc | apply pw_below_drewN | apply below_drew1) | exact HB.out)))); have n1_ := Aside0.mk (below_step (by repeat (first | (with_reducible first | exact HB.out | apply below_alloc | apply pw_below_drewN | apply below_drew1) | exact HB.out)) hb); clear HB; have HO105 := n0_; have HB := n1_; clear n0_ n1_; clear hb ho2))
  go_ret
  exact ⟨_, by first | rfl | (simp [errW_none, errW_some] <;> rfl) | (simp [*, errW_none, errW_some] <;> rfl), by (with_reducible repeat (first | apply Kd.R_alloc | apply Kd.R_drewN | apply Kd.R_drew)); exact HO105.out, by repeat (first | (with_reducible first | exact HB.out | apply below_alloc | apply pw_below_drewN | apply below_drew1) | exact HB.out)⟩

/-! ### pair_others: function 34 -/
def pair_others.f  : Option ((List (S65))) := some (([(⟨902, 902, 1, 38⟩ : S65), (⟨904, 906, 1, 37⟩ : S65), (⟨908, 908, 1, 64⟩ : S65), (⟨910, 911, 1, 63⟩ : S65), (⟨913, 929, 1, 32⟩ : S65), (⟨931, 939, 1, 32⟩ : S65), (⟨1024, 1039, 1, 80⟩ : S65), (⟨1040, 1071, 1, 32⟩ : S65), (⟨8486, 8486, 1, (-7517)⟩ : S65), (⟨8490, 8490, 1, (-8383)⟩ : S65), (⟨8491, 8491, 1, (-8262)⟩ : S65), (⟨65313, 65338, 1, 32⟩ : S65), (⟨66560, 66599, 1, 40⟩ : S65)] : List (S65)))
set_option maxHeartbeats 8000000 in
set_option maxRecDepth 100000 in
theorem pair_others.calls  (r : List (S65)) (w : World) (h : pair_others.f  = some r) :
    Calls Try.prog 34 #[] w fun e w' => ∃ v0_ : Value, e = .returned (v0_) ∧ Kd.R k65 65 w' w.heap.size (fun _ => True) v0_ r ∧ Below w.heap.size w w' := by
  have hu65 := Try.underlying65
  have HB := Aside0.mk (Below.refl w.heap.size w)
  have H : (some (([(⟨902, 902, 1, 38⟩ : S65), (⟨904, 906, 1, 37⟩ : S65), (⟨908, 908, 1, 64⟩ : S65), (⟨910, 911, 1, 63⟩ : S65), (⟨913, 929, 1, 32⟩ : S65), (⟨931, 939, 1, 32⟩ : S65), (⟨1024, 1039, 1, 80⟩ : S65), (⟨1040, 1071, 1, 32⟩ : S65), (⟨8486, 8486, 1, (-7517)⟩ : S65), (⟨8490, 8490, 1, (-8383)⟩ : S65), (⟨8491, 8491, 1, (-8262)⟩ : S65), (⟨65313, 65338, 1, 32⟩ : S65), (⟨66560, 66599, 1, 40⟩ : S65)] : List (S65)))) = some r := h
  clear h
  obtain ⟨y106, hy106⟩ : ∃ y_ : List (S65), y_ = (([(⟨902, 902, 1, 38⟩ : S65), (⟨904, 906, 1, 37⟩ : S65), (⟨908, 908, 1, 64⟩ : S65), (⟨910, 911, 1, 63⟩ : S65), (⟨913, 929, 1, 32⟩ : S65), (⟨931, 939, 1, 32⟩ : S65), (⟨1024, 1039, 1, 80⟩ : S65), (⟨1040, 1071, 1, 32⟩ : S65), (⟨8486, 8486, 1, (-7517)⟩ : S65), (⟨8490, 8490, 1, (-8383)⟩ : S65), (⟨8491, 8491, 1, (-8262)⟩ : S65), (⟨65313, 65338, 1, 32⟩ : S65), (⟨66560, 66599, 1, 40⟩ : S65)] : List (S65))) := ⟨_, rfl⟩
  replace H : (some y106) = some r := by first | (rw [hy106]; with_reducible exact H) | (have H2_ := (Option.bind_some _ _).symm.trans H; rw [hy106]; with_reducible exact H2_) | (have H2_ := (Option.bind_some _ _).symm.trans H; with_reducible exact H2_) | with_reducible exact H | (rw [hy106]; exact H) | exact H
  have Ny106 := Aside0.mk hy106
  clear hy106
  obtain rfl := Option.some.inj H
  go_enter Try.func34, Try.ntmps34
  go_wp2_with (first | ((with_reducible refine gate_dst (N := 14) rfl ?_); refine Kd.R_lit k65 _ 65 ?hg (N := 14) ?hd (xs := ([(⟨902, 902, 1, 38⟩ : S65), (⟨904, 906, 1, 37⟩ : S65), (⟨908, 908, 1, 64⟩ : S65), (⟨910, 911, 1, 63⟩ : S65), (⟨913, 929, 1, 32⟩ : S65), (⟨931, 939, 1, 32⟩ : S65), (⟨1024, 1039, 1, 80⟩ : S65), (⟨1040, 1071, 1, 32⟩ : S65), (⟨8486, 8486, 1, (-7517)⟩ : S65), (⟨8490, 8490, 1, (-8383)⟩ : S65), (⟨8491, 8491, 1, (-8262)⟩ : S65), (⟨65313, 65338, 1, 32⟩ : S65), (⟨66560, 66599, 1, 40⟩ : S65)] : List (S65))) (inner := [.int .i32 902, .int .i32 902, .int .i32 1, .int .i32 38, .int .i32 904, .int .i32 906, .int .i32 1, .int .i32 37, .int .i32 908, .int .i32 908, .int .i32 1, .int .i32 64, .int .i32 910, .int .i32 911, .int .i32 1, .int .i32 63, .int .i32 913, .int .i32 929, .int .i32 1, .int .i32 32, .int .i32 931, .int .i32 939, .int .i32 1, .int .i32 32, .int .i32 1024, .int .i32 1039, .int .i32 1, .int .i32 80, .int .i32 1040, .int .i32 1071, .int .i32 1, .int .i32 32, .int .i32 8486, .int .i32 8486, .int .i32 1, .int .i32 (-7517), .int .i32 8490, .int .i32 8490, .int .i32 1, .int .i32 (-8383), .int .i32 8491, .int .i32 8491, .int .i32 1, .int .i32 (-8262), .int .i32 65313, .int .i32 65338, .int .i32 1, .int .i32 32, .int .i32 66560, .int .i32 66599, .int .i32 1, .int .i32 40]) (ok := fun _ => True) (okp := fun _ => True) ?hr ?hp (fun _ hk => hk) trivial (Below.refl _ _) (Nat.le_refl _) (by simp) ?_; (case hd => rfl); (case hg => rfl); (case hr => first | (go_simp; done) | (go_simp; rfl)); (case hp => exact (Reps.c4 (show Kd.M k65 _ _ _ (⟨902, 902, 1, 38⟩ : S65) [.int .i32 902, .int .i32 902, .int .i32 1, .int .i32 38] from (k65_mkM _ _ _ (⟨902, 902, 1, 38⟩ : S65) )) (Reps.c4 (show Kd.M k65 _ _ _ (⟨904, 906, 1, 37⟩ : S65) [.int .i32 904, .int .i32 906, .int .i32 1, .int .i32 37] from (k65_mkM _ _ _ (⟨904, 906, 1, 37⟩ : S65) )) (Reps.c4 (show Kd.M k65 _ _ _ (⟨908, 908, 1, 64⟩ : S65) [.int .i32 908, .int .i32 908, .int .i32 1, .int .i32 64] from (k65_mkM _ _ _ (⟨908, 908, 1, 64⟩ : S65) )) (Reps.c4 (show Kd.M k65 _ _ _ (⟨910, 911, 1, 63⟩ : S65) [.int .i32 910, .int .i32 911, .int .i32 1, .int .i32 63] from (k65_mkM _ _ _ (⟨910, 911, 1, 63⟩ : S65) )) (Reps.c4 (show Kd.M k65 _ _ _ (⟨913, 929, 1, 32⟩ : S65) [.int .i32 913, .int .i32 929, .int .i32 1, .int .i32 32] from (k65_mkM _ _ _ (⟨913, 929, 1, 32⟩ : S65) )) (Reps.c4 (show Kd.M k65 _ _ _ (⟨931, 939, 1, 32⟩ : S65) [.int .i32 931, .int .i32 939, .int .i32 1, .int .i32 32] from (k65_mkM _ _ _ (⟨931, 939, 1, 32⟩ : S65) )) (Reps.c4 (show Kd.M k65 _ _ _ (⟨1024, 1039, 1, 80⟩ : S65) [.int .i32 1024, .int .i32 1039, .int .i32 1, .int .i32 80] from (k65_mkM _ _ _ (⟨1024, 1039, 1, 80⟩ : S65) )) (Reps.c4 (show Kd.M k65 _ _ _ (⟨1040, 1071, 1, 32⟩ : S65) [.int .i32 1040, .int .i32 1071, .int .i32 1, .int .i32 32] from (k65_mkM _ _ _ (⟨1040, 1071, 1, 32⟩ : S65) )) (Reps.c4 (show Kd.M k65 _ _ _ (⟨8486, 8486, 1, (-7517)⟩ : S65) [.int .i32 8486, .int .i32 8486, .int .i32 1, .int .i32 (-7517)] from (k65_mkM _ _ _ (⟨8486, 8486, 1, (-7517)⟩ : S65) )) (Reps.c4 (show Kd.M k65 _ _ _ (⟨8490, 8490, 1, (-8383)⟩ : S65) [.int .i32 8490, .int .i32 8490, .int .i32 1, .int .i32 (-8383)] from (k65_mkM _ _ _ (⟨8490, 8490, 1, (-8383)⟩ : S65) )) (Reps.c4 (show Kd.M k65 _ _ _ (⟨8491, 8491, 1, (-8262)⟩ : S65) [.int .i32 8491, .int .i32 8491, .int .i32 1, .int .i32 (-8262)] from (k65_mkM _ _ _ (⟨8491, 8491, 1, (-8262)⟩ : S65) )) (Reps.c4 (show Kd.M k65 _ _ _ (⟨65313, 65338, 1, 32⟩ : S65) [.int .i32 65313, .int .i32 65338, .int .i32 1, .int .i32 32] from (k65_mkM _ _ _ (⟨65313, 65338, 1, 32⟩ : S65) )) (Reps.c4 (show Kd.M k65 _ _ _ (⟨66560, 66599, 1, 40⟩ : S65) [.int .i32 66560, .int .i32 66599, .int .i32 1, .int .i32 40] from (k65_mkM _ _ _ (⟨66560, 66599, 1, 40⟩ : S65) )) (Reps.none _ _))))))))))))))); intro v107 w1 ho2 hb hg_ hnew_; clear hg_ hnew_; (first | rw [← Ny106.out] at ho2 | (simp only [Int.reduceToNat] at ho2; rw [← Ny106.out] at ho2)); have n0_ := Aside0.mk (Kd.R_lower ho2 (below_size (by repeat (first | (with_reducible first | exact HB.out | apply below_alloc | apply pw_below_drewN | apply below_drew1) | exact HB.out)))); have n1_ := Aside0.mk (below_step (by repeat (first | (with_reducible first | exact HB.out | apply below_alloc | apply pw_below_drewN | apply below_drew1) | exact HB.out)) hb); clear HB; have HO108 := n0_; have HB := n1_; clear n0_ n1_; clear hb ho2))
  go_ret
  exact ⟨_, by first | rfl | (simp [errW_none, errW_some] <;> rfl) | (simp [*, errW_none, errW_some] <;> rfl), by (with_reducible repeat (first | apply Kd.R_alloc | apply Kd.R_drewN | apply Kd.R_drew)); exact HO108.out, by repeat (first | (with_reducible first | exact HB.out | apply below_alloc | apply pw_below_drewN | apply below_drew1) | exact HB.out)⟩

/-! ### pair_Lower: function 14 -/
def pair_Lower.f (k : Nat) (a0 : Int) : Option (Int) := if a0 < 128 then (if a0 ≥ 65 then (if a0 ≤ 90 then (some (wrap32 (a0 + 32))) else (some a0)) else (some a0)) else ((pair_latin.f).bind fun t109 => ((pair_look.f k t109 a0).bind fun bt112 => (if bt112.2 = true then (some bt112.1) else ((pair_others.f).bind fun t114 => ((pair_look.f k t114 a0).bind fun bt117 => (some bt117.1))))))
theorem pair_Lower.mono : ∀ a0 k, LeO (pair_Lower.f k a0) (pair_Lower.f (k + 1) a0) := by
  intro a0 k
  unfold pair_Lower.f
  repeat' first
      | (with_reducible exact pair_look.mono _ _ _)
      | (with_reducible exact LeO.refl _)
      | (with_reducible exact LeO.none _)
      | (with_reducible refine LeO.ite ?_ ?_)
      | (with_reducible refine LeO.bind ?_ (fun _ => ?_))
      | exact pair_look.mono _ _ _
      | exact LeO.none _
      | refine LeO.ite ?_ ?_
      | refine LeO.bind ?_ (fun _ => ?_)
set_option maxHeartbeats 8000000 in
set_option maxRecDepth 100000 in
theorem pair_Lower.calls (k : Nat) (a0 : Int) (r : Int) (w : World) (h : pair_Lower.f k a0 = some r) :
    Calls Try.prog 14 #[.int .i32 a0] w fun e w' => e = .returned (.int .i32 r) ∧ Below w.heap.size w w' := by
  have HB := Aside0.mk (Below.refl w.heap.size w)
  have H : (if a0 < 128 then (if a0 ≥ 65 then (if a0 ≤ 90 then (some (wrap32 (a0 + 32))) else (some a0)) else (some a0)) else ((pair_latin.f).bind fun t109 => ((pair_look.f k t109 a0).bind fun bt112 => (if bt112.2 = true then (some bt112.1) else ((pair_others.f).bind fun t114 => ((pair_look.f k t114 a0).bind fun bt117 => (some bt117.1))))))) = some r := h
  clear h
  by_cases c2 : a0 < 128
  · rw [if_pos c2] at H
    have c2b0 : decide (a0 < 128) = true := decide_eq_true c2
    clear c2
    by_cases c3 : a0 ≥ 65
    · rw [if_pos c3] at H
      have c3b0 : decide (65 ≤ a0) = true := decide_eq_true c3
      clear c3
      by_cases c4 : a0 ≤ 90
      · rw [if_pos c4] at H
        have c4b0 : decide (a0 ≤ 90) = true := decide_eq_true c4
        clear c4
        obtain rfl := Option.some.inj H
        go_enter Try.func14, Try.ntmps14
        go_wp2
        go_ret
        exact ⟨by first | rfl | (simp [errW_none, errW_some] <;> rfl) | (simp [*, errW_none, errW_some] <;> rfl), by repeat (first | (with_reducible first | exact HB.out | apply below_alloc | apply pw_below_drewN | apply below_drew1) | exact HB.out)⟩
      · rw [if_neg c4] at H
        have c4b0 : decide (a0 ≤ 90) = false := decide_eq_false c4
        clear c4
        obtain rfl := Option.some.inj H
        go_enter Try.func14, Try.ntmps14
        go_wp2
        go_ret
        exact ⟨by first | rfl | (simp [errW_none, errW_some] <;> rfl) | (simp [*, errW_none, errW_some] <;> rfl), by repeat (first | (with_reducible first | exact HB.out | apply below_alloc | apply pw_below_drewN | apply below_drew1) | exact HB.out)⟩
    · rw [if_neg c3] at H
      have c3b0 : decide (65 ≤ a0) = false := decide_eq_false c3
      clear c3
      obtain rfl := Option.some.inj H
      go_enter Try.func14, Try.ntmps14
      go_wp2
      go_ret
      exact ⟨by first | rfl | (simp [errW_none, errW_some] <;> rfl) | (simp [*, errW_none, errW_some] <;> rfl), by repeat (first | (with_reducible first | exact HB.out | apply below_alloc | apply pw_below_drewN | apply below_drew1) | exact HB.out)⟩
  · rw [if_neg c2] at H
    have c2b0 : decide (a0 < 128) = false := decide_eq_false c2
    clear c2
    replace H := Option.bind_eq_some_iff.mp H
    obtain ⟨t109, A50, H⟩ := H
    replace H : ((pair_look.f k t109 a0).bind fun bt112 => (if bt112.2 = true then (some bt112.1) else ((pair_others.f).bind fun t114 => ((pair_look.f k t114 a0).bind fun bt117 => (some bt117.1))))) = some r := H
    have A5 := Aside0.mk A50
    clear A50
    replace H := Option.bind_eq_some_iff.mp H
    obtain ⟨⟨t112, t113⟩, A60, H⟩ := H
    replace H : (if t113 = true then (some t112) else ((pair_others.f).bind fun t114 => ((pair_look.f k t114 a0).bind fun bt117 => (some bt117.1)))) = some r := H
    have A6 := Aside0.mk A60
    clear A60
    by_cases c7 : t113 = true
    · subst c7
      have H1 : (some t112) = some r := by rw [if_pos rfl] at H; exact H
      clear H
      have H := H1
      clear H1
      obtain rfl := Option.some.inj H
      go_enter Try.func14, Try.ntmps14
      go_wp2_with (first | ((with_reducible refine gate_callee (f := 33) rfl ?_); refine goesL_ (some 19) rfl rfl Try.func33 (by kernel_rfl) rfl #[] rfl (by (try simp only [List.map_toArray, List.map_cons, List.map_nil]); first | done | rfl | (simp only [List.length_drop, List.length_take]; rfl)) ?_; (with_reducible refine (pair_latin.calls  t109 _ A5.out).mono ?_); rintro e w8 ⟨v110, rfl, ho0, hb⟩; refine ⟨_, rfl, ?_⟩; have n0_ := Aside0.mk (Kd.R_lower ho0 (below_size (by repeat (first | (with_reducible first | exact HB.out | apply below_alloc | apply pw_below_drewN | apply below_drew1) | exact HB.out)))); have n1_ := Aside0.mk (below_step (by repeat (first | (with_reducible first | exact HB.out | apply below_alloc | apply pw_below_drewN | apply below_drew1) | exact HB.out)) hb); clear HB; have HO111 := n0_; have HB := n1_; clear n0_ n1_; (try clear hb); (try clear hb2); (try clear hk); (try clear hi); (try clear ho0); obtain ⟨Ao9, co9, eo9⟩ := Kd.R_slice HO111.out; subst eo9) | ((with_reducible refine gate_callee (f := 32) rfl ?_); refine goesL_ (some 21) rfl rfl Try.func32 (by kernel_rfl) rfl #[.slice Ao9 t109.length co9, .int .i32 a0] rfl (by (try simp only [List.map_toArray, List.map_cons, List.map_nil]); first | done | rfl | (simp only [List.length_drop, List.length_take]; rfl)) ?_; (with_reducible refine (pair_look.calls k _ _ t109 a0 t112 true _ ?side1 ?side2 A6.out).mono ?_); (case side1 => repeat (first | exact (Kd.R_reads' HO111.out).2.2 | (with_reducible refine Kd.C_alloc ?_ _) | (with_reducible refine Kd.C_drewN ?_ _) | (with_reducible refine Kd.C_drew ?_))); (case side2 => exact (Kd.R_reads' HO111.out).2.1); rintro e w10 ⟨rfl, hb⟩; refine ⟨_, rfl, ?_⟩; have n0_ := Aside0.mk (Kd.R_below (by (with_reducible repeat (first | apply Kd.R_alloc | apply Kd.R_drewN | apply Kd.R_drew)); exact HO111.out) hb); have n1_ := Aside0.mk (below_step (by repeat (first | (with_reducible first | exact HB.out | apply below_alloc | apply pw_below_drewN | apply below_drew1) | exact HB.out)) hb); clear HO111; clear HB; have HO111 := n0_; have HB := n1_; clear n0_ n1_; (try clear hb); (try clear hb2); (try clear hk); (try clear hi)))
      go_ret
      exact ⟨by first | rfl | (simp [errW_none, errW_some] <;> rfl) | (simp [*, errW_none, errW_some] <;> rfl), by repeat (first | (with_reducible first | exact HB.out | apply below_alloc | apply pw_below_drewN | apply below_drew1) | exact HB.out)⟩
    · replace c7 := Bool.eq_false_iff.mpr c7
      subst c7
      have H1 : ((pair_others.f).bind fun t114 => ((pair_look.f k t114 a0).bind fun bt117 => (some bt117.1))) = some r := by rw [if_neg (show ¬ (false = true) by decide)] at H; exact H
      clear H
      have H := H1
      clear H1
      replace H := Option.bind_eq_some_iff.mp H
      obtain ⟨t114, A110, H⟩ := H
      replace H : ((pair_look.f k t114 a0).bind fun bt117 => (some bt117.1)) = some r := H
      have A11 := Aside0.mk A110
      clear A110
      replace H := Option.bind_eq_some_iff.mp H
      obtain ⟨⟨t117, t118⟩, A120, H⟩ := H
      replace H : (some t117) = some r := H
      have A12 := Aside0.mk A120
      clear A120
      obtain rfl := Option.some.inj H
      go_enter Try.func14, Try.ntmps14
      go_wp2_with (first | ((with_reducible refine gate_callee (f := 33) rfl ?_); refine goesL_ (some 19) rfl rfl Try.func33 (by kernel_rfl) rfl #[] rfl (by (try simp only [List.map_toArray, List.map_cons, List.map_nil]); first | done | rfl | (simp only [List.length_drop, List.length_take]; rfl)) ?_; (with_reducible refine (pair_latin.calls  t109 _ A5.out).mono ?_); rintro e w13 ⟨v110, rfl, ho0, hb⟩; refine ⟨_, rfl, ?_⟩; have n0_ := Aside0.mk (Kd.R_lower ho0 (below_size (by repeat (first | (with_reducible first | exact HB.out | apply below_alloc | apply pw_below_drewN | apply below_drew1) | exact HB.out)))); have n1_ := Aside0.mk (below_step (by repeat (first | (with_reducible first | exact HB.out | apply below_alloc | apply pw_below_drewN | apply below_drew1) | exact HB.out)) hb); clear HB; have HO111 := n0_; have HB := n1_; clear n0_ n1_; (try clear hb); (try clear hb2); (try clear hk); (try clear hi); (try clear ho0); obtain ⟨Ao14, co14, eo14⟩ := Kd.R_slice HO111.out; subst eo14) | ((with_reducible refine gate_callee (f := 32) rfl ?_); refine goesL_ (some 21) rfl rfl Try.func32 (by kernel_rfl) rfl #[.slice Ao14 t109.length co14, .int .i32 a0] rfl (by (try simp only [List.map_toArray, List.map_cons, List.map_nil]); first | done | rfl | (simp only [List.length_drop, List.length_take]; rfl)) ?_; (with_reducible refine (pair_look.calls k _ _ t109 a0 t112 false _ ?side1 ?side2 A6.out).mono ?_); (case side1 => repeat (first | exact (Kd.R_reads' HO111.out).2.2 | (with_reducible refine Kd.C_alloc ?_ _) | (with_reducible refine Kd.C_drewN ?_ _) | (with_reducible refine Kd.C_drew ?_))); (case side2 => exact (Kd.R_reads' HO111.out).2.1); rintro e w15 ⟨rfl, hb⟩; refine ⟨_, rfl, ?_⟩; have n0_ := Aside0.mk (Kd.R_below (by (with_reducible repeat (first | apply Kd.R_alloc | apply Kd.R_drewN | apply Kd.R_drew)); exact HO111.out) hb); have n1_ := Aside0.mk (below_step (by repeat (first | (with_reducible first | exact HB.out | apply below_alloc | apply pw_below_drewN | apply below_drew1) | exact HB.out)) hb); clear HO111; clear HB; have HO111 := n0_; have HB := n1_; clear n0_ n1_; (try clear hb); (try clear hb2); (try clear hk); (try clear hi)) | ((with_reducible refine gate_callee (f := 34) rfl ?_); refine goesL_ (some 27) rfl rfl Try.func34 (by kernel_rfl) rfl #[] rfl (by (try simp only [List.map_toArray, List.map_cons, List.map_nil]); first | done | rfl | (simp only [List.length_drop, List.length_take]; rfl)) ?_; (with_reducible refine (pair_others.calls  t114 _ A11.out).mono ?_); rintro e w16 ⟨v115, rfl, ho0, hb⟩; refine ⟨_, rfl, ?_⟩; have n0_ := Aside0.mk (Kd.R_elder' (by (with_reducible repeat (first | apply Kd.R_alloc | apply Kd.R_drewN | apply Kd.R_drew)); exact HO111.out) (Kd.R_base ho0) hb); have n1_ := Aside0.mk (Kd.R_lower (Kd.R_new' ho0 (Kd.R_lt (by (with_reducible repeat (first | apply Kd.R_alloc | apply Kd.R_drewN | apply Kd.R_drew)); exact HO111.out))) (below_size (by repeat (first | (with_reducible first | exact HB.out | apply below_alloc | apply pw_below_drewN | apply below_drew1) | exact HB.out)))); have n2_ := Aside0.mk (below_step (by repeat (first | (with_reducible first | exact HB.out | apply below_alloc | apply pw_below_drewN | apply below_drew1) | exact HB.out)) hb); clear HO111; clear HB; have HO111 := n0_; have HO116 := n1_; have HB := n2_; clear n0_ n1_ n2_; (try clear hb); (try clear hb2); (try clear hk); (try clear hi); (try clear ho0); obtain ⟨Ao17, co17, eo17⟩ := Kd.R_slice HO116.out; subst eo17) | ((with_reducible refine gate_callee (f := 32) rfl ?_); refine goesL_ (some 29) rfl rfl Try.func32 (by kernel_rfl) rfl #[.slice Ao17 t114.length co17, .int .i32 a0] rfl (by (try simp only [List.map_toArray, List.map_cons, List.map_nil]); first | done | rfl | (simp only [List.length_drop, List.length_take]; rfl)) ?_; (with_reducible refine (pair_look.calls k _ _ t114 a0 t117 t118 _ ?side1 ?side2 A12.out).mono ?_); (case side1 => repeat (first | exact (Kd.R_reads' HO116.out).2.2 | (with_reducible refine Kd.C_alloc ?_ _) | (with_reducible refine Kd.C_drewN ?_ _) | (with_reducible refine Kd.C_drew ?_))); (case side2 => exact (Kd.R_reads' HO116.out).2.1); rintro e w18 ⟨rfl, hb⟩; refine ⟨_, rfl, ?_⟩; have n0_ := Aside0.mk (Kd.R_below (by (with_reducible repeat (first | apply Kd.R_alloc | apply Kd.R_drewN | apply Kd.R_drew)); exact HO111.out) hb); have n1_ := Aside0.mk (Kd.R_below (by (with_reducible repeat (first | apply Kd.R_alloc | apply Kd.R_drewN | apply Kd.R_drew)); exact HO116.out) hb); have n2_ := Aside0.mk (below_step (by repeat (first | (with_reducible first | exact HB.out | apply below_alloc | apply pw_below_drewN | apply below_drew1) | exact HB.out)) hb); clear HO111; clear HO116; clear HB; have HO111 := n0_; have HO116 := n1_; have HB := n2_; clear n0_ n1_ n2_; (try clear hb); (try clear hb2); (try clear hk); (try clear hi)))
      go_ret
      exact ⟨by first | rfl | (simp [errW_none, errW_some] <;> rfl) | (simp [*, errW_none, errW_some] <;> rfl), by repeat (first | (with_reducible first | exact HB.out | apply below_alloc | apply pw_below_drewN | apply below_drew1) | exact HB.out)⟩

-- NOT PRINTED: function 15 (pair_Width)

-- NOT PRINTED: function 8 (monikerlaw07_awake)

-- NOT PRINTED: function 35 (monikerref07_shifts)

-- NOT PRINTED: function 16 (monikerref07_Lower)

-- NOT PRINTED: function 36 (monikerref07_kana)

-- NOT PRINTED: function 17 (monikerref07_Width)

-- NOT PRINTED: function 5 (monikerlaw07_PairCases)

end Go.Proofs.Ytejkfochijgkdaa.PPairCases
