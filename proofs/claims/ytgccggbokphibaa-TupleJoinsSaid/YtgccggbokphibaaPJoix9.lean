-- SPLICED by sprint.py: out of the kit's printer, with some functions by this session's own texts. No printed file. Lean checks it.
import Derived.Test.YtgccggbokphibaaPJoix0
namespace Go.Proofs.Ytgccggbokphibaa.PJoi
open Go.RowKit Go.Proofs.YtgccggbokphibaaW.PrintWords Go.Proofs.YtgccggbokphibaaW.PrintLast Go.Proofs.YtgccggbokphibaaW.PrintMore
attribute [local go_sem] max2_int min2_int max_two min_two max_three min_three max_four min_four   -- for this text's walks alone
set_option linter.unusedVariables false
set_option linter.unusedSimpArgs false

/-! ### monikerref20_Join: function 17 -/
mutual
def monikerref20_Join.j0 : Nat → ByteArray → ByteArray → Bool → ByteArray → ByteArray → Bool → ByteArray → Bool → ByteArray → Option (ByteArray)
  | 0, _, _, _, _, _, _, _, _, _ => none
  | k + 1, x3, x212000, x212001, x212002, x212003, x212004, x212005, x212006, x212007 => if x212001 = true then (if 2 + x212002.size ≤ 9223372036854775807 then (if x3.size + ((⟨#[47, 47]⟩ : ByteArray) ++ x212002).size ≤ 9223372036854775807 then (monikerref20_Join.j1 k (x3 ++ ((⟨#[47, 47]⟩ : ByteArray) ++ x212002)) x212000 x212001 x212002 x212003 x212004 x212005 x212006 x212007) else (none)) else (none)) else (monikerref20_Join.j1 k x3 x212000 x212001 x212002 x212003 x212004 x212005 x212006 x212007)
def monikerref20_Join.j1 : Nat → ByteArray → ByteArray → Bool → ByteArray → ByteArray → Bool → ByteArray → Bool → ByteArray → Option (ByteArray)
  | 0, _, _, _, _, _, _, _, _, _ => none
  | k + 1, x3, x212000, x212001, x212002, x212003, x212004, x212005, x212006, x212007 => if x3.size + x212003.size ≤ 9223372036854775807 then (if x212004 = true then (if 1 + x212005.size ≤ 9223372036854775807 then (if (x3 ++ x212003).size + ((⟨#[63]⟩ : ByteArray) ++ x212005).size ≤ 9223372036854775807 then (if x212006 = true then (if 1 + x212007.size ≤ 9223372036854775807 then (if ((x3 ++ x212003) ++ ((⟨#[63]⟩ : ByteArray) ++ x212005)).size + ((⟨#[35]⟩ : ByteArray) ++ x212007).size ≤ 9223372036854775807 then (some (((x3 ++ x212003) ++ ((⟨#[63]⟩ : ByteArray) ++ x212005)) ++ ((⟨#[35]⟩ : ByteArray) ++ x212007))) else (none)) else (none)) else (some ((x3 ++ x212003) ++ ((⟨#[63]⟩ : ByteArray) ++ x212005)))) else (none)) else (none)) else (if x212006 = true then (if 1 + x212007.size ≤ 9223372036854775807 then (if (x3 ++ x212003).size + ((⟨#[35]⟩ : ByteArray) ++ x212007).size ≤ 9223372036854775807 then (some ((x3 ++ x212003) ++ ((⟨#[35]⟩ : ByteArray) ++ x212007))) else (none)) else (none)) else (some (x3 ++ x212003)))) else (none)
end
def monikerref20_Join.f (k : Nat) (a0_0 : ByteArray) (a0_1 : Bool) (a0_2 : ByteArray) (a0_3 : ByteArray) (a0_4 : Bool) (a0_5 : ByteArray) (a0_6 : Bool) (a0_7 : ByteArray) : Option (ByteArray) := if a0_0.toList = ([] : List UInt8) then (monikerref20_Join.j0 k (⟨#[]⟩ : ByteArray) a0_0 a0_1 a0_2 a0_3 a0_4 a0_5 a0_6 a0_7) else (if a0_0.size + 1 ≤ 9223372036854775807 then (monikerref20_Join.j0 k (a0_0 ++ (⟨#[58]⟩ : ByteArray)) a0_0 a0_1 a0_2 a0_3 a0_4 a0_5 a0_6 a0_7) else (none))
theorem monikerref20_Join.mono_l : ∀ k, (∀ y0 y1 y2 y3 y4 y5 y6 y7 y8, LeO (monikerref20_Join.j0 k y0 y1 y2 y3 y4 y5 y6 y7 y8) (monikerref20_Join.j0 (k + 1) y0 y1 y2 y3 y4 y5 y6 y7 y8)) ∧ (∀ y0 y1 y2 y3 y4 y5 y6 y7 y8, LeO (monikerref20_Join.j1 k y0 y1 y2 y3 y4 y5 y6 y7 y8) (monikerref20_Join.j1 (k + 1) y0 y1 y2 y3 y4 y5 y6 y7 y8))
  | 0 => ⟨fun _ _ _ _ _ _ _ _ _ r h => by simp [monikerref20_Join.j0] at h, fun _ _ _ _ _ _ _ _ _ r h => by simp [monikerref20_Join.j1] at h⟩
  | k + 1 => by
    obtain ⟨ih0, ih1⟩ := monikerref20_Join.mono_l k
    refine ⟨?_, ?_⟩
    · intro y0 y1 y2 y3 y4 y5 y6 y7 y8
      unfold monikerref20_Join.j0
      repeat' first
      | (with_reducible exact ih0 _ _ _ _ _ _ _ _ _)
      | (with_reducible exact ih1 _ _ _ _ _ _ _ _ _)
      | (with_reducible exact LeO.refl _)
      | (with_reducible exact LeO.none _)
      | (with_reducible refine LeO.ite ?_ ?_)
      | (with_reducible refine LeO.bind ?_ (fun _ => ?_))
      | exact ih0 _ _ _ _ _ _ _ _ _
      | exact ih1 _ _ _ _ _ _ _ _ _
      | exact LeO.none _
      | refine LeO.ite ?_ ?_
      | refine LeO.bind ?_ (fun _ => ?_)
    · intro y0 y1 y2 y3 y4 y5 y6 y7 y8
      unfold monikerref20_Join.j1
      repeat' first
      | (with_reducible exact ih0 _ _ _ _ _ _ _ _ _)
      | (with_reducible exact ih1 _ _ _ _ _ _ _ _ _)
      | (with_reducible exact LeO.refl _)
      | (with_reducible exact LeO.none _)
      | (with_reducible refine LeO.ite ?_ ?_)
      | (with_reducible refine LeO.bind ?_ (fun _ => ?_))
      | exact ih0 _ _ _ _ _ _ _ _ _
      | exact ih1 _ _ _ _ _ _ _ _ _
      | exact LeO.none _
      | refine LeO.ite ?_ ?_
      | refine LeO.bind ?_ (fun _ => ?_)
theorem monikerref20_Join.mono : ∀ a0 a1 a2 a3 a4 a5 a6 a7 k, LeO (monikerref20_Join.f k a0 a1 a2 a3 a4 a5 a6 a7) (monikerref20_Join.f (k + 1) a0 a1 a2 a3 a4 a5 a6 a7) := by
  intro a0 a1 a2 a3 a4 a5 a6 a7 k
  obtain ⟨ih0, ih1⟩ := monikerref20_Join.mono_l k
  unfold monikerref20_Join.f
  repeat' first
      | (with_reducible exact ih0 _ _ _ _ _ _ _ _ _)
      | (with_reducible exact ih1 _ _ _ _ _ _ _ _ _)
      | (with_reducible exact LeO.refl _)
      | (with_reducible exact LeO.none _)
      | (with_reducible refine LeO.ite ?_ ?_)
      | (with_reducible refine LeO.bind ?_ (fun _ => ?_))
      | exact ih0 _ _ _ _ _ _ _ _ _
      | exact ih1 _ _ _ _ _ _ _ _ _
      | exact LeO.none _
      | refine LeO.ite ?_ ?_
      | refine LeO.bind ?_ (fun _ => ?_)
set_option maxHeartbeats 8000000 in
set_option maxRecDepth 100000 in
theorem monikerref20_Join.calls (k : Nat) (a0_0 : ByteArray) (a0_1 : Bool) (a0_2 : ByteArray) (a0_3 : ByteArray) (a0_4 : Bool) (a0_5 : ByteArray) (a0_6 : Bool) (a0_7 : ByteArray) (r : ByteArray) (w : World) (h : monikerref20_Join.f k a0_0 a0_1 a0_2 a0_3 a0_4 a0_5 a0_6 a0_7 = some r) :
    Calls Try.prog 17 #[.agg #[.string a0_0, .bool a0_1, .string a0_2, .string a0_3, .bool a0_4, .string a0_5, .bool a0_6, .string a0_7]] w fun e w' => e = .returned (.string r) ∧ Below w.heap.size w w' := by
  have hu23 := Try.underlying23
  have HB := Aside0.mk (Below.refl w.heap.size w)
  have H : (if a0_0.toList = ([] : List UInt8) then (monikerref20_Join.j0 k (⟨#[]⟩ : ByteArray) a0_0 a0_1 a0_2 a0_3 a0_4 a0_5 a0_6 a0_7) else (if a0_0.size + 1 ≤ 9223372036854775807 then (monikerref20_Join.j0 k (a0_0 ++ (⟨#[58]⟩ : ByteArray)) a0_0 a0_1 a0_2 a0_3 a0_4 a0_5 a0_6 a0_7) else (none))) = some r := h
  clear h
  have HC2 := Aside0.mk H
  clear H
  go_enter Try.func17, Try.ntmps17
  go_upto_if 6 with (first | ((with_reducible refine gate_dst (N := 1) rfl ?_); refine box_event ?hg (N := 1) ?hd (cs := #[.string a0_0, .bool a0_1, .string a0_2, .string a0_3, .bool a0_4, .string a0_5, .bool a0_6, .string a0_7]) (t := 23) ?hr ?_; (case hd => rfl); (case hg => rfl); (case hr => first | (go_simp; done) | (go_simp; rfl)); intro gb211 hg w3 hbox hb; have n0_ := Aside0.mk (below_step (by repeat (first | (with_reducible first | exact HB.out | apply below_alloc | apply pw_below_drewN | apply below_drew1) | exact HB.out)) hb); have n1_ := Aside0.mk (hbox); have n2_ := Aside0.mk ((by rw [hg]; exact (below_size (by repeat (first | (with_reducible first | exact HB.out | apply below_alloc | apply pw_below_drewN | apply below_drew1) | exact HB.out))) : w.heap.size ≤ gb211)); have n3_ := Aside0.mk ((by rw [hg]; exact (below_size (by repeat (first | (with_reducible first | exact HB.out | apply below_alloc | apply pw_below_drewN | apply below_drew1) | exact HB.out))) : w.heap.size ≤ gb211)); clear HB; have HB := n0_; have BK211 := n1_; have GW211 := n2_; have GE211 := n3_; clear n0_ n1_ n2_ n3_; clear hb hbox hg; have hcz4_0 : w3.cell? ⟨gb211, 0, none⟩ = some (.string a0_0) := (blk_cell BK211.out 0).trans rfl; have hcz4_1 : w3.cell? ⟨gb211, 1, none⟩ = some (.bool a0_1) := (blk_cell BK211.out 1).trans rfl; have hcz4_2 : w3.cell? ⟨gb211, 2, none⟩ = some (.string a0_2) := (blk_cell BK211.out 2).trans rfl; have hcz4_3 : w3.cell? ⟨gb211, 3, none⟩ = some (.string a0_3) := (blk_cell BK211.out 3).trans rfl; have hcz4_4 : w3.cell? ⟨gb211, 4, none⟩ = some (.bool a0_4) := (blk_cell BK211.out 4).trans rfl; have hcz4_5 : w3.cell? ⟨gb211, 5, none⟩ = some (.string a0_5) := (blk_cell BK211.out 5).trans rfl; have hcz4_6 : w3.cell? ⟨gb211, 6, none⟩ = some (.bool a0_6) := (blk_cell BK211.out 6).trans rfl; have hcz4_7 : w3.cell? ⟨gb211, 7, none⟩ = some (.string a0_7) := (blk_cell BK211.out 7).trans rfl; have hfz4_0 := blk_frozen BK211.out 0; have hfz4_1 := blk_frozen BK211.out 1; have hfz4_2 := blk_frozen BK211.out 2; have hfz4_3 := blk_frozen BK211.out 3; have hfz4_4 := blk_frozen BK211.out 4; have hfz4_5 := blk_frozen BK211.out 5; have hfz4_6 := blk_frozen BK211.out 6; have hfz4_7 := blk_frozen BK211.out 7))
  (try simp only [Act.put, List.setIfInBounds_toArray, List.set_cons_zero, List.set_cons_succ])
  go_cut [3] (fun v3 wc => ∃ (kq : Nat) (x3_1 : ByteArray), v3 = .string x3_1 ∧ Aside0 (monikerref20_Join.j0 kq x3_1 a0_0 a0_1 a0_2 a0_3 a0_4 a0_5 a0_6 a0_7 = some r) ∧ Aside0 (kq ≤ k) ∧ Aside0 (wc.heap[gb211]? = some (.cells #[.string a0_0, .bool a0_1, .string a0_2, .string a0_3, .bool a0_4, .string a0_5, .bool a0_6, .string a0_7] 23 (0, 0))) ∧ Aside0 (Below w.heap.size w wc))
  case first =>
    have H := HC2.out
    clear HC2
    by_cases c5 : a0_0.toList = ([] : List UInt8)
    · rw [if_pos c5] at H
      have c5b0 : (a0_0.toList == ([] : List UInt8)) = true := beq_iff_eq.mpr c5
      have c5e : a0_0.toList.isEmpty = true := by rw [c5]; rfl
      have c5b1 : (a0_0.toList != ([] : List UInt8)) = false := bne_eq_false_iff_eq.mpr c5
      clear c5
      (first | rw [c5e] | rw [c5b0] | (simp only [i64_w, i32_w]; rw [c5b0]) | skip)
      have H' := Aside0.mk H
      clear H
      go_wp2
      go_meet
      case rel => exact ⟨_, ((⟨#[]⟩ : ByteArray)), (by first | rfl | (simp; done) | (simp [*]; done)), H', ⟨by first | omega | exact Nat.le_refl _⟩, ⟨by (with_reducible repeat (first | refine blk_drewN ?_ _ | refine blk_drew ?_ | refine blk_alloc ?_ _)); exact BK211.out⟩, ⟨by repeat (first | (with_reducible first | exact HB.out | apply below_alloc | apply pw_below_drewN | apply below_drew1 | refine below_set ?_ GE211.out) | exact HB.out)⟩⟩
    · rw [if_neg c5] at H
      have c5b0 : (a0_0.toList == ([] : List UInt8)) = false := beq_eq_false_iff_ne.mpr c5
      have c5e : a0_0.toList.isEmpty = false := by cases h_ : a0_0.toList with | nil => exact absurd h_ c5 | cons _ _ => rfl
      have c5b1 : (a0_0.toList != ([] : List UInt8)) = true := bne_iff_ne.mpr c5
      (first | rw [c5e] | rw [c5b0] | (simp only [i64_w, i32_w]; rw [c5b0]) | skip)
      by_cases c6 : a0_0.size + 1 ≤ 9223372036854775807
      · rw [if_pos c6] at H
        have c6b0 := eq_true c6
        have c6b1 : decide (a0_0.size + 1 ≤ 9223372036854775807) = true := decide_eq_true c6
        try have c6b2 : (9223372036854775807 < a0_0.size + 1) = False := eq_false (Nat.not_lt.2 c6)
        have H' := Aside0.mk H
        clear H
        have hcz7_0 : w3.cell? ⟨gb211, 0, none⟩ = some (.string a0_0) := (blk_cell BK211.out 0).trans rfl
        have hcz7_1 : w3.cell? ⟨gb211, 1, none⟩ = some (.bool a0_1) := (blk_cell BK211.out 1).trans rfl
        have hcz7_2 : w3.cell? ⟨gb211, 2, none⟩ = some (.string a0_2) := (blk_cell BK211.out 2).trans rfl
        have hcz7_3 : w3.cell? ⟨gb211, 3, none⟩ = some (.string a0_3) := (blk_cell BK211.out 3).trans rfl
        have hcz7_4 : w3.cell? ⟨gb211, 4, none⟩ = some (.bool a0_4) := (blk_cell BK211.out 4).trans rfl
        have hcz7_5 : w3.cell? ⟨gb211, 5, none⟩ = some (.string a0_5) := (blk_cell BK211.out 5).trans rfl
        have hcz7_6 : w3.cell? ⟨gb211, 6, none⟩ = some (.bool a0_6) := (blk_cell BK211.out 6).trans rfl
        have hcz7_7 : w3.cell? ⟨gb211, 7, none⟩ = some (.string a0_7) := (blk_cell BK211.out 7).trans rfl
        have hfz7_0 := blk_frozen BK211.out 0
        have hfz7_1 := blk_frozen BK211.out 1
        have hfz7_2 := blk_frozen BK211.out 2
        have hfz7_3 := blk_frozen BK211.out 3
        have hfz7_4 := blk_frozen BK211.out 4
        have hfz7_5 := blk_frozen BK211.out 5
        have hfz7_6 := blk_frozen BK211.out 6
        have hfz7_7 := blk_frozen BK211.out 7
        go_wp2
        go_meet
        case rel => exact ⟨_, (a0_0 ++ (⟨#[58]⟩ : ByteArray)), (by first | rfl | (simp; done) | (simp [*]; done)), H', ⟨by first | omega | exact Nat.le_refl _⟩, ⟨by (with_reducible repeat (first | refine blk_drewN ?_ _ | refine blk_drew ?_ | refine blk_alloc ?_ _)); exact BK211.out⟩, ⟨by repeat (first | (with_reducible first | exact HB.out | apply below_alloc | apply pw_below_drewN | apply below_drew1 | refine below_set ?_ GE211.out) | exact HB.out)⟩⟩
      · rw [if_neg c6] at H
        exact absurd H (by simp)
  case rest =>
    clear HC2
    try clear c1
    try clear p2
    try clear c5
    try clear c5b0
    try clear c5b1
    try clear c6
    try clear c6b0
    try clear c6b1
    try clear c6b2
    try clear hcz4_0
    try clear hcz4_1
    try clear hcz4_2
    try clear hcz4_3
    try clear hcz4_4
    try clear hcz4_5
    try clear hcz4_6
    try clear hcz4_7
    try clear hcz7_0
    try clear hcz7_1
    try clear hcz7_2
    try clear hcz7_3
    try clear hcz7_4
    try clear hcz7_5
    try clear hcz7_6
    try clear hcz7_7
    try clear hfz4_0
    try clear hfz4_1
    try clear hfz4_2
    try clear hfz4_3
    try clear hfz4_4
    try clear hfz4_5
    try clear hfz4_6
    try clear hfz4_7
    try clear hfz7_0
    try clear hfz7_1
    try clear hfz7_2
    try clear hfz7_3
    try clear hfz7_4
    try clear hfz7_5
    try clear hfz7_6
    try clear hfz7_7
    obtain ⟨kq, x3_1, rfl, HA, HJ1, BK211, HB⟩ := hcut
    cases kq with
    | zero => exact absurd HA.out (by simp [monikerref20_Join.j0])
    | succ kj1 =>
      have H := HA.out
      clear HA
      simp only [monikerref20_Join.j0] at H
      have HC8 := Aside0.mk H
      clear H
      have hcz9_0 : wc.cell? ⟨gb211, 0, none⟩ = some (.string a0_0) := (blk_cell BK211.out 0).trans rfl
      have hcz9_1 : wc.cell? ⟨gb211, 1, none⟩ = some (.bool a0_1) := (blk_cell BK211.out 1).trans rfl
      have hcz9_2 : wc.cell? ⟨gb211, 2, none⟩ = some (.string a0_2) := (blk_cell BK211.out 2).trans rfl
      have hcz9_3 : wc.cell? ⟨gb211, 3, none⟩ = some (.string a0_3) := (blk_cell BK211.out 3).trans rfl
      have hcz9_4 : wc.cell? ⟨gb211, 4, none⟩ = some (.bool a0_4) := (blk_cell BK211.out 4).trans rfl
      have hcz9_5 : wc.cell? ⟨gb211, 5, none⟩ = some (.string a0_5) := (blk_cell BK211.out 5).trans rfl
      have hcz9_6 : wc.cell? ⟨gb211, 6, none⟩ = some (.bool a0_6) := (blk_cell BK211.out 6).trans rfl
      have hcz9_7 : wc.cell? ⟨gb211, 7, none⟩ = some (.string a0_7) := (blk_cell BK211.out 7).trans rfl
      have hfz9_0 := blk_frozen BK211.out 0
      have hfz9_1 := blk_frozen BK211.out 1
      have hfz9_2 := blk_frozen BK211.out 2
      have hfz9_3 := blk_frozen BK211.out 3
      have hfz9_4 := blk_frozen BK211.out 4
      have hfz9_5 := blk_frozen BK211.out 5
      have hfz9_6 := blk_frozen BK211.out 6
      have hfz9_7 := blk_frozen BK211.out 7
      go_upto_if 11 with (fail)
      go_cut [3] (fun v3 wc => ∃ (kq : Nat) (x3_7 : ByteArray), v3 = .string x3_7 ∧ Aside0 (monikerref20_Join.j1 kq x3_7 a0_0 a0_1 a0_2 a0_3 a0_4 a0_5 a0_6 a0_7 = some r) ∧ Aside0 (kq ≤ kj1) ∧ Aside0 (wc.heap[gb211]? = some (.cells #[.string a0_0, .bool a0_1, .string a0_2, .string a0_3, .bool a0_4, .string a0_5, .bool a0_6, .string a0_7] 23 (0, 0))) ∧ Aside0 (Below w.heap.size w wc))
      case first =>
        have H := HC8.out
        clear HC8
        by_cases c10 : a0_1 = true
        · subst c10
          have H1 : (if 2 + a0_2.size ≤ 9223372036854775807 then (if x3_1.size + ((⟨#[47, 47]⟩ : ByteArray) ++ a0_2).size ≤ 9223372036854775807 then (monikerref20_Join.j1 kj1 (x3_1 ++ ((⟨#[47, 47]⟩ : ByteArray) ++ a0_2)) a0_0 true a0_2 a0_3 a0_4 a0_5 a0_6 a0_7) else (none)) else (none)) = some r := by rw [if_pos rfl] at H; exact H
          clear H
          have H := H1
          clear H1
          by_cases c11 : 2 + a0_2.size ≤ 9223372036854775807
          · rw [if_pos c11] at H
            have c11b0 := eq_true c11
            have c11b1 : decide (2 + a0_2.size ≤ 9223372036854775807) = true := decide_eq_true c11
            try have c11b2 : (9223372036854775807 < 2 + a0_2.size) = False := eq_false (Nat.not_lt.2 c11)
            by_cases c12 : x3_1.size + ((⟨#[47, 47]⟩ : ByteArray) ++ a0_2).size ≤ 9223372036854775807
            · rw [if_pos c12] at H
              have c12b0 := eq_true c12
              have c12b1 : decide (x3_1.size + ((⟨#[47, 47]⟩ : ByteArray) ++ a0_2).size ≤ 9223372036854775807) = true := decide_eq_true c12
              try have c12b2 : (9223372036854775807 < x3_1.size + ((⟨#[47, 47]⟩ : ByteArray) ++ a0_2).size) = False := eq_false (Nat.not_lt.2 c12)
              have H' := Aside0.mk H
              clear H
              have hcz13_0 : wc.cell? ⟨gb211, 0, none⟩ = some (.string a0_0) := (blk_cell BK211.out 0).trans rfl
              have hcz13_1 : wc.cell? ⟨gb211, 1, none⟩ = some (.bool true) := (blk_cell BK211.out 1).trans rfl
              have hcz13_2 : wc.cell? ⟨gb211, 2, none⟩ = some (.string a0_2) := (blk_cell BK211.out 2).trans rfl
              have hcz13_3 : wc.cell? ⟨gb211, 3, none⟩ = some (.string a0_3) := (blk_cell BK211.out 3).trans rfl
              have hcz13_4 : wc.cell? ⟨gb211, 4, none⟩ = some (.bool a0_4) := (blk_cell BK211.out 4).trans rfl
              have hcz13_5 : wc.cell? ⟨gb211, 5, none⟩ = some (.string a0_5) := (blk_cell BK211.out 5).trans rfl
              have hcz13_6 : wc.cell? ⟨gb211, 6, none⟩ = some (.bool a0_6) := (blk_cell BK211.out 6).trans rfl
              have hcz13_7 : wc.cell? ⟨gb211, 7, none⟩ = some (.string a0_7) := (blk_cell BK211.out 7).trans rfl
              have hfz13_0 := blk_frozen BK211.out 0
              have hfz13_1 := blk_frozen BK211.out 1
              have hfz13_2 := blk_frozen BK211.out 2
              have hfz13_3 := blk_frozen BK211.out 3
              have hfz13_4 := blk_frozen BK211.out 4
              have hfz13_5 := blk_frozen BK211.out 5
              have hfz13_6 := blk_frozen BK211.out 6
              have hfz13_7 := blk_frozen BK211.out 7
              go_wp2
              go_meet
              case rel => exact ⟨_, (x3_1 ++ ((⟨#[47, 47]⟩ : ByteArray) ++ a0_2)), (by first | rfl | (simp; done) | (simp [*]; done)), H', ⟨by have := HJ1.out; first | omega | exact Nat.le_refl _⟩, ⟨by (with_reducible repeat (first | refine blk_drewN ?_ _ | refine blk_drew ?_ | refine blk_alloc ?_ _)); exact BK211.out⟩, ⟨by repeat (first | (with_reducible first | exact HB.out | apply below_alloc | apply pw_below_drewN | apply below_drew1 | refine below_set ?_ GE211.out) | exact HB.out)⟩⟩
            · rw [if_neg c12] at H
              exact absurd H (by simp)
          · rw [if_neg c11] at H
            exact absurd H (by simp)
        · replace c10 := Bool.eq_false_iff.mpr c10
          subst c10
          have H1 : (monikerref20_Join.j1 kj1 x3_1 a0_0 false a0_2 a0_3 a0_4 a0_5 a0_6 a0_7) = some r := by rw [if_neg (show ¬ (false = true) by decide)] at H; exact H
          clear H
          have H := H1
          clear H1
          have H' := Aside0.mk H
          clear H
          go_wp2
          go_meet
          case rel => exact ⟨_, (x3_1), (by first | rfl | (simp; done) | (simp [*]; done)), H', ⟨by have := HJ1.out; first | omega | exact Nat.le_refl _⟩, ⟨by (with_reducible repeat (first | refine blk_drewN ?_ _ | refine blk_drew ?_ | refine blk_alloc ?_ _)); exact BK211.out⟩, ⟨by repeat (first | (with_reducible first | exact HB.out | apply below_alloc | apply pw_below_drewN | apply below_drew1 | refine below_set ?_ GE211.out) | exact HB.out)⟩⟩
      case rest =>
        clear HC8
        try clear c1
        try clear p2
        try clear c5
        try clear c5b0
        try clear c5b1
        try clear c6
        try clear c6b0
        try clear c6b1
        try clear c6b2
        try clear c10
        try clear c11
        try clear c11b0
        try clear c11b1
        try clear c11b2
        try clear c12
        try clear c12b0
        try clear c12b1
        try clear c12b2
        try clear hcz13_0
        try clear hcz13_1
        try clear hcz13_2
        try clear hcz13_3
        try clear hcz13_4
        try clear hcz13_5
        try clear hcz13_6
        try clear hcz13_7
        try clear hcz4_0
        try clear hcz4_1
        try clear hcz4_2
        try clear hcz4_3
        try clear hcz4_4
        try clear hcz4_5
        try clear hcz4_6
        try clear hcz4_7
        try clear hcz7_0
        try clear hcz7_1
        try clear hcz7_2
        try clear hcz7_3
        try clear hcz7_4
        try clear hcz7_5
        try clear hcz7_6
        try clear hcz7_7
        try clear hcz9_0
        try clear hcz9_1
        try clear hcz9_2
        try clear hcz9_3
        try clear hcz9_4
        try clear hcz9_5
        try clear hcz9_6
        try clear hcz9_7
        try clear hfz13_0
        try clear hfz13_1
        try clear hfz13_2
        try clear hfz13_3
        try clear hfz13_4
        try clear hfz13_5
        try clear hfz13_6
        try clear hfz13_7
        try clear hfz4_0
        try clear hfz4_1
        try clear hfz4_2
        try clear hfz4_3
        try clear hfz4_4
        try clear hfz4_5
        try clear hfz4_6
        try clear hfz4_7
        try clear hfz7_0
        try clear hfz7_1
        try clear hfz7_2
        try clear hfz7_3
        try clear hfz7_4
        try clear hfz7_5
        try clear hfz7_6
        try clear hfz7_7
        try clear hfz9_0
        try clear hfz9_1
        try clear hfz9_2
        try clear hfz9_3
        try clear hfz9_4
        try clear hfz9_5
        try clear hfz9_6
        try clear hfz9_7
        try clear p2
        obtain ⟨kq, x3_7, rfl, HA, HJ7, BK211, HB⟩ := hcut
        cases kq with
        | zero => exact absurd HA.out (by simp [monikerref20_Join.j1])
        | succ kj7 =>
          have H := HA.out
          clear HA
          simp only [monikerref20_Join.j1] at H
          by_cases c14 : x3_7.size + a0_3.size ≤ 9223372036854775807
          · rw [if_pos c14] at H
            have c14b0 := eq_true c14
            have c14b1 : decide (x3_7.size + a0_3.size ≤ 9223372036854775807) = true := decide_eq_true c14
            try have c14b2 : (9223372036854775807 < x3_7.size + a0_3.size) = False := eq_false (Nat.not_lt.2 c14)
            by_cases c15 : a0_4 = true
            · subst c15
              have H1 : (if 1 + a0_5.size ≤ 9223372036854775807 then (if (x3_7 ++ a0_3).size + ((⟨#[63]⟩ : ByteArray) ++ a0_5).size ≤ 9223372036854775807 then (if a0_6 = true then (if 1 + a0_7.size ≤ 9223372036854775807 then (if ((x3_7 ++ a0_3) ++ ((⟨#[63]⟩ : ByteArray) ++ a0_5)).size + ((⟨#[35]⟩ : ByteArray) ++ a0_7).size ≤ 9223372036854775807 then (some (((x3_7 ++ a0_3) ++ ((⟨#[63]⟩ : ByteArray) ++ a0_5)) ++ ((⟨#[35]⟩ : ByteArray) ++ a0_7))) else (none)) else (none)) else (some ((x3_7 ++ a0_3) ++ ((⟨#[63]⟩ : ByteArray) ++ a0_5)))) else (none)) else (none)) = some r := by rw [if_pos rfl] at H; exact H
              clear H
              have H := H1
              clear H1
              by_cases c16 : 1 + a0_5.size ≤ 9223372036854775807
              · rw [if_pos c16] at H
                have c16b0 := eq_true c16
                have c16b1 : decide (1 + a0_5.size ≤ 9223372036854775807) = true := decide_eq_true c16
                try have c16b2 : (9223372036854775807 < 1 + a0_5.size) = False := eq_false (Nat.not_lt.2 c16)
                by_cases c17 : (x3_7 ++ a0_3).size + ((⟨#[63]⟩ : ByteArray) ++ a0_5).size ≤ 9223372036854775807
                · rw [if_pos c17] at H
                  have c17b0 := eq_true c17
                  have c17b1 : decide ((x3_7 ++ a0_3).size + ((⟨#[63]⟩ : ByteArray) ++ a0_5).size ≤ 9223372036854775807) = true := decide_eq_true c17
                  try have c17b2 : (9223372036854775807 < (x3_7 ++ a0_3).size + ((⟨#[63]⟩ : ByteArray) ++ a0_5).size) = False := eq_false (Nat.not_lt.2 c17)
                  by_cases c18 : a0_6 = true
                  · subst c18
                    have H1 : (if 1 + a0_7.size ≤ 9223372036854775807 then (if ((x3_7 ++ a0_3) ++ ((⟨#[63]⟩ : ByteArray) ++ a0_5)).size + ((⟨#[35]⟩ : ByteArray) ++ a0_7).size ≤ 9223372036854775807 then (some (((x3_7 ++ a0_3) ++ ((⟨#[63]⟩ : ByteArray) ++ a0_5)) ++ ((⟨#[35]⟩ : ByteArray) ++ a0_7))) else (none)) else (none)) = some r := by rw [if_pos rfl] at H; exact H
                    clear H
                    have H := H1
                    clear H1
                    by_cases c19 : 1 + a0_7.size ≤ 9223372036854775807
                    · rw [if_pos c19] at H
                      have c19b0 := eq_true c19
                      have c19b1 : decide (1 + a0_7.size ≤ 9223372036854775807) = true := decide_eq_true c19
                      try have c19b2 : (9223372036854775807 < 1 + a0_7.size) = False := eq_false (Nat.not_lt.2 c19)
                      by_cases c20 : ((x3_7 ++ a0_3) ++ ((⟨#[63]⟩ : ByteArray) ++ a0_5)).size + ((⟨#[35]⟩ : ByteArray) ++ a0_7).size ≤ 9223372036854775807
                      · rw [if_pos c20] at H
                        have c20b0 := eq_true c20
                        have c20b1 : decide (((x3_7 ++ a0_3) ++ ((⟨#[63]⟩ : ByteArray) ++ a0_5)).size + ((⟨#[35]⟩ : ByteArray) ++ a0_7).size ≤ 9223372036854775807) = true := decide_eq_true c20
                        try have c20b2 : (9223372036854775807 < ((x3_7 ++ a0_3) ++ ((⟨#[63]⟩ : ByteArray) ++ a0_5)).size + ((⟨#[35]⟩ : ByteArray) ++ a0_7).size) = False := eq_false (Nat.not_lt.2 c20)
                        obtain rfl := Option.some.inj H
                        have hcz21_0 : wc.cell? ⟨gb211, 0, none⟩ = some (.string a0_0) := (blk_cell BK211.out 0).trans rfl
                        have hcz21_1 : wc.cell? ⟨gb211, 1, none⟩ = some (.bool a0_1) := (blk_cell BK211.out 1).trans rfl
                        have hcz21_2 : wc.cell? ⟨gb211, 2, none⟩ = some (.string a0_2) := (blk_cell BK211.out 2).trans rfl
                        have hcz21_3 : wc.cell? ⟨gb211, 3, none⟩ = some (.string a0_3) := (blk_cell BK211.out 3).trans rfl
                        have hcz21_4 : wc.cell? ⟨gb211, 4, none⟩ = some (.bool true) := (blk_cell BK211.out 4).trans rfl
                        have hcz21_5 : wc.cell? ⟨gb211, 5, none⟩ = some (.string a0_5) := (blk_cell BK211.out 5).trans rfl
                        have hcz21_6 : wc.cell? ⟨gb211, 6, none⟩ = some (.bool true) := (blk_cell BK211.out 6).trans rfl
                        have hcz21_7 : wc.cell? ⟨gb211, 7, none⟩ = some (.string a0_7) := (blk_cell BK211.out 7).trans rfl
                        have hfz21_0 := blk_frozen BK211.out 0
                        have hfz21_1 := blk_frozen BK211.out 1
                        have hfz21_2 := blk_frozen BK211.out 2
                        have hfz21_3 := blk_frozen BK211.out 3
                        have hfz21_4 := blk_frozen BK211.out 4
                        have hfz21_5 := blk_frozen BK211.out 5
                        have hfz21_6 := blk_frozen BK211.out 6
                        have hfz21_7 := blk_frozen BK211.out 7
                        go_wp2
                        go_ret
                        exact ⟨by first | rfl | (simp [errW_none, errW_some] <;> rfl) | (simp [*, errW_none, errW_some] <;> rfl), by repeat (first | (with_reducible first | exact HB.out | apply below_alloc | apply pw_below_drewN | apply below_drew1 | refine below_set ?_ GE211.out) | exact HB.out)⟩
                      · rw [if_neg c20] at H
                        exact absurd H (by simp)
                    · rw [if_neg c19] at H
                      exact absurd H (by simp)
                  · replace c18 := Bool.eq_false_iff.mpr c18
                    subst c18
                    have H1 : (some ((x3_7 ++ a0_3) ++ ((⟨#[63]⟩ : ByteArray) ++ a0_5))) = some r := by rw [if_neg (show ¬ (false = true) by decide)] at H; exact H
                    clear H
                    have H := H1
                    clear H1
                    obtain rfl := Option.some.inj H
                    have hcz22_0 : wc.cell? ⟨gb211, 0, none⟩ = some (.string a0_0) := (blk_cell BK211.out 0).trans rfl
                    have hcz22_1 : wc.cell? ⟨gb211, 1, none⟩ = some (.bool a0_1) := (blk_cell BK211.out 1).trans rfl
                    have hcz22_2 : wc.cell? ⟨gb211, 2, none⟩ = some (.string a0_2) := (blk_cell BK211.out 2).trans rfl
                    have hcz22_3 : wc.cell? ⟨gb211, 3, none⟩ = some (.string a0_3) := (blk_cell BK211.out 3).trans rfl
                    have hcz22_4 : wc.cell? ⟨gb211, 4, none⟩ = some (.bool true) := (blk_cell BK211.out 4).trans rfl
                    have hcz22_5 : wc.cell? ⟨gb211, 5, none⟩ = some (.string a0_5) := (blk_cell BK211.out 5).trans rfl
                    have hcz22_6 : wc.cell? ⟨gb211, 6, none⟩ = some (.bool false) := (blk_cell BK211.out 6).trans rfl
                    have hcz22_7 : wc.cell? ⟨gb211, 7, none⟩ = some (.string a0_7) := (blk_cell BK211.out 7).trans rfl
                    have hfz22_0 := blk_frozen BK211.out 0
                    have hfz22_1 := blk_frozen BK211.out 1
                    have hfz22_2 := blk_frozen BK211.out 2
                    have hfz22_3 := blk_frozen BK211.out 3
                    have hfz22_4 := blk_frozen BK211.out 4
                    have hfz22_5 := blk_frozen BK211.out 5
                    have hfz22_6 := blk_frozen BK211.out 6
                    have hfz22_7 := blk_frozen BK211.out 7
                    go_wp2
                    go_ret
                    exact ⟨by first | rfl | (simp [errW_none, errW_some] <;> rfl) | (simp [*, errW_none, errW_some] <;> rfl), by repeat (first | (with_reducible first | exact HB.out | apply below_alloc | apply pw_below_drewN | apply below_drew1 | refine below_set ?_ GE211.out) | exact HB.out)⟩
                · rw [if_neg c17] at H
                  exact absurd H (by simp)
              · rw [if_neg c16] at H
                exact absurd H (by simp)
            · replace c15 := Bool.eq_false_iff.mpr c15
              subst c15
              have H1 : (if a0_6 = true then (if 1 + a0_7.size ≤ 9223372036854775807 then (if (x3_7 ++ a0_3).size + ((⟨#[35]⟩ : ByteArray) ++ a0_7).size ≤ 9223372036854775807 then (some ((x3_7 ++ a0_3) ++ ((⟨#[35]⟩ : ByteArray) ++ a0_7))) else (none)) else (none)) else (some (x3_7 ++ a0_3))) = some r := by rw [if_neg (show ¬ (false = true) by decide)] at H; exact H
              clear H
              have H := H1
              clear H1
              by_cases c23 : a0_6 = true
              · subst c23
                have H1 : (if 1 + a0_7.size ≤ 9223372036854775807 then (if (x3_7 ++ a0_3).size + ((⟨#[35]⟩ : ByteArray) ++ a0_7).size ≤ 9223372036854775807 then (some ((x3_7 ++ a0_3) ++ ((⟨#[35]⟩ : ByteArray) ++ a0_7))) else (none)) else (none)) = some r := by rw [if_pos rfl] at H; exact H
                clear H
                have H := H1
                clear H1
                by_cases c24 : 1 + a0_7.size ≤ 9223372036854775807
                · rw [if_pos c24] at H
                  have c24b0 := eq_true c24
                  have c24b1 : decide (1 + a0_7.size ≤ 9223372036854775807) = true := decide_eq_true c24
                  try have c24b2 : (9223372036854775807 < 1 + a0_7.size) = False := eq_false (Nat.not_lt.2 c24)
                  by_cases c25 : (x3_7 ++ a0_3).size + ((⟨#[35]⟩ : ByteArray) ++ a0_7).size ≤ 9223372036854775807
                  · rw [if_pos c25] at H
                    have c25b0 := eq_true c25
                    have c25b1 : decide ((x3_7 ++ a0_3).size + ((⟨#[35]⟩ : ByteArray) ++ a0_7).size ≤ 9223372036854775807) = true := decide_eq_true c25
                    try have c25b2 : (9223372036854775807 < (x3_7 ++ a0_3).size + ((⟨#[35]⟩ : ByteArray) ++ a0_7).size) = False := eq_false (Nat.not_lt.2 c25)
                    obtain rfl := Option.some.inj H
                    have hcz26_0 : wc.cell? ⟨gb211, 0, none⟩ = some (.string a0_0) := (blk_cell BK211.out 0).trans rfl
                    have hcz26_1 : wc.cell? ⟨gb211, 1, none⟩ = some (.bool a0_1) := (blk_cell BK211.out 1).trans rfl
                    have hcz26_2 : wc.cell? ⟨gb211, 2, none⟩ = some (.string a0_2) := (blk_cell BK211.out 2).trans rfl
                    have hcz26_3 : wc.cell? ⟨gb211, 3, none⟩ = some (.string a0_3) := (blk_cell BK211.out 3).trans rfl
                    have hcz26_4 : wc.cell? ⟨gb211, 4, none⟩ = some (.bool false) := (blk_cell BK211.out 4).trans rfl
                    have hcz26_5 : wc.cell? ⟨gb211, 5, none⟩ = some (.string a0_5) := (blk_cell BK211.out 5).trans rfl
                    have hcz26_6 : wc.cell? ⟨gb211, 6, none⟩ = some (.bool true) := (blk_cell BK211.out 6).trans rfl
                    have hcz26_7 : wc.cell? ⟨gb211, 7, none⟩ = some (.string a0_7) := (blk_cell BK211.out 7).trans rfl
                    have hfz26_0 := blk_frozen BK211.out 0
                    have hfz26_1 := blk_frozen BK211.out 1
                    have hfz26_2 := blk_frozen BK211.out 2
                    have hfz26_3 := blk_frozen BK211.out 3
                    have hfz26_4 := blk_frozen BK211.out 4
                    have hfz26_5 := blk_frozen BK211.out 5
                    have hfz26_6 := blk_frozen BK211.out 6
                    have hfz26_7 := blk_frozen BK211.out 7
                    go_wp2
                    go_ret
                    exact ⟨by first | rfl | (simp [errW_none, errW_some] <;> rfl) | (simp [*, errW_none, errW_some] <;> rfl), by repeat (first | (with_reducible first | exact HB.out | apply below_alloc | apply pw_below_drewN | apply below_drew1 | refine below_set ?_ GE211.out) | exact HB.out)⟩
                  · rw [if_neg c25] at H
                    exact absurd H (by simp)
                · rw [if_neg c24] at H
                  exact absurd H (by simp)
              · replace c23 := Bool.eq_false_iff.mpr c23
                subst c23
                have H1 : (some (x3_7 ++ a0_3)) = some r := by rw [if_neg (show ¬ (false = true) by decide)] at H; exact H
                clear H
                have H := H1
                clear H1
                obtain rfl := Option.some.inj H
                have hcz27_0 : wc.cell? ⟨gb211, 0, none⟩ = some (.string a0_0) := (blk_cell BK211.out 0).trans rfl
                have hcz27_1 : wc.cell? ⟨gb211, 1, none⟩ = some (.bool a0_1) := (blk_cell BK211.out 1).trans rfl
                have hcz27_2 : wc.cell? ⟨gb211, 2, none⟩ = some (.string a0_2) := (blk_cell BK211.out 2).trans rfl
                have hcz27_3 : wc.cell? ⟨gb211, 3, none⟩ = some (.string a0_3) := (blk_cell BK211.out 3).trans rfl
                have hcz27_4 : wc.cell? ⟨gb211, 4, none⟩ = some (.bool false) := (blk_cell BK211.out 4).trans rfl
                have hcz27_5 : wc.cell? ⟨gb211, 5, none⟩ = some (.string a0_5) := (blk_cell BK211.out 5).trans rfl
                have hcz27_6 : wc.cell? ⟨gb211, 6, none⟩ = some (.bool false) := (blk_cell BK211.out 6).trans rfl
                have hcz27_7 : wc.cell? ⟨gb211, 7, none⟩ = some (.string a0_7) := (blk_cell BK211.out 7).trans rfl
                have hfz27_0 := blk_frozen BK211.out 0
                have hfz27_1 := blk_frozen BK211.out 1
                have hfz27_2 := blk_frozen BK211.out 2
                have hfz27_3 := blk_frozen BK211.out 3
                have hfz27_4 := blk_frozen BK211.out 4
                have hfz27_5 := blk_frozen BK211.out 5
                have hfz27_6 := blk_frozen BK211.out 6
                have hfz27_7 := blk_frozen BK211.out 7
                go_wp2
                go_ret
                exact ⟨by first | rfl | (simp [errW_none, errW_some] <;> rfl) | (simp [*, errW_none, errW_some] <;> rfl), by repeat (first | (with_reducible first | exact HB.out | apply below_alloc | apply pw_below_drewN | apply below_drew1 | refine below_set ?_ GE211.out) | exact HB.out)⟩
          · rw [if_neg c14] at H
            exact absurd H (by simp)

end Go.Proofs.Ytgccggbokphibaa.PJoi
