-- SPLICED by sprint.py: out of the kit's printer, with some functions by this session's own texts. No printed file. Lean checks it.
import Derived.Test.YteebphjlecmgjaaPUpsx0
import Derived.Test.YteebphjlecmgjaaPUpsx2
namespace Go.Proofs.Yteebphjlecmgjaa.PUps
open Go.RowKit Go.Proofs.YteebphjlecmgjaaW.PrintWords Go.Proofs.YteebphjlecmgjaaW.PrintLast Go.Proofs.YteebphjlecmgjaaW.PrintMore
attribute [local go_sem] max2_int min2_int max_two min_two max_three min_three max_four min_four   -- for this text's walks alone
set_option linter.unusedVariables false
set_option linter.unusedSimpArgs false

/-! ### monikerlaw23_DotsUp: function 4 -/
mutual
def monikerlaw23_DotsUp.l0 : Nat → List Int → Int → ByteArray → List Int → Int → Int → Option (Bool)
  | 0, _, _, _, _, _, _ => none
  | k + 1, x0, x1, x5, x14, x15, x16 => if x16 < x15 then (if 0 ≤ x16 then (if x16 < (x14.length : Int) then (if 1 + (Go.Utf8.encode (wrap32 (wrap64 (97 + (Int.tmod (wrap64 (rd x14 x16)) 26))))).size ≤ 9223372036854775807 then (if x5.size + ((⟨#[47]⟩ : ByteArray) ++ (Go.Utf8.encode (wrap32 (wrap64 (97 + (Int.tmod (wrap64 (rd x14 x16)) 26)))))).size ≤ 9223372036854775807 then (monikerlaw23_DotsUp.l0 k x0 x1 (x5 ++ ((⟨#[47]⟩ : ByteArray) ++ (Go.Utf8.encode (wrap32 (wrap64 (97 + (Int.tmod (wrap64 (rd x14 x16)) 26))))))) x14 x15 (wrap64 (x16 + 1))) else (none)) else (none)) else (none)) else (none)) else (monikerlaw23_DotsUp.l1 k x0 x1 x5 x5 (x0.length : Int) 0)
def monikerlaw23_DotsUp.l1 : Nat → List Int → Int → ByteArray → ByteArray → Int → Int → Option (Bool)
  | 0, _, _, _, _, _, _ => none
  | k + 1, x0, x1, x5, x8, x32, x33 => if x33 < x32 then (if x8.size + 3 ≤ 9223372036854775807 then (monikerlaw23_DotsUp.l1 k x0 x1 x5 (x8 ++ (⟨#[47, 46, 46]⟩ : ByteArray)) x32 (wrap64 (x33 + 1))) else (none)) else (monikerlaw23_DotsUp.l2 k x0 x1 x5 x8 (Int.tmod (wrap64 (x1)) 5) 0)
def monikerlaw23_DotsUp.l2 : Nat → List Int → Int → ByteArray → ByteArray → Int → Int → Option (Bool)
  | 0, _, _, _, _, _, _ => none
  | k + 1, x0, x1, x5, x8, x40, x41 => if x41 < x40 then (if x8.size + 3 ≤ 9223372036854775807 then (monikerlaw23_DotsUp.l2 k x0 x1 x5 (x8 ++ (⟨#[47, 46, 46]⟩ : ByteArray)) x40 (wrap64 (x41 + 1))) else (none)) else (if (x0.length : Int) = 0 then (monikerlaw23_DotsUp.j3 k x5 x8 (⟨#[47]⟩ : ByteArray) ((Int.tmod (wrap64 (x1)) 5) == 0)) else (monikerlaw23_DotsUp.j3 k x5 x8 (⟨#[47]⟩ : ByteArray) false))
def monikerlaw23_DotsUp.j3 : Nat → ByteArray → ByteArray → ByteArray → Bool → Option (Bool)
  | 0, _, _, _, _ => none
  | k + 1, x5, x8, x9, x54 => if x54 = true then (monikerlaw23_DotsUp.j4 k x5 x8 (⟨#[]⟩ : ByteArray)) else (monikerlaw23_DotsUp.j4 k x5 x8 x9)
def monikerlaw23_DotsUp.j4 : Nat → ByteArray → ByteArray → ByteArray → Option (Bool)
  | 0, _, _, _ => none
  | k + 1, x5, x8, x9 => (dots_Remove.f k x8).bind fun t116 => (if t116.toList = x9.toList then (if x8.size + 2 ≤ 9223372036854775807 then ((dots_Remove.f k (x8 ++ (⟨#[47, 120]⟩ : ByteArray))).bind fun t117 => (if t117.toList = ([47, 120] : List UInt8) then (if x5.size + 2 ≤ 9223372036854775807 then ((dots_Remove.f k (x5 ++ (⟨#[47, 46]⟩ : ByteArray))).bind fun t118 => (if x5.size + 1 ≤ 9223372036854775807 then (if t118.toList = (x5 ++ (⟨#[47]⟩ : ByteArray)).toList then ((monikerlaw23_awake.f k).bind fun t119 => (some t119)) else (some false)) else (none))) else (none)) else (some false))) else (none)) else (some false))
end
def monikerlaw23_DotsUp.f (k : Nat) (l0 : List Int) (a1 : Int) : Option (Bool) := if (l0.length : Int) > 30 then ((monikerlaw23_awake.f k).bind fun t114 => (some t114)) else (monikerlaw23_DotsUp.l0 k l0 a1 (⟨#[]⟩ : ByteArray) l0 (l0.length : Int) 0)
theorem monikerlaw23_DotsUp.mono_l : ∀ k, (∀ y0 y1 y2 y3 y4 y5, LeO (monikerlaw23_DotsUp.l0 k y0 y1 y2 y3 y4 y5) (monikerlaw23_DotsUp.l0 (k + 1) y0 y1 y2 y3 y4 y5)) ∧ (∀ y0 y1 y2 y3 y4 y5, LeO (monikerlaw23_DotsUp.l1 k y0 y1 y2 y3 y4 y5) (monikerlaw23_DotsUp.l1 (k + 1) y0 y1 y2 y3 y4 y5)) ∧ (∀ y0 y1 y2 y3 y4 y5, LeO (monikerlaw23_DotsUp.l2 k y0 y1 y2 y3 y4 y5) (monikerlaw23_DotsUp.l2 (k + 1) y0 y1 y2 y3 y4 y5)) ∧ (∀ y0 y1 y2 y3, LeO (monikerlaw23_DotsUp.j3 k y0 y1 y2 y3) (monikerlaw23_DotsUp.j3 (k + 1) y0 y1 y2 y3)) ∧ (∀ y0 y1 y2, LeO (monikerlaw23_DotsUp.j4 k y0 y1 y2) (monikerlaw23_DotsUp.j4 (k + 1) y0 y1 y2))
  | 0 => ⟨fun _ _ _ _ _ _ r h => by simp [monikerlaw23_DotsUp.l0] at h, fun _ _ _ _ _ _ r h => by simp [monikerlaw23_DotsUp.l1] at h, fun _ _ _ _ _ _ r h => by simp [monikerlaw23_DotsUp.l2] at h, fun _ _ _ _ r h => by simp [monikerlaw23_DotsUp.j3] at h, fun _ _ _ r h => by simp [monikerlaw23_DotsUp.j4] at h⟩
  | k + 1 => by
    obtain ⟨ih0, ih1, ih2, ih3, ih4⟩ := monikerlaw23_DotsUp.mono_l k
    refine ⟨?_, ?_, ?_, ?_, ?_⟩
    · intro y0 y1 y2 y3 y4 y5
      unfold monikerlaw23_DotsUp.l0
      repeat' first
      | (with_reducible exact ih0 _ _ _ _ _ _)
      | (with_reducible exact ih1 _ _ _ _ _ _)
      | (with_reducible exact ih2 _ _ _ _ _ _)
      | (with_reducible exact ih3 _ _ _ _)
      | (with_reducible exact ih4 _ _ _)
      | (with_reducible exact dots_Remove.mono _ _)
      | (with_reducible exact monikerlaw23_awake.mono _)
      | (with_reducible exact LeO.refl _)
      | (with_reducible exact LeO.none _)
      | (with_reducible refine LeO.ite ?_ ?_)
      | (with_reducible refine LeO.bind ?_ (fun _ => ?_))
      | exact ih0 _ _ _ _ _ _
      | exact ih1 _ _ _ _ _ _
      | exact ih2 _ _ _ _ _ _
      | exact ih3 _ _ _ _
      | exact ih4 _ _ _
      | exact dots_Remove.mono _ _
      | exact monikerlaw23_awake.mono _
      | exact LeO.none _
      | refine LeO.ite ?_ ?_
      | refine LeO.bind ?_ (fun _ => ?_)
    · intro y0 y1 y2 y3 y4 y5
      unfold monikerlaw23_DotsUp.l1
      repeat' first
      | (with_reducible exact ih0 _ _ _ _ _ _)
      | (with_reducible exact ih1 _ _ _ _ _ _)
      | (with_reducible exact ih2 _ _ _ _ _ _)
      | (with_reducible exact ih3 _ _ _ _)
      | (with_reducible exact ih4 _ _ _)
      | (with_reducible exact dots_Remove.mono _ _)
      | (with_reducible exact monikerlaw23_awake.mono _)
      | (with_reducible exact LeO.refl _)
      | (with_reducible exact LeO.none _)
      | (with_reducible refine LeO.ite ?_ ?_)
      | (with_reducible refine LeO.bind ?_ (fun _ => ?_))
      | exact ih0 _ _ _ _ _ _
      | exact ih1 _ _ _ _ _ _
      | exact ih2 _ _ _ _ _ _
      | exact ih3 _ _ _ _
      | exact ih4 _ _ _
      | exact dots_Remove.mono _ _
      | exact monikerlaw23_awake.mono _
      | exact LeO.none _
      | refine LeO.ite ?_ ?_
      | refine LeO.bind ?_ (fun _ => ?_)
    · intro y0 y1 y2 y3 y4 y5
      unfold monikerlaw23_DotsUp.l2
      repeat' first
      | (with_reducible exact ih0 _ _ _ _ _ _)
      | (with_reducible exact ih1 _ _ _ _ _ _)
      | (with_reducible exact ih2 _ _ _ _ _ _)
      | (with_reducible exact ih3 _ _ _ _)
      | (with_reducible exact ih4 _ _ _)
      | (with_reducible exact dots_Remove.mono _ _)
      | (with_reducible exact monikerlaw23_awake.mono _)
      | (with_reducible exact LeO.refl _)
      | (with_reducible exact LeO.none _)
      | (with_reducible refine LeO.ite ?_ ?_)
      | (with_reducible refine LeO.bind ?_ (fun _ => ?_))
      | exact ih0 _ _ _ _ _ _
      | exact ih1 _ _ _ _ _ _
      | exact ih2 _ _ _ _ _ _
      | exact ih3 _ _ _ _
      | exact ih4 _ _ _
      | exact dots_Remove.mono _ _
      | exact monikerlaw23_awake.mono _
      | exact LeO.none _
      | refine LeO.ite ?_ ?_
      | refine LeO.bind ?_ (fun _ => ?_)
    · intro y0 y1 y2 y3
      unfold monikerlaw23_DotsUp.j3
      repeat' first
      | (with_reducible exact ih0 _ _ _ _ _ _)
      | (with_reducible exact ih1 _ _ _ _ _ _)
      | (with_reducible exact ih2 _ _ _ _ _ _)
      | (with_reducible exact ih3 _ _ _ _)
      | (with_reducible exact ih4 _ _ _)
      | (with_reducible exact dots_Remove.mono _ _)
      | (with_reducible exact monikerlaw23_awake.mono _)
      | (with_reducible exact LeO.refl _)
      | (with_reducible exact LeO.none _)
      | (with_reducible refine LeO.ite ?_ ?_)
      | (with_reducible refine LeO.bind ?_ (fun _ => ?_))
      | exact ih0 _ _ _ _ _ _
      | exact ih1 _ _ _ _ _ _
      | exact ih2 _ _ _ _ _ _
      | exact ih3 _ _ _ _
      | exact ih4 _ _ _
      | exact dots_Remove.mono _ _
      | exact monikerlaw23_awake.mono _
      | exact LeO.none _
      | refine LeO.ite ?_ ?_
      | refine LeO.bind ?_ (fun _ => ?_)
    · intro y0 y1 y2
      unfold monikerlaw23_DotsUp.j4
      repeat' first
      | (with_reducible exact ih0 _ _ _ _ _ _)
      | (with_reducible exact ih1 _ _ _ _ _ _)
      | (with_reducible exact ih2 _ _ _ _ _ _)
      | (with_reducible exact ih3 _ _ _ _)
      | (with_reducible exact ih4 _ _ _)
      | (with_reducible exact dots_Remove.mono _ _)
      | (with_reducible exact monikerlaw23_awake.mono _)
      | (with_reducible exact LeO.refl _)
      | (with_reducible exact LeO.none _)
      | (with_reducible refine LeO.ite ?_ ?_)
      | (with_reducible refine LeO.bind ?_ (fun _ => ?_))
      | exact ih0 _ _ _ _ _ _
      | exact ih1 _ _ _ _ _ _
      | exact ih2 _ _ _ _ _ _
      | exact ih3 _ _ _ _
      | exact ih4 _ _ _
      | exact dots_Remove.mono _ _
      | exact monikerlaw23_awake.mono _
      | exact LeO.none _
      | refine LeO.ite ?_ ?_
      | refine LeO.bind ?_ (fun _ => ?_)
theorem monikerlaw23_DotsUp.mono : ∀ a0 a1 k, LeO (monikerlaw23_DotsUp.f k a0 a1) (monikerlaw23_DotsUp.f (k + 1) a0 a1) := by
  intro a0 a1 k
  obtain ⟨ih0, ih1, ih2, ih3, ih4⟩ := monikerlaw23_DotsUp.mono_l k
  unfold monikerlaw23_DotsUp.f
  repeat' first
      | (with_reducible exact ih0 _ _ _ _ _ _)
      | (with_reducible exact ih1 _ _ _ _ _ _)
      | (with_reducible exact ih2 _ _ _ _ _ _)
      | (with_reducible exact ih3 _ _ _ _)
      | (with_reducible exact ih4 _ _ _)
      | (with_reducible exact dots_Remove.mono _ _)
      | (with_reducible exact monikerlaw23_awake.mono _)
      | (with_reducible exact LeO.refl _)
      | (with_reducible exact LeO.none _)
      | (with_reducible refine LeO.ite ?_ ?_)
      | (with_reducible refine LeO.bind ?_ (fun _ => ?_))
      | exact ih0 _ _ _ _ _ _
      | exact ih1 _ _ _ _ _ _
      | exact ih2 _ _ _ _ _ _
      | exact ih3 _ _ _ _
      | exact ih4 _ _ _
      | exact dots_Remove.mono _ _
      | exact monikerlaw23_awake.mono _
      | exact LeO.none _
      | refine LeO.ite ?_ ?_
      | refine LeO.bind ?_ (fun _ => ?_)
set_option maxHeartbeats 8000000 in
set_option maxRecDepth 100000 in
theorem monikerlaw23_DotsUp.calls (k : Nat) (A0 : Option Addr) (c0 : Nat) (l0 : List Int) (a1 : Int) (r : Bool) (w : World) (hr0 : Kd.C (Kd.int .u8) w A0 l0.length l0) (hc0 : l0.length ≤ c0) (h : monikerlaw23_DotsUp.f k l0 a1 = some r) :
    Calls Try.prog 4 #[.slice A0 l0.length c0, .int .u8 a1] w fun e w' => e = .returned (.bool r) ∧ Below w.heap.size w w' := by
  have HR0 := Aside0.mk hr0
  have HC0 := Aside0.mk hc0
  clear hr0 hc0
  have HB := Aside0.mk (Below.refl w.heap.size w)
  have H : (if (l0.length : Int) > 30 then ((monikerlaw23_awake.f k).bind fun t114 => (some t114)) else (monikerlaw23_DotsUp.l0 k l0 a1 (⟨#[]⟩ : ByteArray) l0 (l0.length : Int) 0)) = some r := h
  clear h
  by_cases c3 : (l0.length : Int) > 30
  · rw [if_pos c3] at H
    have c3b0 : decide (30 < (l0.length : Int)) = true := decide_eq_true c3
    have c3b1 : decide (30 < l0.length) = true := decide_eq_true (by omega)
    clear c3
    replace H := Option.bind_eq_some_iff.mp H
    obtain ⟨t114, A40, H⟩ := H
    replace H : (some t114) = some r := H
    have A4 := Aside0.mk A40
    clear A40
    obtain rfl := Option.some.inj H
    go_enter Try.func4, Try.ntmps4
    go_wp2_with (first | ((with_reducible refine gate_callee (f := 6) rfl ?_); refine goesL_ (some 13) rfl rfl Try.func6 (by kernel_rfl) rfl #[] rfl (by (try simp only [List.map_toArray, List.map_cons, List.map_nil]); first | done | rfl | (simp only [List.length_drop, List.length_take]; rfl)) ?_; (with_reducible refine (monikerlaw23_awake.calls k  t114 _ A4.out).mono ?_); rintro e w5 ⟨rfl, hb⟩; refine ⟨_, rfl, ?_⟩; have n0_ := Aside0.mk (below_step (by repeat (first | (with_reducible first | exact HB.out | apply below_alloc | apply pw_below_drewN | apply below_drew1) | exact HB.out)) hb); clear HB; have HB := n0_; clear n0_; (try clear hb); (try clear hb2); (try clear hk); (try clear hi)))
    go_ret
    exact ⟨by first | rfl | (simp [errW_none, errW_some] <;> rfl) | (simp [*, errW_none, errW_some] <;> rfl), by repeat (first | (with_reducible first | exact HB.out | apply below_alloc | apply pw_below_drewN | apply below_drew1) | exact HB.out)⟩
  · rw [if_neg c3] at H
    have c3b0 : decide (30 < (l0.length : Int)) = false := decide_eq_false c3
    have c3b1 : decide (30 < l0.length) = false := decide_eq_false (by omega)
    clear c3
    have H' := Aside0.mk H
    clear H
    go_enter Try.func4, Try.ntmps4
    go_wp2
    go_loopg [5, 16] k (fun kq v5 v16 w' => ∃ (x5_1 : ByteArray) (x16_1 : Int), v5 = .string x5_1 ∧ v16 = .int .i64 x16_1 ∧ Aside0 (monikerlaw23_DotsUp.l0 kq l0 a1 x5_1 l0 (l0.length : Int) x16_1 = some r) ∧ Aside0 (kq ≤ k) ∧ Aside0 (Below w.heap.size w w'))
    case atStart => exact ⟨((⟨#[]⟩ : ByteArray)), (0), (by first | rfl | (simp; done) | (simp [*]; done)), (by first | rfl | (simp; done) | (simp [*]; done)), H', ⟨Nat.le_refl _⟩, ⟨by repeat (first | (with_reducible first | exact HB.out | apply below_alloc | apply pw_below_drewN | apply below_drew1) | exact HB.out)⟩⟩
    case round =>
      clear H'
      try clear p2
      try clear c3
      try clear c3b0
      try clear c3b1
      try clear c4
      obtain ⟨x5_1, x16_1, rfl, rfl, HA, HK1, HB⟩ := hrel
      cases gk with
      | zero => exact absurd HA.out (by simp [monikerlaw23_DotsUp.l0])
      | succ k1 =>
        have H := HA.out
        clear HA
        simp only [monikerlaw23_DotsUp.l0] at H
        by_cases c6 : x16_1 < (l0.length : Int)
        · rw [if_pos c6] at H
          have c6b0 : decide (x16_1 < (l0.length : Int)) = true := decide_eq_true c6
          clear c6
          by_cases c7 : 0 ≤ x16_1
          · rw [if_pos c7] at H
            have c7b0 : decide (0 ≤ x16_1) = true := decide_eq_true c7
            clear c7
            by_cases c8 : x16_1 < (l0.length : Int)
            · rw [if_pos c8] at H
              have c8b0 : decide (x16_1 < (l0.length : Int)) = true := decide_eq_true c8
              clear c8
              by_cases c9 : 1 + (Go.Utf8.encode (wrap32 (wrap64 (97 + (Int.tmod (wrap64 (rd l0 x16_1)) 26))))).size ≤ 9223372036854775807
              · rw [if_pos c9] at H
                have c9b0 := eq_true c9
                have c9b1 : decide (1 + (Go.Utf8.encode (wrap32 (wrap64 (97 + (Int.tmod (wrap64 (rd l0 x16_1)) 26))))).size ≤ 9223372036854775807) = true := decide_eq_true c9
                try have c9b2 : (9223372036854775807 < 1 + (Go.Utf8.encode (wrap32 (wrap64 (97 + (Int.tmod (wrap64 (rd l0 x16_1)) 26))))).size) = False := eq_false (Nat.not_lt.2 c9)
                by_cases c10 : x5_1.size + ((⟨#[47]⟩ : ByteArray) ++ (Go.Utf8.encode (wrap32 (wrap64 (97 + (Int.tmod (wrap64 (rd l0 x16_1)) 26)))))).size ≤ 9223372036854775807
                · rw [if_pos c10] at H
                  have c10b0 := eq_true c10
                  have c10b1 : decide (x5_1.size + ((⟨#[47]⟩ : ByteArray) ++ (Go.Utf8.encode (wrap32 (wrap64 (97 + (Int.tmod (wrap64 (rd l0 x16_1)) 26)))))).size ≤ 9223372036854775807) = true := decide_eq_true c10
                  try have c10b2 : (9223372036854775807 < x5_1.size + ((⟨#[47]⟩ : ByteArray) ++ (Go.Utf8.encode (wrap32 (wrap64 (97 + (Int.tmod (wrap64 (rd l0 x16_1)) 26)))))).size) = False := eq_false (Nat.not_lt.2 c10)
                  have H' := Aside0.mk H
                  clear H
                  have p115 : 0 ≤ (x16_1 : Int) := of_decide_eq_true (by first | (with_reducible assumption) | assumption)
                  have q115 : x16_1 < (l0.length : Int) := of_decide_eq_true (by first | (with_reducible assumption) | assumption)
                  obtain ⟨ad115, e115, hx115_0⟩ := Kd.at_int HR0.out x16_1 p115 q115
                  cases e115
                  replace hx115_0 := (HB.out.cell (World.block_lt_of_cell? w _ hx115_0)).trans hx115_0
                  replace p115 := eq_true p115
                  replace q115 := eq_true q115
                  go_wp2
                  go_roundg k1
                  case measure => have := HK1.out; omega
                  case rel => exact ⟨(x5_1 ++ ((⟨#[47]⟩ : ByteArray) ++ (Go.Utf8.encode (wrap32 (wrap64 (97 + (Int.tmod (wrap64 (rd l0 x16_1)) 26))))))), (wrap64 (x16_1 + 1)), (by first | rfl | (simp; done) | (simp [*]; done)), (by first | rfl | (simp; done) | (simp [*]; done)), H', ⟨by have := HK1.out; omega⟩, ⟨by repeat (first | (with_reducible first | exact HB.out | apply below_alloc | apply pw_below_drewN | apply below_drew1) | exact HB.out)⟩⟩
                · rw [if_neg c10] at H
                  exact absurd H (by simp)
              · rw [if_neg c9] at H
                exact absurd H (by simp)
            · rw [if_neg c8] at H
              exact absurd H (by simp)
          · rw [if_neg c7] at H
            exact absurd H (by simp)
        · rw [if_neg c6] at H
          have c6b0 : decide (x16_1 < (l0.length : Int)) = false := decide_eq_false c6
          clear c6
          have H' := Aside0.mk H
          clear H
          go_wp2
          go_loopg [8, 33] k1 (fun kq v8 v33 w' => ∃ (x8_2 : ByteArray) (x33_2 : Int), v8 = .string x8_2 ∧ v33 = .int .i64 x33_2 ∧ Aside0 (monikerlaw23_DotsUp.l1 kq l0 a1 x5_1 x8_2 (l0.length : Int) x33_2 = some r) ∧ Aside0 (kq ≤ k1) ∧ Aside0 (Below w.heap.size w w'))
          case atStart => exact ⟨(x5_1), (0), (by first | rfl | (simp; done) | (simp [*]; done)), (by first | rfl | (simp; done) | (simp [*]; done)), H', ⟨Nat.le_refl _⟩, ⟨by repeat (first | (with_reducible first | exact HB.out | apply below_alloc | apply pw_below_drewN | apply below_drew1) | exact HB.out)⟩⟩
          case round =>
            clear H'
            try clear c1
            try clear p1
            try clear q1
            try clear hx1
            try clear p2
            try clear c3
            try clear c3b0
            try clear c3b1
            try clear p3
            try clear c4
            try clear c6
            try clear c6b0
            try clear p6
            try clear c7
            try clear c7b0
            try clear c8
            try clear c8b0
            try clear c9
            try clear c9b0
            try clear c9b1
            try clear c9b2
            try clear c10
            try clear c10b0
            try clear c10b1
            try clear c10b2
            try clear hx115_0
            try clear p115
            try clear p2
            try clear q115
            obtain ⟨x8_2, x33_2, rfl, rfl, HA, HK2, HB⟩ := hrel
            cases gk with
            | zero => exact absurd HA.out (by simp [monikerlaw23_DotsUp.l1])
            | succ k2 =>
              have H := HA.out
              clear HA
              simp only [monikerlaw23_DotsUp.l1] at H
              by_cases c11 : x33_2 < (l0.length : Int)
              · rw [if_pos c11] at H
                have c11b0 : decide (x33_2 < (l0.length : Int)) = true := decide_eq_true c11
                clear c11
                by_cases c12 : x8_2.size + 3 ≤ 9223372036854775807
                · rw [if_pos c12] at H
                  have c12b0 := eq_true c12
                  have c12b1 : decide (x8_2.size + 3 ≤ 9223372036854775807) = true := decide_eq_true c12
                  try have c12b2 : (9223372036854775807 < x8_2.size + 3) = False := eq_false (Nat.not_lt.2 c12)
                  have H' := Aside0.mk H
                  clear H
                  go_wp2
                  go_roundg k2
                  case measure => have := HK1.out; have := HK2.out; omega
                  case rel => exact ⟨(x8_2 ++ (⟨#[47, 46, 46]⟩ : ByteArray)), (wrap64 (x33_2 + 1)), (by first | rfl | (simp; done) | (simp [*]; done)), (by first | rfl | (simp; done) | (simp [*]; done)), H', ⟨by have := HK1.out; have := HK2.out; omega⟩, ⟨by repeat (first | (with_reducible first | exact HB.out | apply below_alloc | apply pw_below_drewN | apply below_drew1) | exact HB.out)⟩⟩
                · rw [if_neg c12] at H
                  exact absurd H (by simp)
              · rw [if_neg c11] at H
                have c11b0 : decide (x33_2 < (l0.length : Int)) = false := decide_eq_false c11
                clear c11
                have H' := Aside0.mk H
                clear H
                go_wp2
                go_loopg [8, 41] k2 (fun kq v8 v41 w' => ∃ (x8_3 : ByteArray) (x41_3 : Int), v8 = .string x8_3 ∧ v41 = .int .i64 x41_3 ∧ Aside0 (monikerlaw23_DotsUp.l2 kq l0 a1 x5_1 x8_3 (Int.tmod (wrap64 (a1)) 5) x41_3 = some r) ∧ Aside0 (kq ≤ k2) ∧ Aside0 (Below w.heap.size w w'))
                case atStart => exact ⟨(x8_2), (0), (by first | rfl | (simp; done) | (simp [*]; done)), (by first | rfl | (simp; done) | (simp [*]; done)), H', ⟨Nat.le_refl _⟩, ⟨by repeat (first | (with_reducible first | exact HB.out | apply below_alloc | apply pw_below_drewN | apply below_drew1) | exact HB.out)⟩⟩
                case round =>
                  clear H'
                  try clear c1
                  try clear p1
                  try clear q1
                  try clear hx1
                  try clear p2
                  try clear c3
                  try clear c3b0
                  try clear c3b1
                  try clear p3
                  try clear c4
                  try clear c6
                  try clear c6b0
                  try clear p6
                  try clear c7
                  try clear c7b0
                  try clear c8
                  try clear c8b0
                  try clear c9
                  try clear c9b0
                  try clear c9b1
                  try clear c9b2
                  try clear c10
                  try clear c10b0
                  try clear c10b1
                  try clear c10b2
                  try clear c11
                  try clear c11b0
                  try clear p11
                  try clear q11
                  try clear hx11
                  try clear c12
                  try clear c12b0
                  try clear c12b1
                  try clear c12b2
                  try clear hx115_0
                  try clear p1
                  try clear p115
                  try clear p2
                  try clear p3
                  try clear p6
                  try clear q1
                  try clear q115
                  obtain ⟨x8_3, x41_3, rfl, rfl, HA, HK3, HB⟩ := hrel
                  cases gk with
                  | zero => exact absurd HA.out (by simp [monikerlaw23_DotsUp.l2])
                  | succ k3 =>
                    have H := HA.out
                    clear HA
                    simp only [monikerlaw23_DotsUp.l2] at H
                    by_cases c13 : x41_3 < (Int.tmod (wrap64 (a1)) 5)
                    · rw [if_pos c13] at H
                      have c13b0 : decide (x41_3 < (Int.tmod (wrap64 (a1)) 5)) = true := decide_eq_true c13
                      clear c13
                      by_cases c14 : x8_3.size + 3 ≤ 9223372036854775807
                      · rw [if_pos c14] at H
                        have c14b0 := eq_true c14
                        have c14b1 : decide (x8_3.size + 3 ≤ 9223372036854775807) = true := decide_eq_true c14
                        try have c14b2 : (9223372036854775807 < x8_3.size + 3) = False := eq_false (Nat.not_lt.2 c14)
                        have H' := Aside0.mk H
                        clear H
                        go_wp2
                        go_roundg k3
                        case measure => have := HK1.out; have := HK2.out; have := HK3.out; omega
                        case rel => exact ⟨(x8_3 ++ (⟨#[47, 46, 46]⟩ : ByteArray)), (wrap64 (x41_3 + 1)), (by first | rfl | (simp; done) | (simp [*]; done)), (by first | rfl | (simp; done) | (simp [*]; done)), H', ⟨by have := HK1.out; have := HK2.out; have := HK3.out; omega⟩, ⟨by repeat (first | (with_reducible first | exact HB.out | apply below_alloc | apply pw_below_drewN | apply below_drew1) | exact HB.out)⟩⟩
                      · rw [if_neg c14] at H
                        exact absurd H (by simp)
                    · rw [if_neg c13] at H
                      have c13b0 : decide (x41_3 < (Int.tmod (wrap64 (a1)) 5)) = false := decide_eq_false c13
                      clear c13
                      have HC15 := Aside0.mk H
                      clear H
                      go_upto_region 19 with (fail)
                      go_cut [54] (fun v54 wc => ∃ (kq : Nat) (x54_14 : Bool), v54 = .bool x54_14 ∧ Aside0 (monikerlaw23_DotsUp.j3 kq x5_1 x8_3 (⟨#[47]⟩ : ByteArray) x54_14 = some r) ∧ Aside0 (kq ≤ k3) ∧ Aside0 (Below w.heap.size w wc))
                      case first =>
                        have H := HC15.out
                        clear HC15
                        by_cases c16 : (l0.length : Int) = 0
                        · rw [if_pos c16] at H
                          have c16b0 : ((l0.length : Int) == 0) = true := beq_iff_eq.mpr c16
                          have c16b1 : ((l0.length : Int) != 0) = false := bne_eq_false_iff_eq.mpr c16
                          clear c16
                          (first | rw [c16b0] | (simp only [i64_w, i32_w]; rw [c16b0]) | skip)
                          have H' := Aside0.mk H
                          clear H
                          go_wp2
                          go_meet
                          case rel => exact ⟨_, (((Int.tmod (wrap64 (a1)) 5) == 0)), (by first | rfl | (simp; done) | (simp [*]; done)), H', ⟨by have := HK1.out; have := HK2.out; have := HK3.out; first | omega | exact Nat.le_refl _⟩, ⟨by repeat (first | (with_reducible first | exact HB.out | apply below_alloc | apply pw_below_drewN | apply below_drew1) | exact HB.out)⟩⟩
                        · rw [if_neg c16] at H
                          have c16b0 : ((l0.length : Int) == 0) = false := beq_eq_false_iff_ne.mpr c16
                          have c16b1 : ((l0.length : Int) != 0) = true := bne_iff_ne.mpr c16
                          have c16b2 : ¬ (l0 = []) := fun h_ => c16 (by rw [h_]; rfl)
                          (first | rw [c16b0] | (simp only [i64_w, i32_w]; rw [c16b0]) | skip)
                          have H' := Aside0.mk H
                          clear H
                          go_wp2
                          go_meet
                          case rel => exact ⟨_, (false), (by first | rfl | (simp; done) | (simp [*]; done)), H', ⟨by have := HK1.out; have := HK2.out; have := HK3.out; first | omega | exact Nat.le_refl _⟩, ⟨by repeat (first | (with_reducible first | exact HB.out | apply below_alloc | apply pw_below_drewN | apply below_drew1) | exact HB.out)⟩⟩
                      case rest =>
                        clear HC15
                        try clear c1
                        try clear p1
                        try clear q1
                        try clear hx1
                        try clear p2
                        try clear c3
                        try clear c3b0
                        try clear c3b1
                        try clear p3
                        try clear c4
                        try clear c6
                        try clear c6b0
                        try clear p6
                        try clear c7
                        try clear c7b0
                        try clear c8
                        try clear c8b0
                        try clear c9
                        try clear c9b0
                        try clear c9b1
                        try clear c9b2
                        try clear c10
                        try clear c10b0
                        try clear c10b1
                        try clear c10b2
                        try clear c11
                        try clear c11b0
                        try clear p11
                        try clear q11
                        try clear hx11
                        try clear c12
                        try clear c12b0
                        try clear c12b1
                        try clear c12b2
                        try clear c13
                        try clear c13b0
                        try clear c14
                        try clear c14b0
                        try clear c14b1
                        try clear c14b2
                        try clear c16
                        try clear c16b0
                        try clear c16b1
                        try clear c16b2
                        try clear hx115_0
                        try clear p1
                        try clear p11
                        try clear p115
                        try clear p2
                        try clear p3
                        try clear p6
                        try clear q1
                        try clear q11
                        try clear q115
                        obtain ⟨kq, x54_14, rfl, HA, HJ14, HB⟩ := hcut
                        cases kq with
                        | zero => exact absurd HA.out (by simp [monikerlaw23_DotsUp.j3])
                        | succ kj14 =>
                          have H := HA.out
                          clear HA
                          simp only [monikerlaw23_DotsUp.j3] at H
                          have HC17 := Aside0.mk H
                          clear H
                          go_upto_if 54 with (fail)
                          go_cut [9] (fun v9 wc => ∃ (kq : Nat) (x9_16 : ByteArray), v9 = .string x9_16 ∧ Aside0 (monikerlaw23_DotsUp.j4 kq x5_1 x8_3 x9_16 = some r) ∧ Aside0 (kq ≤ kj14) ∧ Aside0 (Below w.heap.size w wc))
                          case first =>
                            have H := HC17.out
                            clear HC17
                            by_cases c18 : x54_14 = true
                            · subst c18
                              have H1 : (monikerlaw23_DotsUp.j4 kj14 x5_1 x8_3 (⟨#[]⟩ : ByteArray)) = some r := by rw [if_pos rfl] at H; exact H
                              clear H
                              have H := H1
                              clear H1
                              have H' := Aside0.mk H
                              clear H
                              go_wp2
                              go_meet
                              case rel => exact ⟨_, ((⟨#[]⟩ : ByteArray)), (by first | rfl | (simp; done) | (simp [*]; done)), H', ⟨by have := HK1.out; have := HK2.out; have := HK3.out; have := HJ14.out; first | omega | exact Nat.le_refl _⟩, ⟨by repeat (first | (with_reducible first | exact HB.out | apply below_alloc | apply pw_below_drewN | apply below_drew1) | exact HB.out)⟩⟩
                            · replace c18 := Bool.eq_false_iff.mpr c18
                              subst c18
                              have H1 : (monikerlaw23_DotsUp.j4 kj14 x5_1 x8_3 (⟨#[47]⟩ : ByteArray)) = some r := by rw [if_neg (show ¬ (false = true) by decide)] at H; exact H
                              clear H
                              have H := H1
                              clear H1
                              have H' := Aside0.mk H
                              clear H
                              go_wp2
                              go_meet
                              case rel => exact ⟨_, ((⟨#[47]⟩ : ByteArray)), (by first | rfl | (simp; done) | (simp [*]; done)), H', ⟨by have := HK1.out; have := HK2.out; have := HK3.out; have := HJ14.out; first | omega | exact Nat.le_refl _⟩, ⟨by repeat (first | (with_reducible first | exact HB.out | apply below_alloc | apply pw_below_drewN | apply below_drew1) | exact HB.out)⟩⟩
                          case rest =>
                            clear HC17
                            try clear c1
                            try clear p1
                            try clear q1
                            try clear hx1
                            try clear p2
                            try clear c3
                            try clear c3b0
                            try clear c3b1
                            try clear p3
                            try clear c4
                            try clear c6
                            try clear c6b0
                            try clear p6
                            try clear c7
                            try clear c7b0
                            try clear c8
                            try clear c8b0
                            try clear c9
                            try clear c9b0
                            try clear c9b1
                            try clear c9b2
                            try clear c10
                            try clear c10b0
                            try clear c10b1
                            try clear c10b2
                            try clear c11
                            try clear c11b0
                            try clear p11
                            try clear q11
                            try clear hx11
                            try clear c12
                            try clear c12b0
                            try clear c12b1
                            try clear c12b2
                            try clear c13
                            try clear c13b0
                            try clear c14
                            try clear c14b0
                            try clear c14b1
                            try clear c14b2
                            try clear c16
                            try clear c16b0
                            try clear c16b1
                            try clear c16b2
                            try clear c18
                            try clear hx115_0
                            try clear p1
                            try clear p11
                            try clear p115
                            try clear p2
                            try clear p3
                            try clear p6
                            try clear q1
                            try clear q11
                            try clear q115
                            obtain ⟨kq, x9_16, rfl, HA, HJ16, HB⟩ := hcut
                            cases kq with
                            | zero => exact absurd HA.out (by simp [monikerlaw23_DotsUp.j4])
                            | succ kj16 =>
                              have H := HA.out
                              clear HA
                              simp only [monikerlaw23_DotsUp.j4] at H
                              replace H := Option.bind_eq_some_iff.mp H
                              obtain ⟨t116, A190, H⟩ := H
                              replace H : (if t116.toList = x9_16.toList then (if x8_3.size + 2 ≤ 9223372036854775807 then ((dots_Remove.f kj16 (x8_3 ++ (⟨#[47, 120]⟩ : ByteArray))).bind fun t117 => (if t117.toList = ([47, 120] : List UInt8) then (if x5_1.size + 2 ≤ 9223372036854775807 then ((dots_Remove.f kj16 (x5_1 ++ (⟨#[47, 46]⟩ : ByteArray))).bind fun t118 => (if x5_1.size + 1 ≤ 9223372036854775807 then (if t118.toList = (x5_1 ++ (⟨#[47]⟩ : ByteArray)).toList then ((monikerlaw23_awake.f kj16).bind fun t119 => (some t119)) else (some false)) else (none))) else (none)) else (some false))) else (none)) else (some false)) = some r := H
                              have A19 := Aside0.mk A190
                              clear A190
                              by_cases c20 : t116.toList = x9_16.toList
                              · rw [if_pos c20] at H
                                have c20b0 : (t116.toList == x9_16.toList) = true := beq_iff_eq.mpr c20
                                have c20b1 : (t116.toList != x9_16.toList) = false := bne_eq_false_iff_eq.mpr c20
                                clear c20
                                by_cases c21 : x8_3.size + 2 ≤ 9223372036854775807
                                · rw [if_pos c21] at H
                                  have c21b0 := eq_true c21
                                  have c21b1 : decide (x8_3.size + 2 ≤ 9223372036854775807) = true := decide_eq_true c21
                                  try have c21b2 : (9223372036854775807 < x8_3.size + 2) = False := eq_false (Nat.not_lt.2 c21)
                                  replace H := Option.bind_eq_some_iff.mp H
                                  obtain ⟨t117, A220, H⟩ := H
                                  replace H : (if t117.toList = ([47, 120] : List UInt8) then (if x5_1.size + 2 ≤ 9223372036854775807 then ((dots_Remove.f kj16 (x5_1 ++ (⟨#[47, 46]⟩ : ByteArray))).bind fun t118 => (if x5_1.size + 1 ≤ 9223372036854775807 then (if t118.toList = (x5_1 ++ (⟨#[47]⟩ : ByteArray)).toList then ((monikerlaw23_awake.f kj16).bind fun t119 => (some t119)) else (some false)) else (none))) else (none)) else (some false)) = some r := H
                                  have A22 := Aside0.mk A220
                                  clear A220
                                  by_cases c23 : t117.toList = ([47, 120] : List UInt8)
                                  · rw [if_pos c23] at H
                                    have c23b0 : (t117.toList == ([47, 120] : List UInt8)) = true := beq_iff_eq.mpr c23
                                    have c23b1 : (t117.toList != ([47, 120] : List UInt8)) = false := bne_eq_false_iff_eq.mpr c23
                                    clear c23
                                    by_cases c24 : x5_1.size + 2 ≤ 9223372036854775807
                                    · rw [if_pos c24] at H
                                      have c24b0 := eq_true c24
                                      have c24b1 : decide (x5_1.size + 2 ≤ 9223372036854775807) = true := decide_eq_true c24
                                      try have c24b2 : (9223372036854775807 < x5_1.size + 2) = False := eq_false (Nat.not_lt.2 c24)
                                      replace H := Option.bind_eq_some_iff.mp H
                                      obtain ⟨t118, A250, H⟩ := H
                                      replace H : (if x5_1.size + 1 ≤ 9223372036854775807 then (if t118.toList = (x5_1 ++ (⟨#[47]⟩ : ByteArray)).toList then ((monikerlaw23_awake.f kj16).bind fun t119 => (some t119)) else (some false)) else (none)) = some r := H
                                      have A25 := Aside0.mk A250
                                      clear A250
                                      by_cases c26 : x5_1.size + 1 ≤ 9223372036854775807
                                      · rw [if_pos c26] at H
                                        have c26b0 := eq_true c26
                                        have c26b1 : decide (x5_1.size + 1 ≤ 9223372036854775807) = true := decide_eq_true c26
                                        try have c26b2 : (9223372036854775807 < x5_1.size + 1) = False := eq_false (Nat.not_lt.2 c26)
                                        by_cases c27 : t118.toList = (x5_1 ++ (⟨#[47]⟩ : ByteArray)).toList
                                        · rw [if_pos c27] at H
                                          have c27b0 : (t118.toList == (x5_1 ++ (⟨#[47]⟩ : ByteArray)).toList) = true := beq_iff_eq.mpr c27
                                          have c27b1 : (t118.toList != (x5_1 ++ (⟨#[47]⟩ : ByteArray)).toList) = false := bne_eq_false_iff_eq.mpr c27
                                          clear c27
                                          replace H := Option.bind_eq_some_iff.mp H
                                          obtain ⟨t119, A280, H⟩ := H
                                          replace H : (some t119) = some r := H
                                          have A28 := Aside0.mk A280
                                          clear A280
                                          obtain rfl := Option.some.inj H
                                          go_wp2_with (first | ((with_reducible refine gate_callee (f := 7) rfl ?_); refine goesL_ (some 56) rfl rfl Try.func7 (by kernel_rfl) rfl #[.string x8_3] rfl (by (try simp only [List.map_toArray, List.map_cons, List.map_nil]); first | done | rfl | (simp only [List.length_drop, List.length_take]; rfl)) ?_; (with_reducible refine (dots_Remove.calls kj16 x8_3 t116 _ A19.out).mono ?_); rintro e w29 ⟨rfl, hb⟩; refine ⟨_, rfl, ?_⟩; have n0_ := Aside0.mk (below_step (by repeat (first | (with_reducible first | exact HB.out | apply below_alloc | apply pw_below_drewN | apply below_drew1) | exact HB.out)) hb); clear HB; have HB := n0_; clear n0_; (try clear hb); (try clear hb2); (try clear hk); (try clear hi)) | (go_at_call 7; (with_reducible refine (dots_Remove.calls kj16 (x8_3 ++ (⟨#[47, 120]⟩ : ByteArray)) t117 _ A22.out).mono ?_); rintro e w30 ⟨rfl, hb⟩; have n0_ := Aside0.mk (below_step (by repeat (first | (with_reducible first | exact HB.out | apply below_alloc | apply pw_below_drewN | apply below_drew1) | exact HB.out)) hb); clear HB; have HB := n0_; clear n0_; (try clear hb); (try clear hb2); (try clear hk); (try clear hi)) | (go_at_call 7; (with_reducible refine (dots_Remove.calls kj16 (x5_1 ++ (⟨#[47, 46]⟩ : ByteArray)) t118 _ A25.out).mono ?_); rintro e w31 ⟨rfl, hb⟩; have n0_ := Aside0.mk (below_step (by repeat (first | (with_reducible first | exact HB.out | apply below_alloc | apply pw_below_drewN | apply below_drew1) | exact HB.out)) hb); clear HB; have HB := n0_; clear n0_; (try clear hb); (try clear hb2); (try clear hk); (try clear hi)) | (go_at_call 6; (with_reducible refine (monikerlaw23_awake.calls kj16  t119 _ A28.out).mono ?_); rintro e w32 ⟨rfl, hb⟩; have n0_ := Aside0.mk (below_step (by repeat (first | (with_reducible first | exact HB.out | apply below_alloc | apply pw_below_drewN | apply below_drew1) | exact HB.out)) hb); clear HB; have HB := n0_; clear n0_; (try clear hb); (try clear hb2); (try clear hk); (try clear hi)))
                                          go_ret
                                          exact ⟨by first | rfl | (simp [errW_none, errW_some] <;> rfl) | (simp [*, errW_none, errW_some] <;> rfl), by repeat (first | (with_reducible first | exact HB.out | apply below_alloc | apply pw_below_drewN | apply below_drew1) | exact HB.out)⟩
                                        · rw [if_neg c27] at H
                                          have c27b0 : (t118.toList == (x5_1 ++ (⟨#[47]⟩ : ByteArray)).toList) = false := beq_eq_false_iff_ne.mpr c27
                                          have c27b1 : (t118.toList != (x5_1 ++ (⟨#[47]⟩ : ByteArray)).toList) = true := bne_iff_ne.mpr c27
                                          obtain rfl := Option.some.inj H
                                          go_wp2_with (first | ((with_reducible refine gate_callee (f := 7) rfl ?_); refine goesL_ (some 56) rfl rfl Try.func7 (by kernel_rfl) rfl #[.string x8_3] rfl (by (try simp only [List.map_toArray, List.map_cons, List.map_nil]); first | done | rfl | (simp only [List.length_drop, List.length_take]; rfl)) ?_; (with_reducible refine (dots_Remove.calls kj16 x8_3 t116 _ A19.out).mono ?_); rintro e w33 ⟨rfl, hb⟩; refine ⟨_, rfl, ?_⟩; have n0_ := Aside0.mk (below_step (by repeat (first | (with_reducible first | exact HB.out | apply below_alloc | apply pw_below_drewN | apply below_drew1) | exact HB.out)) hb); clear HB; have HB := n0_; clear n0_; (try clear hb); (try clear hb2); (try clear hk); (try clear hi)) | (go_at_call 7; (with_reducible refine (dots_Remove.calls kj16 (x8_3 ++ (⟨#[47, 120]⟩ : ByteArray)) t117 _ A22.out).mono ?_); rintro e w34 ⟨rfl, hb⟩; have n0_ := Aside0.mk (below_step (by repeat (first | (with_reducible first | exact HB.out | apply below_alloc | apply pw_below_drewN | apply below_drew1) | exact HB.out)) hb); clear HB; have HB := n0_; clear n0_; (try clear hb); (try clear hb2); (try clear hk); (try clear hi)) | (go_at_call 7; (with_reducible refine (dots_Remove.calls kj16 (x5_1 ++ (⟨#[47, 46]⟩ : ByteArray)) t118 _ A25.out).mono ?_); rintro e w35 ⟨rfl, hb⟩; have n0_ := Aside0.mk (below_step (by repeat (first | (with_reducible first | exact HB.out | apply below_alloc | apply pw_below_drewN | apply below_drew1) | exact HB.out)) hb); clear HB; have HB := n0_; clear n0_; (try clear hb); (try clear hb2); (try clear hk); (try clear hi)))
                                          go_ret
                                          exact ⟨by first | rfl | (simp [errW_none, errW_some] <;> rfl) | (simp [*, errW_none, errW_some] <;> rfl), by repeat (first | (with_reducible first | exact HB.out | apply below_alloc | apply pw_below_drewN | apply below_drew1) | exact HB.out)⟩
                                      · rw [if_neg c26] at H
                                        exact absurd H (by simp)
                                    · rw [if_neg c24] at H
                                      exact absurd H (by simp)
                                  · rw [if_neg c23] at H
                                    have c23b0 : (t117.toList == ([47, 120] : List UInt8)) = false := beq_eq_false_iff_ne.mpr c23
                                    have c23b1 : (t117.toList != ([47, 120] : List UInt8)) = true := bne_iff_ne.mpr c23
                                    obtain rfl := Option.some.inj H
                                    go_wp2_with (first | ((with_reducible refine gate_callee (f := 7) rfl ?_); refine goesL_ (some 56) rfl rfl Try.func7 (by kernel_rfl) rfl #[.string x8_3] rfl (by (try simp only [List.map_toArray, List.map_cons, List.map_nil]); first | done | rfl | (simp only [List.length_drop, List.length_take]; rfl)) ?_; (with_reducible refine (dots_Remove.calls kj16 x8_3 t116 _ A19.out).mono ?_); rintro e w36 ⟨rfl, hb⟩; refine ⟨_, rfl, ?_⟩; have n0_ := Aside0.mk (below_step (by repeat (first | (with_reducible first | exact HB.out | apply below_alloc | apply pw_below_drewN | apply below_drew1) | exact HB.out)) hb); clear HB; have HB := n0_; clear n0_; (try clear hb); (try clear hb2); (try clear hk); (try clear hi)) | (go_at_call 7; (with_reducible refine (dots_Remove.calls kj16 (x8_3 ++ (⟨#[47, 120]⟩ : ByteArray)) t117 _ A22.out).mono ?_); rintro e w37 ⟨rfl, hb⟩; have n0_ := Aside0.mk (below_step (by repeat (first | (with_reducible first | exact HB.out | apply below_alloc | apply pw_below_drewN | apply below_drew1) | exact HB.out)) hb); clear HB; have HB := n0_; clear n0_; (try clear hb); (try clear hb2); (try clear hk); (try clear hi)))
                                    go_ret
                                    exact ⟨by first | rfl | (simp [errW_none, errW_some] <;> rfl) | (simp [*, errW_none, errW_some] <;> rfl), by repeat (first | (with_reducible first | exact HB.out | apply below_alloc | apply pw_below_drewN | apply below_drew1) | exact HB.out)⟩
                                · rw [if_neg c21] at H
                                  exact absurd H (by simp)
                              · rw [if_neg c20] at H
                                have c20b0 : (t116.toList == x9_16.toList) = false := beq_eq_false_iff_ne.mpr c20
                                have c20b1 : (t116.toList != x9_16.toList) = true := bne_iff_ne.mpr c20
                                obtain rfl := Option.some.inj H
                                go_wp2_with (first | ((with_reducible refine gate_callee (f := 7) rfl ?_); refine goesL_ (some 56) rfl rfl Try.func7 (by kernel_rfl) rfl #[.string x8_3] rfl (by (try simp only [List.map_toArray, List.map_cons, List.map_nil]); first | done | rfl | (simp only [List.length_drop, List.length_take]; rfl)) ?_; (with_reducible refine (dots_Remove.calls kj16 x8_3 t116 _ A19.out).mono ?_); rintro e w38 ⟨rfl, hb⟩; refine ⟨_, rfl, ?_⟩; have n0_ := Aside0.mk (below_step (by repeat (first | (with_reducible first | exact HB.out | apply below_alloc | apply pw_below_drewN | apply below_drew1) | exact HB.out)) hb); clear HB; have HB := n0_; clear n0_; (try clear hb); (try clear hb2); (try clear hk); (try clear hi)))
                                go_ret
                                exact ⟨by first | rfl | (simp [errW_none, errW_some] <;> rfl) | (simp [*, errW_none, errW_some] <;> rfl), by repeat (first | (with_reducible first | exact HB.out | apply below_alloc | apply pw_below_drewN | apply below_drew1) | exact HB.out)⟩

/-- THE ONE PURE STATEMENT of monikerlaw23_DotsUp: yours. -/
def monikerlaw23_DotsUp.Pure : Prop := ∀ (l0 : List Int) (a1 : Int), l0.length ≤ maxLen → l0.length * 1 ≤ 140737488351232 → (∀ x ∈ l0, (Lit.int .u8 x).wf = true) → (Lit.int .u8 a1).wf = true → ∃ k, monikerlaw23_DotsUp.f k l0 a1 = some true
theorem monikerlaw23_DotsUp.walk (P : monikerlaw23_DotsUp.Pure) (a0 : Option Addr) (len0 cap0 : Nat) (z0 : List Int) (a1 : Int) (w : World) (w0 : (a0 = none ∧ len0 = 0 ∧ cap0 = 0 ∧ z0 = []) ∨ ∃ x, a0 = some x ∧ len0 ≤ cap0 ∧ cap0 ≤ maxLen ∧ z0.length = cap0 ∧ (∀ i, i < z0.length → w.cell? (x.add i) = some (.int .u8 (z0.getD i 0))) ∧ ∀ n ∈ z0, (Lit.int .u8 n).wf = true) (y0 : len0 * 1 ≤ 140737488351232) (w1 : (Lit.int .u8 a1).wf = true) :
    Calls Try.prog 4 #[.slice a0 len0 cap0, .int .u8 a1] w fun e w' => e = .returned (.bool true) ∧ Below w.heap.size w w' := by
  obtain ⟨l0, rfl, hr0, hm0, hw0, hc0⟩ := ReadsInt.ofRowC w0
  obtain ⟨k, h⟩ := P l0 a1 hm0 y0 hw0 w1
  refine (monikerlaw23_DotsUp.calls k _ _ l0 a1 true w (Kd.C_of_reads (d := (0 : Int)) (h1 := fun _ => rfl) hr0) hc0 h).mono ?_
  rintro e w' ⟨rfl, hd⟩
  exact ⟨rfl, hd⟩

end Go.Proofs.Yteebphjlecmgjaa.PUps
