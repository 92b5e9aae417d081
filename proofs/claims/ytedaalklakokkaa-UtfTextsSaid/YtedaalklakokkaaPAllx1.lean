-- SPLICED by sprint.py: out of the kit's printer, with some functions by this session's own texts. No printed file. Lean checks it.
import Derived.Test.YtedaalklakokkaaPAllx0
namespace Go.Proofs.Ytedaalklakokkaa.PAll
open Go.RowKit Go.Proofs.YtedaalklakokkaaW.PrintWords Go.Proofs.YtedaalklakokkaaW.PrintLast Go.Proofs.YtedaalklakokkaaW.PrintMore
attribute [local go_sem] max2_int min2_int max_two min_two max_three min_three max_four min_four   -- for this text's walks alone
set_option linter.unusedVariables false
set_option linter.unusedSimpArgs false

/-! ### utf_shape: function 31 -/
mutual
def utf_shape.j0 : Nat → Int → Bool → Option (Int × Int × Int)
  | 0, _, _ => none
  | k + 1, x0, x8 => if x8 = true then (some (2, 128, 191)) else (if x0 = 224 then (some (3, 160, 191)) else (if x0 = 237 then (some (3, 128, 159)) else (if x0 ≥ 225 then (utf_shape.j1 k x0 (decide (x0 ≤ 239))) else (utf_shape.j1 k x0 false))))
def utf_shape.j1 : Nat → Int → Bool → Option (Int × Int × Int)
  | 0, _, _ => none
  | k + 1, x0, x21 => if x21 = true then (some (3, 128, 191)) else (if x0 = 240 then (some (4, 144, 191)) else (if x0 = 244 then (some (4, 128, 143)) else (if x0 ≥ 241 then (if x0 ≤ 243 then (some (4, 128, 191)) else (some (0, 0, 0))) else (some (0, 0, 0)))))
end
def utf_shape.f (k : Nat) (a0 : Int) : Option (Int × Int × Int) := if a0 < 128 then (some (1, 0, 0)) else (if a0 ≥ 194 then (utf_shape.j0 k a0 (decide (a0 ≤ 223))) else (utf_shape.j0 k a0 false))
theorem utf_shape.mono_l : ∀ k, (∀ y0 y1, LeO (utf_shape.j0 k y0 y1) (utf_shape.j0 (k + 1) y0 y1)) ∧ (∀ y0 y1, LeO (utf_shape.j1 k y0 y1) (utf_shape.j1 (k + 1) y0 y1))
  | 0 => ⟨fun _ _ r h => by simp [utf_shape.j0] at h, fun _ _ r h => by simp [utf_shape.j1] at h⟩
  | k + 1 => by
    obtain ⟨ih0, ih1⟩ := utf_shape.mono_l k
    refine ⟨?_, ?_⟩
    · intro y0 y1
      unfold utf_shape.j0
      repeat' first
      | (with_reducible exact ih0 _ _)
      | (with_reducible exact ih1 _ _)
      | (with_reducible exact LeO.refl _)
      | (with_reducible exact LeO.none _)
      | (with_reducible refine LeO.ite ?_ ?_)
      | (with_reducible refine LeO.bind ?_ (fun _ => ?_))
      | exact ih0 _ _
      | exact ih1 _ _
      | exact LeO.none _
      | refine LeO.ite ?_ ?_
      | refine LeO.bind ?_ (fun _ => ?_)
    · intro y0 y1
      unfold utf_shape.j1
      repeat' first
      | (with_reducible exact ih0 _ _)
      | (with_reducible exact ih1 _ _)
      | (with_reducible exact LeO.refl _)
      | (with_reducible exact LeO.none _)
      | (with_reducible refine LeO.ite ?_ ?_)
      | (with_reducible refine LeO.bind ?_ (fun _ => ?_))
      | exact ih0 _ _
      | exact ih1 _ _
      | exact LeO.none _
      | refine LeO.ite ?_ ?_
      | refine LeO.bind ?_ (fun _ => ?_)
theorem utf_shape.mono : ∀ a0 k, LeO (utf_shape.f k a0) (utf_shape.f (k + 1) a0) := by
  intro a0 k
  obtain ⟨ih0, ih1⟩ := utf_shape.mono_l k
  unfold utf_shape.f
  repeat' first
      | (with_reducible exact ih0 _ _)
      | (with_reducible exact ih1 _ _)
      | (with_reducible exact LeO.refl _)
      | (with_reducible exact LeO.none _)
      | (with_reducible refine LeO.ite ?_ ?_)
      | (with_reducible refine LeO.bind ?_ (fun _ => ?_))
      | exact ih0 _ _
      | exact ih1 _ _
      | exact LeO.none _
      | refine LeO.ite ?_ ?_
      | refine LeO.bind ?_ (fun _ => ?_)
set_option maxHeartbeats 8000000 in
set_option maxRecDepth 100000 in
theorem utf_shape.calls (k : Nat) (a0 : Int) (r1 : Int) (r2 : Int) (r3 : Int) (w : World) (h : utf_shape.f k a0 = some (r1, r2, r3)) :
    Calls Try.prog 31 #[.int .u8 a0] w fun e w' => e = .returned (.tuple #[.int .i64 r1, .int .u8 r2, .int .u8 r3]) ∧ Drawn0 w w' := by
  have H : (if a0 < 128 then (some (1, 0, 0)) else (if a0 ≥ 194 then (utf_shape.j0 k a0 (decide (a0 ≤ 223))) else (utf_shape.j0 k a0 false))) = some (r1, r2, r3) := h
  clear h
  by_cases c2 : a0 < 128
  · rw [if_pos c2] at H
    have c2b0 : decide (a0 < 128) = true := decide_eq_true c2
    clear c2
    simp only [Option.some.injEq, Prod.mk.injEq] at H
    obtain ⟨rfl, rfl, rfl⟩ := H
    go_enter Try.func31, Try.ntmps31
    go_wp2
    go_ret3
    exact ⟨by first | rfl | (simp; done) | (simp [*]; done), by repeat (first | exact Drawn0.refl _ | apply Drawn0.step)⟩
  · rw [if_neg c2] at H
    have c2b0 : decide (a0 < 128) = false := decide_eq_false c2
    clear c2
    have HC3 := Aside0.mk H
    clear H
    go_enter Try.func31, Try.ntmps31
    go_upto_region 3 with (fail)
    go_cut [8] (fun v8 wc => ∃ (kq : Nat) (x8_2 : Bool), v8 = .bool x8_2 ∧ Aside0 (utf_shape.j0 kq a0 x8_2 = some (r1, r2, r3)) ∧ Aside0 (kq ≤ k) ∧ Drawn0 w wc)
    case first =>
      have H := HC3.out
      clear HC3
      by_cases c4 : a0 ≥ 194
      · rw [if_pos c4] at H
        have c4b0 : decide (194 ≤ a0) = true := decide_eq_true c4
        clear c4
        (first | rw [c4b0] | (simp only [i64_w, i32_w]; rw [c4b0]) | skip)
        have H' := Aside0.mk H
        clear H
        go_wp2
        go_meet
        case rel => exact ⟨_, (decide (a0 ≤ 223)), (by first | rfl | (simp; done) | (simp [*]; done)), H', ⟨by first | omega | exact Nat.le_refl _⟩, by repeat (first | exact Drawn0.refl _ | apply Drawn0.step)⟩
      · rw [if_neg c4] at H
        have c4b0 : decide (194 ≤ a0) = false := decide_eq_false c4
        clear c4
        (first | rw [c4b0] | (simp only [i64_w, i32_w]; rw [c4b0]) | skip)
        have H' := Aside0.mk H
        clear H
        go_wp2
        go_meet
        case rel => exact ⟨_, (false), (by first | rfl | (simp; done) | (simp [*]; done)), H', ⟨by first | omega | exact Nat.le_refl _⟩, by repeat (first | exact Drawn0.refl _ | apply Drawn0.step)⟩
    case rest =>
      clear HC3
      try clear c2
      try clear c2b0
      try clear p2
      try clear c3
      try clear c4
      try clear c4b0
      obtain ⟨kq, x8_2, rfl, HA, HJ2, ⟨mc2, rfl⟩⟩ := hcut
      cases kq with
      | zero => exact absurd HA.out (by simp [utf_shape.j0])
      | succ kj2 =>
        have H := HA.out
        clear HA
        simp only [utf_shape.j0] at H
        by_cases c5 : x8_2 = true
        · subst c5
          have H1 : (some (2, 128, 191)) = some (r1, r2, r3) := by rw [if_pos rfl] at H; exact H
          clear H
          have H := H1
          clear H1
          simp only [Option.some.injEq, Prod.mk.injEq] at H
          obtain ⟨rfl, rfl, rfl⟩ := H
          go_wp2
          go_ret3
          exact ⟨by first | rfl | (simp; done) | (simp [*]; done), by repeat (first | exact Drawn0.refl _ | apply Drawn0.step)⟩
        · replace c5 := Bool.eq_false_iff.mpr c5
          subst c5
          have H1 : (if a0 = 224 then (some (3, 160, 191)) else (if a0 = 237 then (some (3, 128, 159)) else (if a0 ≥ 225 then (utf_shape.j1 kj2 a0 (decide (a0 ≤ 239))) else (utf_shape.j1 kj2 a0 false)))) = some (r1, r2, r3) := by rw [if_neg (show ¬ (false = true) by decide)] at H; exact H
          clear H
          have H := H1
          clear H1
          by_cases c6 : a0 = 224
          · rw [if_pos c6] at H
            have c6b0 : (a0 == 224) = true := beq_iff_eq.mpr c6
            have c6b1 : (a0 != 224) = false := bne_eq_false_iff_eq.mpr c6
            clear c6
            simp only [Option.some.injEq, Prod.mk.injEq] at H
            obtain ⟨rfl, rfl, rfl⟩ := H
            go_wp2
            go_ret3
            exact ⟨by first | rfl | (simp; done) | (simp [*]; done), by repeat (first | exact Drawn0.refl _ | apply Drawn0.step)⟩
          · rw [if_neg c6] at H
            have c6b0 : (a0 == 224) = false := beq_eq_false_iff_ne.mpr c6
            have c6b1 : (a0 != 224) = true := bne_iff_ne.mpr c6
            by_cases c7 : a0 = 237
            · rw [if_pos c7] at H
              have c7b0 : (a0 == 237) = true := beq_iff_eq.mpr c7
              have c7b1 : (a0 != 237) = false := bne_eq_false_iff_eq.mpr c7
              clear c7
              simp only [Option.some.injEq, Prod.mk.injEq] at H
              obtain ⟨rfl, rfl, rfl⟩ := H
              go_wp2
              go_ret3
              exact ⟨by first | rfl | (simp; done) | (simp [*]; done), by repeat (first | exact Drawn0.refl _ | apply Drawn0.step)⟩
            · rw [if_neg c7] at H
              have c7b0 : (a0 == 237) = false := beq_eq_false_iff_ne.mpr c7
              have c7b1 : (a0 != 237) = true := bne_iff_ne.mpr c7
              have HC8 := Aside0.mk H
              clear H
              go_upto_region 9 with (fail)
              go_cut [21] (fun v21 wc => ∃ (kq : Nat) (x21_7 : Bool), v21 = .bool x21_7 ∧ Aside0 (utf_shape.j1 kq a0 x21_7 = some (r1, r2, r3)) ∧ Aside0 (kq ≤ kj2) ∧ Drawn0 w wc)
              case first =>
                have H := HC8.out
                clear HC8
                by_cases c9 : a0 ≥ 225
                · rw [if_pos c9] at H
                  have c9b0 : decide (225 ≤ a0) = true := decide_eq_true c9
                  clear c9
                  (first | rw [c9b0] | (simp only [i64_w, i32_w]; rw [c9b0]) | skip)
                  have H' := Aside0.mk H
                  clear H
                  go_wp2
                  go_meet
                  case rel => exact ⟨_, (decide (a0 ≤ 239)), (by first | rfl | (simp; done) | (simp [*]; done)), H', ⟨by have := HJ2.out; first | omega | exact Nat.le_refl _⟩, by repeat (first | exact Drawn0.refl _ | apply Drawn0.step)⟩
                · rw [if_neg c9] at H
                  have c9b0 : decide (225 ≤ a0) = false := decide_eq_false c9
                  clear c9
                  (first | rw [c9b0] | (simp only [i64_w, i32_w]; rw [c9b0]) | skip)
                  have H' := Aside0.mk H
                  clear H
                  go_wp2
                  go_meet
                  case rel => exact ⟨_, (false), (by first | rfl | (simp; done) | (simp [*]; done)), H', ⟨by have := HJ2.out; first | omega | exact Nat.le_refl _⟩, by repeat (first | exact Drawn0.refl _ | apply Drawn0.step)⟩
              case rest =>
                clear HC8
                try clear c2
                try clear c2b0
                try clear p2
                try clear c3
                try clear c4
                try clear c4b0
                try clear c5
                try clear c6
                try clear c6b0
                try clear c6b1
                try clear c7
                try clear c7b0
                try clear c7b1
                try clear c9
                try clear c9b0
                try clear p2
                obtain ⟨kq, x21_7, rfl, HA, HJ7, ⟨mc7, rfl⟩⟩ := hcut
                cases kq with
                | zero => exact absurd HA.out (by simp [utf_shape.j1])
                | succ kj7 =>
                  have H := HA.out
                  clear HA
                  simp only [utf_shape.j1] at H
                  by_cases c10 : x21_7 = true
                  · subst c10
                    have H1 : (some (3, 128, 191)) = some (r1, r2, r3) := by rw [if_pos rfl] at H; exact H
                    clear H
                    have H := H1
                    clear H1
                    simp only [Option.some.injEq, Prod.mk.injEq] at H
                    obtain ⟨rfl, rfl, rfl⟩ := H
                    go_wp2
                    go_ret3
                    exact ⟨by first | rfl | (simp; done) | (simp [*]; done), by repeat (first | exact Drawn0.refl _ | apply Drawn0.step)⟩
                  · replace c10 := Bool.eq_false_iff.mpr c10
                    subst c10
                    have H1 : (if a0 = 240 then (some (4, 144, 191)) else (if a0 = 244 then (some (4, 128, 143)) else (if a0 ≥ 241 then (if a0 ≤ 243 then (some (4, 128, 191)) else (some (0, 0, 0))) else (some (0, 0, 0))))) = some (r1, r2, r3) := by rw [if_neg (show ¬ (false = true) by decide)] at H; exact H
                    clear H
                    have H := H1
                    clear H1
                    by_cases c11 : a0 = 240
                    · rw [if_pos c11] at H
                      have c11b0 : (a0 == 240) = true := beq_iff_eq.mpr c11
                      have c11b1 : (a0 != 240) = false := bne_eq_false_iff_eq.mpr c11
                      clear c11
                      simp only [Option.some.injEq, Prod.mk.injEq] at H
                      obtain ⟨rfl, rfl, rfl⟩ := H
                      go_wp2
                      go_ret3
                      exact ⟨by first | rfl | (simp; done) | (simp [*]; done), by repeat (first | exact Drawn0.refl _ | apply Drawn0.step)⟩
                    · rw [if_neg c11] at H
                      have c11b0 : (a0 == 240) = false := beq_eq_false_iff_ne.mpr c11
                      have c11b1 : (a0 != 240) = true := bne_iff_ne.mpr c11
                      by_cases c12 : a0 = 244
                      · rw [if_pos c12] at H
                        have c12b0 : (a0 == 244) = true := beq_iff_eq.mpr c12
                        have c12b1 : (a0 != 244) = false := bne_eq_false_iff_eq.mpr c12
                        clear c12
                        simp only [Option.some.injEq, Prod.mk.injEq] at H
                        obtain ⟨rfl, rfl, rfl⟩ := H
                        go_wp2
                        go_ret3
                        exact ⟨by first | rfl | (simp; done) | (simp [*]; done), by repeat (first | exact Drawn0.refl _ | apply Drawn0.step)⟩
                      · rw [if_neg c12] at H
                        have c12b0 : (a0 == 244) = false := beq_eq_false_iff_ne.mpr c12
                        have c12b1 : (a0 != 244) = true := bne_iff_ne.mpr c12
                        by_cases c13 : a0 ≥ 241
                        · rw [if_pos c13] at H
                          have c13b0 : decide (241 ≤ a0) = true := decide_eq_true c13
                          clear c13
                          by_cases c14 : a0 ≤ 243
                          · rw [if_pos c14] at H
                            have c14b0 : decide (a0 ≤ 243) = true := decide_eq_true c14
                            clear c14
                            simp only [Option.some.injEq, Prod.mk.injEq] at H
                            obtain ⟨rfl, rfl, rfl⟩ := H
                            go_wp2
                            go_ret3
                            exact ⟨by first | rfl | (simp; done) | (simp [*]; done), by repeat (first | exact Drawn0.refl _ | apply Drawn0.step)⟩
                          · rw [if_neg c14] at H
                            have c14b0 : decide (a0 ≤ 243) = false := decide_eq_false c14
                            clear c14
                            simp only [Option.some.injEq, Prod.mk.injEq] at H
                            obtain ⟨rfl, rfl, rfl⟩ := H
                            go_wp2
                            go_ret3
                            exact ⟨by first | rfl | (simp; done) | (simp [*]; done), by repeat (first | exact Drawn0.refl _ | apply Drawn0.step)⟩
                        · rw [if_neg c13] at H
                          have c13b0 : decide (241 ≤ a0) = false := decide_eq_false c13
                          clear c13
                          simp only [Option.some.injEq, Prod.mk.injEq] at H
                          obtain ⟨rfl, rfl, rfl⟩ := H
                          go_wp2
                          go_ret3
                          exact ⟨by first | rfl | (simp; done) | (simp [*]; done), by repeat (first | exact Drawn0.refl _ | apply Drawn0.step)⟩

/-! ### utf_front: function 27 -/
def utf_front.l0 : Nat → ByteArray → Int → Int → Int → Int → Option (Int × Int)
  | 0, _, _, _, _, _ => none
  | k + 1, x0, x4, x5, x6, x7 => if x7 < x4 then (if x7 < (x0.size : Int) then (if 0 ≤ x7 then (if (bt x0 x7) ≥ x5 then (if (bt x0 x7) ≤ x6 then (utf_front.l0 k x0 x4 128 191 (wrap64 (x7 + 1))) else (some (x7, x4))) else (some (x7, x4))) else (none)) else (some (x7, x4))) else (some (x7, x4))
def utf_front.f (k : Nat) (a0 : ByteArray) : Option (Int × Int) := if (a0.size : Int) = 0 then (some (0, 0)) else (if 0 < (a0.size : Int) then ((utf_shape.f k (bt a0 0)).bind fun bt101 => (if bt101.1 = 0 then (some (1, 0)) else (utf_front.l0 k a0 bt101.1 bt101.2.1 bt101.2.2 1))) else (none))
theorem utf_front.mono_l : ∀ k, (∀ y0 y1 y2 y3 y4, LeO (utf_front.l0 k y0 y1 y2 y3 y4) (utf_front.l0 (k + 1) y0 y1 y2 y3 y4))
  | 0 => fun _ _ _ _ _ r h => by simp [utf_front.l0] at h
  | k + 1 => by
    have ih0 := utf_front.mono_l k
    · intro y0 y1 y2 y3 y4
      unfold utf_front.l0
      repeat' first
      | (with_reducible exact ih0 _ _ _ _ _)
      | (with_reducible exact utf_shape.mono _ _)
      | (with_reducible exact LeO.refl _)
      | (with_reducible exact LeO.none _)
      | (with_reducible refine LeO.ite ?_ ?_)
      | (with_reducible refine LeO.bind ?_ (fun _ => ?_))
      | exact ih0 _ _ _ _ _
      | exact utf_shape.mono _ _
      | exact LeO.none _
      | refine LeO.ite ?_ ?_
      | refine LeO.bind ?_ (fun _ => ?_)
theorem utf_front.mono : ∀ a0 k, LeO (utf_front.f k a0) (utf_front.f (k + 1) a0) := by
  intro a0 k
  have ih0 := utf_front.mono_l k
  unfold utf_front.f
  repeat' first
      | (with_reducible exact ih0 _ _ _ _ _)
      | (with_reducible exact utf_shape.mono _ _)
      | (with_reducible exact LeO.refl _)
      | (with_reducible exact LeO.none _)
      | (with_reducible refine LeO.ite ?_ ?_)
      | (with_reducible refine LeO.bind ?_ (fun _ => ?_))
      | exact ih0 _ _ _ _ _
      | exact utf_shape.mono _ _
      | exact LeO.none _
      | refine LeO.ite ?_ ?_
      | refine LeO.bind ?_ (fun _ => ?_)
set_option maxHeartbeats 8000000 in
set_option maxRecDepth 100000 in
theorem utf_front.calls (k : Nat) (a0 : ByteArray) (r1 : Int) (r2 : Int) (w : World) (h : utf_front.f k a0 = some (r1, r2)) :
    Calls Try.prog 27 #[.string a0] w fun e w' => e = .returned (.tuple #[.int .i64 r1, .int .i64 r2]) ∧ Drawn0 w w' := by
  have H : (if (a0.size : Int) = 0 then (some (0, 0)) else (if 0 < (a0.size : Int) then ((utf_shape.f k (bt a0 0)).bind fun bt101 => (if bt101.1 = 0 then (some (1, 0)) else (utf_front.l0 k a0 bt101.1 bt101.2.1 bt101.2.2 1))) else (none))) = some (r1, r2) := h
  clear h
  by_cases c2 : (a0.size : Int) = 0
  · rw [if_pos c2] at H
    have c2b0 : ((a0.size : Int) == 0) = true := beq_iff_eq.mpr c2
    have c2b1 : ((a0.size : Int) != 0) = false := bne_eq_false_iff_eq.mpr c2
    clear c2
    simp only [Option.some.injEq, Prod.mk.injEq] at H
    obtain ⟨rfl, rfl⟩ := H
    go_enter Try.func27, Try.ntmps27
    go_wp2
    go_ret2
    exact ⟨by first | rfl | (simp; done) | (simp [*]; done), by repeat (first | exact Drawn0.refl _ | apply Drawn0.step)⟩
  · rw [if_neg c2] at H
    have c2b0 : ((a0.size : Int) == 0) = false := beq_eq_false_iff_ne.mpr c2
    have c2b1 : ((a0.size : Int) != 0) = true := bne_iff_ne.mpr c2
    by_cases c3 : 0 < (a0.size : Int)
    · rw [if_pos c3] at H
      have c3b0 : decide (0 < (a0.size : Int)) = true := decide_eq_true c3
      have c3b1 : decide (0 < a0.size) = true := decide_eq_true (by omega)
      clear c3
      replace H := Option.bind_eq_some_iff.mp H
      obtain ⟨⟨t101, t102, t103⟩, A50, H⟩ := H
      replace H : (if t101 = 0 then (some (1, 0)) else (utf_front.l0 k a0 t101 t102 t103 1)) = some (r1, r2) := H
      have A5 := Aside0.mk A50
      clear A50
      by_cases c6 : t101 = 0
      · rw [if_pos c6] at H
        have c6b0 : (t101 == 0) = true := beq_iff_eq.mpr c6
        have c6b1 : (t101 != 0) = false := bne_eq_false_iff_eq.mpr c6
        clear c6
        simp only [Option.some.injEq, Prod.mk.injEq] at H
        obtain ⟨rfl, rfl⟩ := H
        have p4 : 0 ≤ (0 : Int) := (by omega)
        have q4 : 0 < a0.size := (by have : (0 : Int) < (a0.size : Int) := of_decide_eq_true (by first | (with_reducible assumption) | assumption); omega)
        have hx4 : ∀ h : 0 < a0.size, ((a0[0]'h).toNat : Int) = bt a0 0 := bt_at a0 0
        clear p4
        have qi4 : (0 < (a0.size : Int)) = True := eq_true (of_decide_eq_true (by first | (with_reducible assumption) | assumption))
        replace q4 := eq_true q4
        go_enter Try.func27, Try.ntmps27
        go_wp2_with (first | ((with_reducible refine gate_callee (f := 31) rfl ?_); refine goesL_ (some 14) rfl rfl Try.func31 (by kernel_rfl) rfl #[.int .u8 (bt a0 0)] rfl (by (try simp only [List.map_toArray, List.map_cons, List.map_nil]); first | done | rfl | (simp only [List.length_drop, List.length_take]; rfl)) ?_; (with_reducible refine (utf_shape.calls k (bt a0 0) t101 t102 t103 _ A5.out).mono ?_); rintro e w' ⟨rfl, ⟨nd, rfl⟩⟩; refine ⟨_, rfl, ?_⟩))
        go_ret2
        exact ⟨by first | rfl | (simp; done) | (simp [*]; done), by repeat (first | exact Drawn0.refl _ | apply Drawn0.step)⟩
      · rw [if_neg c6] at H
        have c6b0 : (t101 == 0) = false := beq_eq_false_iff_ne.mpr c6
        have c6b1 : (t101 != 0) = true := bne_iff_ne.mpr c6
        have H' := Aside0.mk H
        clear H
        have p4 : 0 ≤ (0 : Int) := (by omega)
        have q4 : 0 < a0.size := (by have : (0 : Int) < (a0.size : Int) := of_decide_eq_true (by first | (with_reducible assumption) | assumption); omega)
        have hx4 : ∀ h : 0 < a0.size, ((a0[0]'h).toNat : Int) = bt a0 0 := bt_at a0 0
        clear p4
        have qi4 : (0 < (a0.size : Int)) = True := eq_true (of_decide_eq_true (by first | (with_reducible assumption) | assumption))
        replace q4 := eq_true q4
        go_enter Try.func27, Try.ntmps27
        go_wp2_with (first | ((with_reducible refine gate_callee (f := 31) rfl ?_); refine goesL_ (some 14) rfl rfl Try.func31 (by kernel_rfl) rfl #[.int .u8 (bt a0 0)] rfl (by (try simp only [List.map_toArray, List.map_cons, List.map_nil]); first | done | rfl | (simp only [List.length_drop, List.length_take]; rfl)) ?_; (with_reducible refine (utf_shape.calls k (bt a0 0) t101 t102 t103 _ A5.out).mono ?_); rintro e w' ⟨rfl, ⟨nd, rfl⟩⟩; refine ⟨_, rfl, ?_⟩))
        go_loopg [5, 6, 7] k (fun kq v5 v6 v7 w' => ∃ (x5_1 : Int) (x6_1 : Int) (x7_1 : Int), v5 = .int .u8 x5_1 ∧ v6 = .int .u8 x6_1 ∧ v7 = .int .i64 x7_1 ∧ Aside0 (utf_front.l0 kq a0 t101 x5_1 x6_1 x7_1 = some (r1, r2)) ∧ Aside0 (kq ≤ k) ∧ Drawn0 w w')
        case atStart => exact ⟨(t102), (t103), (1), (by first | rfl | (simp; done) | (simp [*]; done)), (by first | rfl | (simp; done) | (simp [*]; done)), (by first | rfl | (simp; done) | (simp [*]; done)), H', ⟨Nat.le_refl _⟩, by repeat (first | exact Drawn0.refl _ | apply Drawn0.step)⟩
        case round =>
          clear H'
          try clear c2
          try clear c2b0
          try clear c2b1
          try clear p2
          try clear c3
          try clear c3b0
          try clear c3b1
          try clear p4
          try clear q4
          try clear hx4
          try clear qi4
          try clear c6
          try clear c6b0
          try clear c6b1
          try clear p4
          try clear q4
          obtain ⟨x5_1, x6_1, x7_1, rfl, rfl, rfl, HA, HK1, ⟨m1, rfl⟩⟩ := hrel
          cases gk with
          | zero => exact absurd HA.out (by simp [utf_front.l0])
          | succ k1 =>
            have H := HA.out
            clear HA
            simp only [utf_front.l0] at H
            by_cases c7 : x7_1 < t101
            · rw [if_pos c7] at H
              have c7b0 : decide (x7_1 < t101) = true := decide_eq_true c7
              clear c7
              by_cases c8 : x7_1 < (a0.size : Int)
              · rw [if_pos c8] at H
                have c8b0 : decide (x7_1 < (a0.size : Int)) = true := decide_eq_true c8
                clear c8
                by_cases c9 : 0 ≤ x7_1
                · rw [if_pos c9] at H
                  have c9b0 : decide (0 ≤ x7_1) = true := decide_eq_true c9
                  clear c9
                  by_cases c11 : (bt a0 x7_1) ≥ x5_1
                  · rw [if_pos c11] at H
                    have c11b0 : decide (x5_1 ≤ (bt a0 x7_1)) = true := decide_eq_true c11
                    clear c11
                    by_cases c13 : (bt a0 x7_1) ≤ x6_1
                    · rw [if_pos c13] at H
                      have c13b0 : decide ((bt a0 x7_1) ≤ x6_1) = true := decide_eq_true c13
                      clear c13
                      have H' := Aside0.mk H
                      clear H
                      have p10 : 0 ≤ (x7_1 : Int) := of_decide_eq_true (by first | (with_reducible assumption) | assumption)
                      have q10 : x7_1 < (a0.size : Int) := of_decide_eq_true (by first | (with_reducible assumption) | assumption)
                      have hx10 := bt_at a0 x7_1
                      replace p10 := eq_true p10
                      replace q10 := eq_true q10
                      have p12 : 0 ≤ (x7_1 : Int) := of_decide_eq_true (by first | (with_reducible assumption) | assumption)
                      have q12 : x7_1 < (a0.size : Int) := of_decide_eq_true (by first | (with_reducible assumption) | assumption)
                      have hx12 := bt_at a0 x7_1
                      replace p12 := eq_true p12
                      replace q12 := eq_true q12
                      go_wp2
                      go_roundg k1
                      case measure => have := HK1.out; omega
                      case rel => exact ⟨(128), (191), (wrap64 (x7_1 + 1)), (by first | rfl | (simp; done) | (simp [*]; done)), (by first | rfl | (simp; done) | (simp [*]; done)), (by first | rfl | (simp; done) | (simp [*]; done)), H', ⟨by have := HK1.out; omega⟩, by repeat (first | exact Drawn0.refl _ | apply Drawn0.step)⟩
                    · rw [if_neg c13] at H
                      have c13b0 : decide ((bt a0 x7_1) ≤ x6_1) = false := decide_eq_false c13
                      clear c13
                      simp only [Option.some.injEq, Prod.mk.injEq] at H
                      obtain ⟨rfl, rfl⟩ := H
                      have p10 : 0 ≤ (x7_1 : Int) := of_decide_eq_true (by first | (with_reducible assumption) | assumption)
                      have q10 : x7_1 < (a0.size : Int) := of_decide_eq_true (by first | (with_reducible assumption) | assumption)
                      have hx10 := bt_at a0 x7_1
                      replace p10 := eq_true p10
                      replace q10 := eq_true q10
                      have p12 : 0 ≤ (x7_1 : Int) := of_decide_eq_true (by first | (with_reducible assumption) | assumption)
                      have q12 : x7_1 < (a0.size : Int) := of_decide_eq_true (by first | (with_reducible assumption) | assumption)
                      have hx12 := bt_at a0 x7_1
                      replace p12 := eq_true p12
                      replace q12 := eq_true q12
                      go_wp2
                      go_ret2
                      exact ⟨by first | rfl | (simp; done) | (simp [*]; done), by repeat (first | exact Drawn0.refl _ | apply Drawn0.step)⟩
                  · rw [if_neg c11] at H
                    have c11b0 : decide (x5_1 ≤ (bt a0 x7_1)) = false := decide_eq_false c11
                    clear c11
                    simp only [Option.some.injEq, Prod.mk.injEq] at H
                    obtain ⟨rfl, rfl⟩ := H
                    have p10 : 0 ≤ (x7_1 : Int) := of_decide_eq_true (by first | (with_reducible assumption) | assumption)
                    have q10 : x7_1 < (a0.size : Int) := of_decide_eq_true (by first | (with_reducible assumption) | assumption)
                    have hx10 := bt_at a0 x7_1
                    replace p10 := eq_true p10
                    replace q10 := eq_true q10
                    go_wp2
                    go_ret2
                    exact ⟨by first | rfl | (simp; done) | (simp [*]; done), by repeat (first | exact Drawn0.refl _ | apply Drawn0.step)⟩
                · rw [if_neg c9] at H
                  exact absurd H (by simp)
              · rw [if_neg c8] at H
                have c8b0 : decide (x7_1 < (a0.size : Int)) = false := decide_eq_false c8
                clear c8
                simp only [Option.some.injEq, Prod.mk.injEq] at H
                obtain ⟨rfl, rfl⟩ := H
                go_wp2
                go_ret2
                exact ⟨by first | rfl | (simp; done) | (simp [*]; done), by repeat (first | exact Drawn0.refl _ | apply Drawn0.step)⟩
            · rw [if_neg c7] at H
              have c7b0 : decide (x7_1 < t101) = false := decide_eq_false c7
              clear c7
              simp only [Option.some.injEq, Prod.mk.injEq] at H
              obtain ⟨rfl, rfl⟩ := H
              go_wp2
              go_ret2
              exact ⟨by first | rfl | (simp; done) | (simp [*]; done), by repeat (first | exact Drawn0.refl _ | apply Drawn0.step)⟩
    · rw [if_neg c3] at H
      exact absurd H (by simp)

/-- Is there a value at place k, and in range? -/
def inr (l : List Int) (k : Nat) (lo hi : Int) : Bool := match l[k]? with
  | some c => decide (lo ≤ c ∧ c ≤ hi)
  | none => false
/-- Of a first byte: how many bytes, and the bounds of the second. -/
def shp (b : Int) : Int × Int × Int :=
  if b < 128 then (1, 0, 0) else if 194 ≤ b ∧ b ≤ 223 then (2, 128, 191) else if b = 224 then (3, 160, 191) else if b = 237 then (3, 128, 159) else if 225 ≤ b ∧ b ≤ 239 then (3, 128, 191)
  else if b = 240 then (4, 144, 191) else if b = 244 then (4, 128, 143) else if 241 ≤ b ∧ b ≤ 243 then (4, 128, 191) else (0, 0, 0)
/-- How many bytes fit one row, and how many that row has. -/
def frontI (l : List Int) : Int × Int :=
  if l = [] then (0, 0) else
    let s := shp (l.getD 0 0)
    if s.1 = 0 then (1, 0) else if s.1 = 1 then (1, 1) else
    if inr l 1 s.2.1 s.2.2 = true then (if s.1 = 2 then (2, 2) else if inr l 2 128 191 = true then (if s.1 = 3 then (3, 3) else if inr l 3 128 191 = true then (4, 4) else (3, 4)) else (2, s.1)) else (1, s.1)
def valI (l : List Int) (n : Int) : Int :=
  if n = 1 then l.getD 0 0 else if n = 2 then (l.getD 0 0 - 192) * 64 + (l.getD 1 0 - 128) else if n = 3 then (l.getD 0 0 - 224) * 4096 + (l.getD 1 0 - 128) * 64 + (l.getD 2 0 - 128)
  else (l.getD 0 0 - 240) * 262144 + (l.getD 1 0 - 128) * 4096 + (l.getD 2 0 - 128) * 64 + (l.getD 3 0 - 128)
/-- What begins a text: the code point, how many bytes, whether it is one. -/
def dec (l : List Int) : Int × Int × Bool := if (frontI l).2 = 0 ∨ (frontI l).1 < (frontI l).2 then (0, (frontI l).1, false) else (valI l (frontI l).2, (frontI l).2, true)

theorem shape_eq : ∀ n : Fin 256, utf_shape.f 6 ((n.val : Nat) : Int) = some (shp (n.val : Nat)) := by decide +kernel
theorem shape_ev (b : Int) (h : 0 ≤ b ∧ b ≤ 255) : Ev (fun k => utf_shape.f k b) (shp b) := by
  have := shape_eq ⟨b.toNat, by omega⟩
  simp only at this
  rw [show ((b.toNat : Nat) : Int) = b by omega] at this
  exact Ev.of (fun k => utf_shape.mono b k) this
theorem shp_bounds (b : Int) : 0 ≤ (shp b).1 ∧ (shp b).1 ≤ 4 := by
  unfold shp
  repeat' split
  all_goals simp
theorem inr_iff (s : ByteArray) (k : Nat) (lo hi : Int) : inr (bytesOf s) k lo hi = true ↔ k < s.size ∧ lo ≤ bt s k ∧ bt s k ≤ hi := by
  unfold inr
  have e : bt s k = (bytesOf s).getD k 0 := by rw [← rd_bytesOf]; rfl
  by_cases h : k < (bytesOf s).length
  · rw [List.getElem?_eq_getElem h]
    have h2 : k < s.size := by rw [← bytesOf_length]; exact h
    rw [e]
    simp [List.getD_eq_getElem?_getD, h, h2]
  · rw [List.getElem?_eq_none (by omega)]
    rw [bytesOf_length] at h
    simp [h]
theorem front_end (s : ByteArray) (n lo hi j : Int) (h : ¬ j < n) : Ev (fun k => utf_front.l0 k s n lo hi j) (j, n) :=
  Ev.step (f := fun _ => some (j, n)) (fun k => by simp only [utf_front.l0]; rw [if_neg h]) (Ev.now _)
theorem front_out (s : ByteArray) (n lo hi : Int) (j : Nat) (h : ¬ inr (bytesOf s) j lo hi = true) (hj : (j : Int) < n) : Ev (fun k => utf_front.l0 k s n lo hi (j : Int)) ((j : Int), n) := by
  rw [inr_iff] at h
  refine Ev.step (f := fun _ => some ((j : Int), n)) (fun k => ?_) (Ev.now _)
  simp only [utf_front.l0]; rw [if_pos hj]
  by_cases h1 : (j : Int) < (s.size : Int)
  · rw [if_pos h1, if_pos (by omega)]
    by_cases h2 : bt s j ≥ lo
    · rw [if_pos h2, if_neg (by omega)]
    · rw [if_neg h2]
  · rw [if_neg h1]
theorem front_in (s : ByteArray) (n lo hi : Int) (j : Nat) (r : Int × Int) (h : inr (bytesOf s) j lo hi = true) (hj : (j : Int) < n) (hn : n ≤ 4) (k : Ev (fun k => utf_front.l0 k s n 128 191 ((j + 1 : Nat) : Int)) r) : Ev (fun k => utf_front.l0 k s n lo hi (j : Int)) r := by
  rw [inr_iff] at h
  refine Ev.step (f := fun k => utf_front.l0 k s n 128 191 ((j + 1 : Nat) : Int)) (fun k => ?_) k
  simp only [utf_front.l0]; rw [if_pos hj, if_pos (by omega), if_pos (by omega), if_pos (by omega), if_pos (by omega), show wrap64 ((j : Int) + 1) = ((j + 1 : Nat) : Int) by unfold wrap64; omega]
theorem front_ev (s : ByteArray) : Ev (fun k => utf_front.f k s) (frontI (bytesOf s)) := by
  unfold utf_front.f frontI
  by_cases h0 : s.size = 0
  · have e : bytesOf s = [] := by rw [← List.length_eq_zero_iff, bytesOf_length]; exact h0
    rw [if_pos e]
    simp only [h0, Int.ofNat_zero, if_true]
    exact Ev.now _
  · have e : ¬ bytesOf s = [] := by rw [← List.length_eq_zero_iff, bytesOf_length]; exact h0
    have h1 : ¬ (s.size : Int) = 0 := by omega
    have h2 : 0 < (s.size : Int) := by omega
    rw [if_neg e]
    simp only [h1, h2, if_false, if_true]
    have eb : (bytesOf s).getD 0 0 = bt s 0 := by rw [← rd_bytesOf]; rfl
    rw [eb]
    have hb := shp_bounds (bt s 0)
    refine Ev.bind (f := fun k p => if p.1 = 0 then some (1, 0) else utf_front.l0 k s p.1 p.2.1 p.2.2 1) (shape_ev _ (bt_range s 0)) ?_
    generalize shp (bt s 0) = p at hb
    by_cases p0 : p.1 = 0
    · simp only [p0, if_true]; exact Ev.now _
    simp only [p0, if_false]
    by_cases p1 : p.1 = 1
    · simp only [p1, if_true]
      exact front_end s 1 _ _ 1 (by omega)
    simp only [p1, if_false]
    by_cases i1 : inr (bytesOf s) 1 p.2.1 p.2.2 = true
    · simp only [i1, if_true]
      refine front_in s p.1 _ _ 1 _ i1 (by omega) (by omega) ?_
      by_cases p2 : p.1 = 2
      · simp only [p2, if_true]; exact front_end s 2 _ _ 2 (by omega)
      simp only [p2, if_false]
      by_cases i2 : inr (bytesOf s) 2 128 191 = true
      · simp only [i2, if_true]
        refine front_in s p.1 _ _ 2 _ i2 (by omega) (by omega) ?_
        by_cases p3 : p.1 = 3
        · simp only [p3, if_true]; exact front_end s 3 _ _ 3 (by omega)
        simp only [p3, if_false]
        have p4 : p.1 = 4 := by omega
        by_cases i3 : inr (bytesOf s) 3 128 191 = true
        · simp only [i3, if_true, p4]
          exact front_in s 4 _ _ 3 _ i3 (by omega) (by omega) (front_end s 4 _ _ _ (by omega))
        · simp only [i3, if_false, p4, Bool.false_eq_true]
          exact front_out s 4 _ _ 3 i3 (by omega)
      · simp only [i2, if_false, Bool.false_eq_true]
        exact front_out s p.1 _ _ 2 i2 (by omega)
    · simp only [i1, if_false, Bool.false_eq_true]
      exact front_out s p.1 _ _ 1 i1 (by omega)
theorem bits_one {x : Int} (h0 : 0 ≤ x) (h1 : x < 128) : wrap32 (Go.bits .and .u8 x 127) = x := by
  have e : Go.bits .and .u8 x 127 = x % 128 := bits_mask .u8 8 (by decide) wraps_u8 7 (by decide) x h0 (by omega)
  rw [e]
  unfold wrap32; omega
theorem w32b {x : Int} (h1 : -2147483648 ≤ x) (h2 : x ≤ 2147483647) : wrap32 x = x := by unfold wrap32; omega
theorem bits_step {m y : Int} (h0 : 0 ≤ m) (h1 : m < 33554432) (hy : 128 ≤ y) (hy2 : y ≤ 191) : Go.bits .or .i32 (wrap32 (m * 64)) (wrap32 (Go.bits .and .u8 y 63)) = m * 64 + (y - 128) := by
  rw [u8_and63 _ (by omega) (by omega), w32b (x := m * 64) (by omega) (by omega), w32b (x := y % 64) (by omega) (by omega), i32_or6 _ _ (by omega) (by omega) (by omega) (by omega) (by omega)]
  omega
/-- The value as the code reckons it. -/
def first2 (x m : Int) : Int := wrap32 (Go.bits .and .u8 x m)
def next6 (m y : Int) : Int := Go.bits .or .i32 (wrap32 (m * 64)) (wrap32 (Go.bits .and .u8 y 63))
theorem next6_eq {m y : Int} (h0 : 0 ≤ m) (h1 : m < 33554432) (hy : 128 ≤ y) (hy2 : y ≤ 191) : next6 m y = m * 64 + (y - 128) := bits_step h0 h1 hy hy2
theorem first2_31 {x : Int} (h0 : 192 ≤ x) (h1 : x < 224) : first2 x 31 = x - 192 := by
  unfold first2; rw [u8_and31 _ (by omega) (by omega), w32b (by omega) (by omega)]; omega
theorem first2_15 {x : Int} (h0 : 224 ≤ x) (h1 : x < 240) : first2 x 15 = x - 224 := by
  unfold first2; rw [u8_and15 _ (by omega) (by omega), w32b (by omega) (by omega)]; omega
theorem first2_7 {x : Int} (h0 : 240 ≤ x) (h1 : x < 248) : first2 x 7 = x - 240 := by
  unfold first2; rw [u8_and7 _ (by omega) (by omega), w32b (by omega) (by omega)]; omega
theorem decode_no (s : ByteArray) (fit all : Int) (k : Nat) (w : World) (H : Aside0 (utf_front.f k s = some (fit, all))) (h : all = 0 ∨ (¬ all = 0 ∧ fit < all)) :
    Calls Try.prog 9 #[.string s] w fun e w' => e = .returned (.tuple #[.int .i32 0, .int .i64 fit, .bool false]) ∧ Below w.heap.size w w' := by
  rcases h with h | ⟨h, h2⟩
  · subst h
    go_enter Try.func9, Try.ntmps9
    go_wp2_with (first | (go_at_call 27; refine (utf_front.calls k s fit 0 _ H.out).mono ?_; rintro e w1 ⟨rfl, hd⟩; have HD := Aside0.mk hd.below; clear hd))
    go_ret3
    exact ⟨rfl, HD.out⟩
  · have hz : (all == 0) = false := by simpa using h
    clear h
    go_enter Try.func9, Try.ntmps9
    go_wp2_with (first | (go_at_call 27; refine (utf_front.calls k s fit all _ H.out).mono ?_; rintro e w1 ⟨rfl, hd⟩; have HD := Aside0.mk hd.below; clear hd))
    go_ret3
    exact ⟨rfl, HD.out⟩
set_option maxHeartbeats 1000000 in
theorem decode_1 (s : ByteArray) (k : Nat) (w : World) (H : Aside0 (utf_front.f k s = some (1, 1))) (q0 : 0 < s.size) (hs : s.size ≤ 140737488355328) :
    Calls Try.prog 9 #[.string s] w fun e w' => e = .returned (.tuple #[.int .i32 (first2 (s[0]'q0).toNat 127), .int .i64 1, .bool true]) ∧ Below w.heap.size w w' := by
  have p0 : (0 : Int) < s.size := by omega
  go_enter Try.func9, Try.ntmps9
  go_wp2_with (first | (go_at_call 27; refine (utf_front.calls k s 1 1 _ H.out).mono ?_; rintro e w1 ⟨rfl, hd⟩; have HD := Aside0.mk hd.below; clear hd))
  go_quiet (fail)
  go_wp2
  refine wp_loop_rounds 1 ?_
  rw [rounds_succ]
  go_wp2
  go_ret3
  exact ⟨rfl, by repeat (first | exact HD.out | apply below_alloc | apply pw_below_drewN)⟩
set_option maxHeartbeats 1000000 in
theorem decode_2 (s : ByteArray) (k : Nat) (w : World) (H : Aside0 (utf_front.f k s = some (2, 2))) (q0 : 0 < s.size) (q1 : 1 < s.size) (hs : s.size ≤ 140737488355328) :
    Calls Try.prog 9 #[.string s] w fun e w' => e = .returned (.tuple #[.int .i32 (next6 (first2 (s[0]'q0).toNat 31) (s[1]'q1).toNat), .int .i64 2, .bool true]) ∧ Below w.heap.size w w' := by
  have p0 : (0 : Int) < s.size := by omega
  have p1 : (1 : Int) < s.size := by omega
  go_enter Try.func9, Try.ntmps9
  go_wp2_with (first | (go_at_call 27; refine (utf_front.calls k s 2 2 _ H.out).mono ?_; rintro e w1 ⟨rfl, hd⟩; have HD := Aside0.mk hd.below; clear hd))
  go_quiet (fail)
  go_wp2
  refine wp_loop_rounds 2 ?_
  rw [rounds_succ]
  go_wp2
  rw [rounds_succ]
  go_wp2
  go_ret3
  exact ⟨rfl, by repeat (first | exact HD.out | apply below_alloc | apply pw_below_drewN)⟩
set_option maxHeartbeats 1000000 in
theorem decode_3 (s : ByteArray) (k : Nat) (w : World) (H : Aside0 (utf_front.f k s = some (3, 3))) (q0 : 0 < s.size) (q1 : 1 < s.size) (q2 : 2 < s.size) (hs : s.size ≤ 140737488355328) :
    Calls Try.prog 9 #[.string s] w fun e w' => e = .returned (.tuple #[.int .i32 (next6 (next6 (first2 (s[0]'q0).toNat 15) (s[1]'q1).toNat) (s[2]'q2).toNat), .int .i64 3, .bool true]) ∧ Below w.heap.size w w' := by
  have p0 : (0 : Int) < s.size := by omega
  have p1 : (1 : Int) < s.size := by omega
  have p2 : (2 : Int) < s.size := by omega
  go_enter Try.func9, Try.ntmps9
  go_wp2_with (first | (go_at_call 27; refine (utf_front.calls k s 3 3 _ H.out).mono ?_; rintro e w1 ⟨rfl, hd⟩; have HD := Aside0.mk hd.below; clear hd))
  go_quiet (fail)
  go_wp2
  refine wp_loop_rounds 3 ?_
  rw [rounds_succ]
  go_wp2
  rw [rounds_succ]
  go_wp2
  rw [rounds_succ]
  go_wp2
  go_ret3
  exact ⟨rfl, by repeat (first | exact HD.out | apply below_alloc | apply pw_below_drewN)⟩
set_option maxHeartbeats 1000000 in
theorem decode_4 (s : ByteArray) (k : Nat) (w : World) (H : Aside0 (utf_front.f k s = some (4, 4))) (q0 : 0 < s.size) (q1 : 1 < s.size) (q2 : 2 < s.size) (q3 : 3 < s.size) (hs : s.size ≤ 140737488355328) :
    Calls Try.prog 9 #[.string s] w fun e w' => e = .returned (.tuple #[.int .i32 (next6 (next6 (next6 (first2 (s[0]'q0).toNat 7) (s[1]'q1).toNat) (s[2]'q2).toNat) (s[3]'q3).toNat), .int .i64 4, .bool true]) ∧ Below w.heap.size w w' := by
  have p0 : (0 : Int) < s.size := by omega
  have p1 : (1 : Int) < s.size := by omega
  have p2 : (2 : Int) < s.size := by omega
  have p3 : (3 : Int) < s.size := by omega
  go_enter Try.func9, Try.ntmps9
  go_wp2_with (first | (go_at_call 27; refine (utf_front.calls k s 4 4 _ H.out).mono ?_; rintro e w1 ⟨rfl, hd⟩; have HD := Aside0.mk hd.below; clear hd))
  go_quiet (fail)
  go_wp2
  refine wp_loop_rounds 4 ?_
  rw [rounds_succ]
  go_wp2
  rw [rounds_succ]
  go_wp2
  rw [rounds_succ]
  go_wp2
  rw [rounds_succ]
  go_wp2
  go_ret3
  exact ⟨rfl, by repeat (first | exact HD.out | apply below_alloc | apply pw_below_drewN)⟩

theorem bt_lit (s : ByteArray) (i : Nat) (h : i < s.size) : ((s[i]'h).toNat : Int) = (bytesOf s).getD i 0 := by
  have e := bt_at s (i : Int) (by simpa using h)
  have e2 : bt s i = (bytesOf s).getD i 0 := by rw [← rd_bytesOf]; rfl
  rw [← e2, ← e]
  rfl
theorem front_shape (l : List Int) (hl : ∀ x ∈ l, 0 ≤ x ∧ x ≤ 255) : ((frontI l).2 = 0 ∨ (¬ (frontI l).2 = 0 ∧ (frontI l).1 < (frontI l).2)) ∨
    (frontI l = (1, 1) ∧ 0 < l.length ∧ l.getD 0 0 < 128) ∨ (frontI l = (2, 2) ∧ 1 < l.length ∧ (194 ≤ l.getD 0 0 ∧ l.getD 0 0 ≤ 223) ∧ 128 ≤ l.getD 1 0 ∧ l.getD 1 0 ≤ 191) ∨
    (frontI l = (3, 3) ∧ 2 < l.length ∧ (224 ≤ l.getD 0 0 ∧ l.getD 0 0 ≤ 239) ∧ ((128 ≤ l.getD 1 0 ∧ l.getD 1 0 ≤ 191) ∧ (l.getD 0 0 = 224 → 160 ≤ l.getD 1 0) ∧ (l.getD 0 0 = 237 → l.getD 1 0 ≤ 159)) ∧ 128 ≤ l.getD 2 0 ∧ l.getD 2 0 ≤ 191) ∨
    (frontI l = (4, 4) ∧ 3 < l.length ∧ (240 ≤ l.getD 0 0 ∧ l.getD 0 0 ≤ 244) ∧ ((128 ≤ l.getD 1 0 ∧ l.getD 1 0 ≤ 191) ∧ (l.getD 0 0 = 240 → 144 ≤ l.getD 1 0) ∧ (l.getD 0 0 = 244 → l.getD 1 0 ≤ 143)) ∧ (128 ≤ l.getD 2 0 ∧ l.getD 2 0 ≤ 191) ∧ 128 ≤ l.getD 3 0 ∧ l.getD 3 0 ≤ 191) := by
  have inr2 : ∀ k lo hi, inr l k lo hi = true → k < l.length ∧ lo ≤ l.getD k 0 ∧ l.getD k 0 ≤ hi := by
    intro k lo hi h
    unfold inr at h
    by_cases hk : k < l.length
    · rw [List.getElem?_eq_getElem hk] at h
      simp only [decide_eq_true_eq] at h
      refine ⟨hk, ?_⟩
      simpa [List.getD_eq_getElem?_getD, hk] using h
    · rw [List.getElem?_eq_none (by omega)] at h
      cases h
  have hs : (shp (l.getD 0 0)).1 = 0 ∨ ((shp (l.getD 0 0)).1 = 1 ∧ l.getD 0 0 < 128) ∨ ((shp (l.getD 0 0)).1 = 2 ∧ (194 ≤ l.getD 0 0 ∧ l.getD 0 0 ≤ 223) ∧ 128 ≤ (shp (l.getD 0 0)).2.1 ∧ (shp (l.getD 0 0)).2.2 ≤ 191) ∨
      ((shp (l.getD 0 0)).1 = 3 ∧ (224 ≤ l.getD 0 0 ∧ l.getD 0 0 ≤ 239) ∧ (128 ≤ (shp (l.getD 0 0)).2.1 ∧ (l.getD 0 0 = 224 → 160 ≤ (shp (l.getD 0 0)).2.1)) ∧ (shp (l.getD 0 0)).2.2 ≤ 191 ∧ (l.getD 0 0 = 237 → (shp (l.getD 0 0)).2.2 ≤ 159)) ∨
      ((shp (l.getD 0 0)).1 = 4 ∧ (240 ≤ l.getD 0 0 ∧ l.getD 0 0 ≤ 244) ∧ (128 ≤ (shp (l.getD 0 0)).2.1 ∧ (l.getD 0 0 = 240 → 144 ≤ (shp (l.getD 0 0)).2.1)) ∧ (shp (l.getD 0 0)).2.2 ≤ 191 ∧ (l.getD 0 0 = 244 → (shp (l.getD 0 0)).2.2 ≤ 143)) := by
    generalize l.getD 0 0 = b
    unfold shp
    repeat' split
    all_goals simp
    all_goals omega
  by_cases h0 : l = []
  · left; left; unfold frontI; rw [if_pos h0]
  have hp : 0 < l.length := List.length_pos_iff.2 h0
  unfold frontI
  rw [if_neg h0]
  generalize hsp : shp (l.getD 0 0) = p at hs
  rcases hs with hs | ⟨hs, hb⟩ | ⟨hs, hb, hlo, hhi⟩ | ⟨hs, hb, hlo, hhi⟩ | ⟨hs, hb, hlo, hhi⟩
  · left; left; simp [hs]
  · right; left; exact ⟨by simp [hs], hp, hb⟩
  · by_cases i1 : inr l 1 p.2.1 p.2.2 = true
    · have j1 := inr2 _ _ _ i1
      right; right; left
      exact ⟨by simp [hs, i1], by omega, hb, by omega, by omega⟩
    · left; right; simp [hs, i1]
  · by_cases i1 : inr l 1 p.2.1 p.2.2 = true
    · by_cases i2 : inr l 2 128 191 = true
      · have j1 := inr2 _ _ _ i1
        have j2 := inr2 _ _ _ i2
        right; right; right; left
        exact ⟨by simp [hs, i1, i2], by omega, hb, ⟨by omega, by omega, by omega⟩, by omega, by omega⟩
      · left; right; simp [hs, i1, i2]
    · left; right; simp [hs, i1]
  · by_cases i1 : inr l 1 p.2.1 p.2.2 = true
    · by_cases i2 : inr l 2 128 191 = true
      · by_cases i3 : inr l 3 128 191 = true
        · have j1 := inr2 _ _ _ i1
          have j2 := inr2 _ _ _ i2
          have j3 := inr2 _ _ _ i3
          right; right; right; right
          exact ⟨by simp [hs, i1, i2, i3], by omega, hb, ⟨by omega, by omega, by omega⟩, by omega, by omega, by omega⟩
        · left; right; simp [hs, i1, i2, i3]
      · left; right; simp [hs, i1, i2]
    · left; right; simp [hs, i1]
theorem bytes_rng (s : ByteArray) : ∀ x ∈ bytesOf s, 0 ≤ x ∧ x ≤ 255 := by
  intro x hx
  unfold bytesOf at hx
  obtain ⟨b, _, rfl⟩ := List.mem_map.1 hx
  have := b.toNat_lt
  omega
theorem decode_any (s : ByteArray) (w : World) (hs : s.size ≤ 140737488355328) :
    Calls Try.prog 9 #[.string s] w fun e w' => e = .returned (.tuple #[.int .i32 (dec (bytesOf s)).1, .int .i64 (dec (bytesOf s)).2.1, .bool (dec (bytesOf s)).2.2]) ∧ Below w.heap.size w w' := by
  obtain ⟨k, hk⟩ := (front_ev s).rounds
  rcases front_shape (bytesOf s) (bytes_rng s) with h | ⟨h, hl, h0⟩ | ⟨h, hl, h0, h1⟩ | ⟨h, hl, h0, h1, h2⟩ | ⟨h, hl, h0, h1, h2, h3⟩
  · have e : dec (bytesOf s) = (0, (frontI (bytesOf s)).1, false) := by unfold dec; rw [if_pos (by omega)]
    rw [e]
    exact decode_no s _ _ k w ⟨hk⟩ h
  · rw [bytesOf_length] at hl
    rw [h] at hk
    have e : dec (bytesOf s) = ((bytesOf s).getD 0 0, 1, true) := by unfold dec; rw [h]; simp [valI]
    have b0 := bytes_rng s ((bytesOf s).getD 0 0) (by rw [List.getD_eq_getElem?_getD, List.getElem?_eq_getElem (by rw [bytesOf_length]; omega)]; simp)
    rw [e]
    have := decode_1 s k w ⟨hk⟩ (by omega) hs
    unfold first2 at this
    rwa [bt_lit, bits_one (by omega) (by omega)] at this
  · rw [bytesOf_length] at hl
    rw [h] at hk
    have e : dec (bytesOf s) = (((bytesOf s).getD 0 0 - 192) * 64 + ((bytesOf s).getD 1 0 - 128), 2, true) := by unfold dec; rw [h]; simp [valI]
    rw [e]
    have := decode_2 s k w ⟨hk⟩ (by omega) (by omega) hs
    rwa [bt_lit, bt_lit, first2_31 (by omega) (by omega), next6_eq (by omega) (by omega) (by omega) (by omega)] at this
  · rw [bytesOf_length] at hl
    rw [h] at hk
    have e : dec (bytesOf s) = (((bytesOf s).getD 0 0 - 224) * 4096 + ((bytesOf s).getD 1 0 - 128) * 64 + ((bytesOf s).getD 2 0 - 128), 3, true) := by unfold dec; rw [h]; simp [valI]
    rw [e]
    have := decode_3 s k w ⟨hk⟩ (by omega) (by omega) (by omega) hs
    rw [bt_lit, bt_lit, bt_lit, first2_15 (by omega) (by omega), next6_eq (m := (bytesOf s).getD 0 0 - 224) (by omega) (by omega) (by omega) (by omega), next6_eq (by omega) (by omega) (by omega) (by omega)] at this
    rwa [show (((bytesOf s).getD 0 0 - 224) * 64 + ((bytesOf s).getD 1 0 - 128)) * 64 + ((bytesOf s).getD 2 0 - 128) = ((bytesOf s).getD 0 0 - 224) * 4096 + ((bytesOf s).getD 1 0 - 128) * 64 + ((bytesOf s).getD 2 0 - 128) by omega] at this
  · rw [bytesOf_length] at hl
    rw [h] at hk
    have e : dec (bytesOf s) = (((bytesOf s).getD 0 0 - 240) * 262144 + ((bytesOf s).getD 1 0 - 128) * 4096 + ((bytesOf s).getD 2 0 - 128) * 64 + ((bytesOf s).getD 3 0 - 128), 4, true) := by unfold dec; rw [h]; simp [valI]
    rw [e]
    have := decode_4 s k w ⟨hk⟩ (by omega) (by omega) (by omega) (by omega) hs
    rw [bt_lit, bt_lit, bt_lit, bt_lit, first2_7 (by omega) (by omega), next6_eq (m := (bytesOf s).getD 0 0 - 240) (by omega) (by omega) (by omega) (by omega), next6_eq (m := ((bytesOf s).getD 0 0 - 240) * 64 + ((bytesOf s).getD 1 0 - 128)) (by omega) (by omega) (by omega) (by omega), next6_eq (by omega) (by omega) (by omega) (by omega)] at this
    rwa [show ((((bytesOf s).getD 0 0 - 240) * 64 + ((bytesOf s).getD 1 0 - 128)) * 64 + ((bytesOf s).getD 2 0 - 128)) * 64 + ((bytesOf s).getD 3 0 - 128) = ((bytesOf s).getD 0 0 - 240) * 262144 + ((bytesOf s).getD 1 0 - 128) * 4096 + ((bytesOf s).getD 2 0 - 128) * 64 + ((bytesOf s).getD 3 0 - 128) by omega] at this

/-! ### utf_Decode: function 9 (own text) -/
def utf_Decode.f (a0 : ByteArray) : Option (Int × Int × Bool) := if a0.size ≤ 140737488355328 then some (dec (bytesOf a0)) else none
theorem utf_Decode.calls (a0 : ByteArray) (r1 r2 : Int) (r3 : Bool) (w : World) (h : utf_Decode.f a0 = some (r1, r2, r3)) :
    Calls Try.prog 9 #[.string a0] w fun e w' => e = .returned (.tuple #[.int .i32 r1, .int .i64 r2, .bool r3]) ∧ Below w.heap.size w w' := by
  unfold utf_Decode.f at h
  by_cases hs : a0.size ≤ 140737488355328
  · rw [if_pos hs] at h
    have e := Option.some.inj h
    have := decode_any a0 w hs
    rwa [e] at this
  · rw [if_neg hs] at h
    cases h

end Go.Proofs.Ytedaalklakokkaa.PAll
