-- SPLICED by sprint.py: out of the kit's printer, with some functions by this session's own texts. No printed file. Lean checks it.
import Derived.Test.YtcfoggglbcmhpaaPAllx0
import Derived.Test.YtcfoggglbcmhpaaPAllx3
import Derived.Test.YtcfoggglbcmhpaaPAllx4
import Derived.Test.YtcfoggglbcmhpaaPAllx6
import Derived.Test.YtcfoggglbcmhpaaPAllx7
namespace Go.Proofs.Ytcfoggglbcmhpaa.PAll
open Go.RowKit Go.Proofs.YtcfoggglbcmhpaaW.PrintWords Go.Proofs.YtcfoggglbcmhpaaW.PrintLast Go.Proofs.YtcfoggglbcmhpaaW.PrintMore
attribute [local go_sem] max2_int min2_int max_two min_two max_three min_three max_four min_four   -- for this text's walks alone
set_option linter.unusedVariables false
set_option linter.unusedSimpArgs false

/-! ### monikerref18_May: function 17 -/
mutual
def monikerref18_May.j0 : Nat → Int → Bool → Int → Bool → Option (Bool)
  | 0, _, _, _, _ => none
  | k + 1, x0, x1, x2, x12 => if x12 = true then ((monikerref18_Plain.f k x0 ((x2) % 256)).bind fun t157 => (some t157)) else (if x1 = true then (if x0 < 1 then (monikerref18_May.j1 k x0 x2 true) else (monikerref18_May.j1 k x0 x2 (decide (x0 > 7)))) else (monikerref18_May.j1 k x0 x2 true))
def monikerref18_May.j1 : Nat → Int → Int → Bool → Option (Bool)
  | 0, _, _, _ => none
  | k + 1, x0, x2, x26 => if x26 = true then (some false) else ((monikerref18_Common.f k x2).bind fun t158 => (if t158 = true then (some true) else (if x0 = 6 then ((monikerref18_Private.f x2).bind fun t159 => (some t159)) else (some false))))
end
def monikerref18_May.f (k : Nat) (a0 : Int) (a1 : Bool) (a2 : Int) : Option (Bool) := if a2 ≥ 0 then (monikerref18_May.j0 k a0 a1 a2 (decide (a2 < 128))) else (monikerref18_May.j0 k a0 a1 a2 false)
theorem monikerref18_May.mono_l : ∀ k, (∀ y0 y1 y2 y3, LeO (monikerref18_May.j0 k y0 y1 y2 y3) (monikerref18_May.j0 (k + 1) y0 y1 y2 y3)) ∧ (∀ y0 y1 y2, LeO (monikerref18_May.j1 k y0 y1 y2) (monikerref18_May.j1 (k + 1) y0 y1 y2))
  | 0 => ⟨fun _ _ _ _ r h => by simp [monikerref18_May.j0] at h, fun _ _ _ r h => by simp [monikerref18_May.j1] at h⟩
  | k + 1 => by
    obtain ⟨ih0, ih1⟩ := monikerref18_May.mono_l k
    refine ⟨?_, ?_⟩
    · intro y0 y1 y2 y3
      unfold monikerref18_May.j0
      repeat' first
      | (with_reducible exact ih0 _ _ _ _)
      | (with_reducible exact ih1 _ _ _)
      | (with_reducible exact monikerref18_Common.mono _ _)
      | (with_reducible exact monikerref18_Plain.mono _ _ _)
      | (with_reducible exact LeO.refl _)
      | (with_reducible exact LeO.none _)
      | (with_reducible refine LeO.ite ?_ ?_)
      | (with_reducible refine LeO.bind ?_ (fun _ => ?_))
      | exact ih0 _ _ _ _
      | exact ih1 _ _ _
      | exact monikerref18_Common.mono _ _
      | exact monikerref18_Plain.mono _ _ _
      | exact LeO.none _
      | refine LeO.ite ?_ ?_
      | refine LeO.bind ?_ (fun _ => ?_)
    · intro y0 y1 y2
      unfold monikerref18_May.j1
      repeat' first
      | (with_reducible exact ih0 _ _ _ _)
      | (with_reducible exact ih1 _ _ _)
      | (with_reducible exact monikerref18_Common.mono _ _)
      | (with_reducible exact monikerref18_Plain.mono _ _ _)
      | (with_reducible exact LeO.refl _)
      | (with_reducible exact LeO.none _)
      | (with_reducible refine LeO.ite ?_ ?_)
      | (with_reducible refine LeO.bind ?_ (fun _ => ?_))
      | exact ih0 _ _ _ _
      | exact ih1 _ _ _
      | exact monikerref18_Common.mono _ _
      | exact monikerref18_Plain.mono _ _ _
      | exact LeO.none _
      | refine LeO.ite ?_ ?_
      | refine LeO.bind ?_ (fun _ => ?_)
theorem monikerref18_May.mono : ∀ a0 a1 a2 k, LeO (monikerref18_May.f k a0 a1 a2) (monikerref18_May.f (k + 1) a0 a1 a2) := by
  intro a0 a1 a2 k
  obtain ⟨ih0, ih1⟩ := monikerref18_May.mono_l k
  unfold monikerref18_May.f
  repeat' first
      | (with_reducible exact ih0 _ _ _ _)
      | (with_reducible exact ih1 _ _ _)
      | (with_reducible exact monikerref18_Common.mono _ _)
      | (with_reducible exact monikerref18_Plain.mono _ _ _)
      | (with_reducible exact LeO.refl _)
      | (with_reducible exact LeO.none _)
      | (with_reducible refine LeO.ite ?_ ?_)
      | (with_reducible refine LeO.bind ?_ (fun _ => ?_))
      | exact ih0 _ _ _ _
      | exact ih1 _ _ _
      | exact monikerref18_Common.mono _ _
      | exact monikerref18_Plain.mono _ _ _
      | exact LeO.none _
      | refine LeO.ite ?_ ?_
      | refine LeO.bind ?_ (fun _ => ?_)
set_option maxHeartbeats 8000000 in
set_option maxRecDepth 100000 in
theorem monikerref18_May.calls (k : Nat) (a0 : Int) (a1 : Bool) (a2 : Int) (r : Bool) (w : World) (h : monikerref18_May.f k a0 a1 a2 = some r) :
    Calls Try.prog 17 #[.int .i64 a0, .bool a1, .int .i64 a2] w fun e w' => e = .returned (.bool r) ∧ Below w.heap.size w w' := by
  have HB := Aside0.mk (Below.refl w.heap.size w)
  have H : (if a2 ≥ 0 then (monikerref18_May.j0 k a0 a1 a2 (decide (a2 < 128))) else (monikerref18_May.j0 k a0 a1 a2 false)) = some r := h
  clear h
  have HC4 := Aside0.mk H
  clear H
  go_enter Try.func17, Try.ntmps17
  go_upto_region 1 with (fail)
  go_cut [12] (fun v12 wc => ∃ (kq : Nat) (x12_3 : Bool), v12 = .bool x12_3 ∧ Aside0 (monikerref18_May.j0 kq a0 a1 a2 x12_3 = some r) ∧ Aside0 (kq ≤ k) ∧ Aside0 (Below w.heap.size w wc))
  case first =>
    have H := HC4.out
    clear HC4
    by_cases c5 : a2 ≥ 0
    · rw [if_pos c5] at H
      have c5b0 : decide (0 ≤ a2) = true := decide_eq_true c5
      clear c5
      (first | rw [c5b0] | (simp only [i64_w, i32_w]; rw [c5b0]) | skip)
      have H' := Aside0.mk H
      clear H
      go_wp2
      go_meet
      case rel => exact ⟨_, (decide (a2 < 128)), (by first | rfl | (simp; done) | (simp [*]; done)), H', ⟨by first | omega | exact Nat.le_refl _⟩, ⟨by repeat (first | (with_reducible first | exact HB.out | apply below_alloc | apply pw_below_drewN | apply below_drew1) | exact HB.out)⟩⟩
    · rw [if_neg c5] at H
      have c5b0 : decide (0 ≤ a2) = false := decide_eq_false c5
      clear c5
      (first | rw [c5b0] | (simp only [i64_w, i32_w]; rw [c5b0]) | skip)
      have H' := Aside0.mk H
      clear H
      go_wp2
      go_meet
      case rel => exact ⟨_, (false), (by first | rfl | (simp; done) | (simp [*]; done)), H', ⟨by first | omega | exact Nat.le_refl _⟩, ⟨by repeat (first | (with_reducible first | exact HB.out | apply below_alloc | apply pw_below_drewN | apply below_drew1) | exact HB.out)⟩⟩
  case rest =>
    clear HC4
    try clear c1
    try clear p2
    try clear c5
    try clear c5b0
    obtain ⟨kq, x12_3, rfl, HA, HJ3, HB⟩ := hcut
    cases kq with
    | zero => exact absurd HA.out (by simp [monikerref18_May.j0])
    | succ kj3 =>
      have H := HA.out
      clear HA
      simp only [monikerref18_May.j0] at H
      by_cases c6 : x12_3 = true
      · subst c6
        have H1 : ((monikerref18_Plain.f kj3 a0 ((a2) % 256)).bind fun t157 => (some t157)) = some r := by rw [if_pos rfl] at H; exact H
        clear H
        have H := H1
        clear H1
        replace H := Option.bind_eq_some_iff.mp H
        obtain ⟨t157, A70, H⟩ := H
        replace H : (some t157) = some r := H
        have A7 := Aside0.mk A70
        clear A70
        obtain rfl := Option.some.inj H
        go_wp2_with (first | ((with_reducible refine gate_callee (f := 7) rfl ?_); refine goesL_ (some 16) rfl rfl Try.func7 (by kernel_rfl) rfl #[.int .i64 a0, .int .u8 ((a2) % 256)] rfl (by (try simp only [List.map_toArray, List.map_cons, List.map_nil]); first | done | rfl | (simp only [List.length_drop, List.length_take]; rfl)) ?_; (with_reducible refine (monikerref18_Plain.calls kj3 a0 ((a2) % 256) t157 _ A7.out).mono ?_); rintro e w8 ⟨rfl, hb⟩; refine ⟨_, rfl, ?_⟩; have n0_ := Aside0.mk (below_step (by repeat (first | (with_reducible first | exact HB.out | apply below_alloc | apply pw_below_drewN | apply below_drew1) | exact HB.out)) hb); clear HB; have HB := n0_; clear n0_; (try clear hb); (try clear hb2); (try clear hk); (try clear hi)))
        go_ret
        exact ⟨by first | rfl | (simp [errW_none, errW_some] <;> rfl) | (simp [*, errW_none, errW_some] <;> rfl), by repeat (first | (with_reducible first | exact HB.out | apply below_alloc | apply pw_below_drewN | apply below_drew1) | exact HB.out)⟩
      · replace c6 := Bool.eq_false_iff.mpr c6
        subst c6
        have H1 : (if a1 = true then (if a0 < 1 then (monikerref18_May.j1 kj3 a0 a2 true) else (monikerref18_May.j1 kj3 a0 a2 (decide (a0 > 7)))) else (monikerref18_May.j1 kj3 a0 a2 true)) = some r := by rw [if_neg (show ¬ (false = true) by decide)] at H; exact H
        clear H
        have H := H1
        clear H1
        have HC9 := Aside0.mk H
        clear H
        go_upto_region 3 with (fail)
        go_cut [26] (fun v26 wc => ∃ (kq : Nat) (x26_8 : Bool), v26 = .bool x26_8 ∧ Aside0 (monikerref18_May.j1 kq a0 a2 x26_8 = some r) ∧ Aside0 (kq ≤ kj3) ∧ Aside0 (Below w.heap.size w wc))
        case first =>
          have H := HC9.out
          clear HC9
          by_cases c10 : a1 = true
          · subst c10
            have H1 : (if a0 < 1 then (monikerref18_May.j1 kj3 a0 a2 true) else (monikerref18_May.j1 kj3 a0 a2 (decide (a0 > 7)))) = some r := by rw [if_pos rfl] at H; exact H
            clear H
            have H := H1
            clear H1
            by_cases c11 : a0 < 1
            · rw [if_pos c11] at H
              have c11b0 : decide (a0 < 1) = true := decide_eq_true c11
              clear c11
              (first | rw [c11b0] | (simp only [i64_w, i32_w]; rw [c11b0]) | skip)
              have H' := Aside0.mk H
              clear H
              go_wp2
              go_meet
              case rel => exact ⟨_, (true), (by first | rfl | (simp; done) | (simp [*]; done)), H', ⟨by have := HJ3.out; first | omega | exact Nat.le_refl _⟩, ⟨by repeat (first | (with_reducible first | exact HB.out | apply below_alloc | apply pw_below_drewN | apply below_drew1) | exact HB.out)⟩⟩
            · rw [if_neg c11] at H
              have c11b0 : decide (a0 < 1) = false := decide_eq_false c11
              clear c11
              (first | rw [c11b0] | (simp only [i64_w, i32_w]; rw [c11b0]) | skip)
              have H' := Aside0.mk H
              clear H
              go_wp2
              go_meet
              case rel => exact ⟨_, (decide (a0 > 7)), (by first | rfl | (simp; done) | (simp [*]; done)), H', ⟨by have := HJ3.out; first | omega | exact Nat.le_refl _⟩, ⟨by repeat (first | (with_reducible first | exact HB.out | apply below_alloc | apply pw_below_drewN | apply below_drew1) | exact HB.out)⟩⟩
          · replace c10 := Bool.eq_false_iff.mpr c10
            subst c10
            have H1 : (monikerref18_May.j1 kj3 a0 a2 true) = some r := by rw [if_neg (show ¬ (false = true) by decide)] at H; exact H
            clear H
            have H := H1
            clear H1
            have H' := Aside0.mk H
            clear H
            go_wp2
            go_meet
            case rel => exact ⟨_, (true), (by first | rfl | (simp; done) | (simp [*]; done)), H', ⟨by have := HJ3.out; first | omega | exact Nat.le_refl _⟩, ⟨by repeat (first | (with_reducible first | exact HB.out | apply below_alloc | apply pw_below_drewN | apply below_drew1) | exact HB.out)⟩⟩
        case rest =>
          clear HC9
          try clear c1
          try clear p2
          try clear c5
          try clear c5b0
          try clear c6
          try clear c7
          try clear c10
          try clear c11
          try clear c11b0
          try clear p2
          obtain ⟨kq, x26_8, rfl, HA, HJ8, HB⟩ := hcut
          cases kq with
          | zero => exact absurd HA.out (by simp [monikerref18_May.j1])
          | succ kj8 =>
            have H := HA.out
            clear HA
            simp only [monikerref18_May.j1] at H
            by_cases c12 : x26_8 = true
            · subst c12
              have H1 : (some false) = some r := by rw [if_pos rfl] at H; exact H
              clear H
              have H := H1
              clear H1
              obtain rfl := Option.some.inj H
              go_wp2
              go_ret
              exact ⟨by first | rfl | (simp [errW_none, errW_some] <;> rfl) | (simp [*, errW_none, errW_some] <;> rfl), by repeat (first | (with_reducible first | exact HB.out | apply below_alloc | apply pw_below_drewN | apply below_drew1) | exact HB.out)⟩
            · replace c12 := Bool.eq_false_iff.mpr c12
              subst c12
              have H1 : ((monikerref18_Common.f kj8 a2).bind fun t158 => (if t158 = true then (some true) else (if a0 = 6 then ((monikerref18_Private.f a2).bind fun t159 => (some t159)) else (some false)))) = some r := by rw [if_neg (show ¬ (false = true) by decide)] at H; exact H
              clear H
              have H := H1
              clear H1
              replace H := Option.bind_eq_some_iff.mp H
              obtain ⟨t158, A130, H⟩ := H
              replace H : (if t158 = true then (some true) else (if a0 = 6 then ((monikerref18_Private.f a2).bind fun t159 => (some t159)) else (some false))) = some r := H
              have A13 := Aside0.mk A130
              clear A130
              by_cases c14 : t158 = true
              · subst c14
                have H1 : (some true) = some r := by rw [if_pos rfl] at H; exact H
                clear H
                have H := H1
                clear H1
                obtain rfl := Option.some.inj H
                go_wp2_with (first | ((with_reducible refine gate_callee (f := 12) rfl ?_); refine goesL_ (some 28) rfl rfl Try.func12 (by kernel_rfl) rfl #[.int .i64 a2] rfl (by (try simp only [List.map_toArray, List.map_cons, List.map_nil]); first | done | rfl | (simp only [List.length_drop, List.length_take]; rfl)) ?_; (with_reducible refine (monikerref18_Common.calls kj8 a2 true _ A13.out).mono ?_); rintro e w' ⟨rfl, ⟨nd, rfl⟩⟩; refine ⟨_, rfl, ?_⟩))
                go_ret
                exact ⟨by first | rfl | (simp [errW_none, errW_some] <;> rfl) | (simp [*, errW_none, errW_some] <;> rfl), by repeat (first | (with_reducible first | exact HB.out | apply below_alloc | apply pw_below_drewN | apply below_drew1) | exact HB.out)⟩
              · replace c14 := Bool.eq_false_iff.mpr c14
                subst c14
                have H1 : (if a0 = 6 then ((monikerref18_Private.f a2).bind fun t159 => (some t159)) else (some false)) = some r := by rw [if_neg (show ¬ (false = true) by decide)] at H; exact H
                clear H
                have H := H1
                clear H1
                by_cases c15 : a0 = 6
                · rw [if_pos c15] at H
                  have c15b0 : (a0 == 6) = true := beq_iff_eq.mpr c15
                  have c15b1 : (a0 != 6) = false := bne_eq_false_iff_eq.mpr c15
                  clear c15
                  replace H := Option.bind_eq_some_iff.mp H
                  obtain ⟨t159, A160, H⟩ := H
                  replace H : (some t159) = some r := H
                  have A16 := Aside0.mk A160
                  clear A160
                  obtain rfl := Option.some.inj H
                  go_wp2_with (first | ((with_reducible refine gate_callee (f := 12) rfl ?_); refine goesL_ (some 28) rfl rfl Try.func12 (by kernel_rfl) rfl #[.int .i64 a2] rfl (by (try simp only [List.map_toArray, List.map_cons, List.map_nil]); first | done | rfl | (simp only [List.length_drop, List.length_take]; rfl)) ?_; (with_reducible refine (monikerref18_Common.calls kj8 a2 false _ A13.out).mono ?_); rintro e w' ⟨rfl, ⟨nd, rfl⟩⟩; refine ⟨_, rfl, ?_⟩) | (go_at_call 14; (with_reducible refine (monikerref18_Private.calls a2 t159 _ A16.out).mono ?_); rintro e w' ⟨rfl, ⟨nd, rfl⟩⟩))
                  go_ret
                  exact ⟨by first | rfl | (simp [errW_none, errW_some] <;> rfl) | (simp [*, errW_none, errW_some] <;> rfl), by repeat (first | (with_reducible first | exact HB.out | apply below_alloc | apply pw_below_drewN | apply below_drew1) | exact HB.out)⟩
                · rw [if_neg c15] at H
                  have c15b0 : (a0 == 6) = false := beq_eq_false_iff_ne.mpr c15
                  have c15b1 : (a0 != 6) = true := bne_iff_ne.mpr c15
                  obtain rfl := Option.some.inj H
                  go_wp2_with (first | ((with_reducible refine gate_callee (f := 12) rfl ?_); refine goesL_ (some 28) rfl rfl Try.func12 (by kernel_rfl) rfl #[.int .i64 a2] rfl (by (try simp only [List.map_toArray, List.map_cons, List.map_nil]); first | done | rfl | (simp only [List.length_drop, List.length_take]; rfl)) ?_; (with_reducible refine (monikerref18_Common.calls kj8 a2 false _ A13.out).mono ?_); rintro e w' ⟨rfl, ⟨nd, rfl⟩⟩; refine ⟨_, rfl, ?_⟩))
                  go_ret
                  exact ⟨by first | rfl | (simp [errW_none, errW_some] <;> rfl) | (simp [*, errW_none, errW_some] <;> rfl), by repeat (first | (with_reducible first | exact HB.out | apply below_alloc | apply pw_below_drewN | apply below_drew1) | exact HB.out)⟩

/-! ### monikerlaw18_LexisPoints: function 5 -/
def monikerlaw18_LexisPoints.j0 : Nat → Int → Int → Int → Bool → Option (Bool)
  | 0, _, _, _, _ => none
  | k + 1, x0, x1, x5, x6 => (lexis_Common.f k x0).bind fun t160 => ((monikerref18_Common.f k x5).bind fun t161 => (if (t160 == t161) = true then ((lexis_Private.f x0).bind fun t162 => ((monikerref18_Private.f x5).bind fun t163 => (if (t162 == t163) = true then ((lexis_Direction.f x0).bind fun t164 => (if (t164 == x6) = true then ((lexis_May.f k x1 true x0).bind fun t165 => ((monikerref18_May.f k x1 true x5).bind fun t166 => (if (t165 == t166) = true then ((lexis_May.f k x1 false x0).bind fun t167 => ((monikerref18_May.f k x1 false x5).bind fun t168 => (if (t167 == t168) = true then ((lexis_May.f k x1 false x0).bind fun t169 => (if t169 = true then ((lexis_May.f k x1 true x0).bind fun t170 => (if t170 = true then ((monikerlaw18_awake.f k).bind fun t171 => (some t171)) else (some false))) else ((monikerlaw18_awake.f k).bind fun t172 => (some t172)))) else (some false)))) else (some false)))) else (some false))) else (some false)))) else (some false)))
def monikerlaw18_LexisPoints.f (k : Nat) (a0 : Int) (a1 : Int) : Option (Bool) := if (wrap64 (a0)) = 8206 then (monikerlaw18_LexisPoints.j0 k a0 a1 (wrap64 (a0)) true) else (if (wrap64 (a0)) = 8207 then (monikerlaw18_LexisPoints.j0 k a0 a1 (wrap64 (a0)) true) else (if (wrap64 (a0)) ≥ 8234 then (monikerlaw18_LexisPoints.j0 k a0 a1 (wrap64 (a0)) (decide ((wrap64 (a0)) ≤ 8238))) else (monikerlaw18_LexisPoints.j0 k a0 a1 (wrap64 (a0)) false)))
theorem monikerlaw18_LexisPoints.mono_l : ∀ k, (∀ y0 y1 y2 y3, LeO (monikerlaw18_LexisPoints.j0 k y0 y1 y2 y3) (monikerlaw18_LexisPoints.j0 (k + 1) y0 y1 y2 y3))
  | 0 => fun _ _ _ _ r h => by simp [monikerlaw18_LexisPoints.j0] at h
  | k + 1 => by
    have ih0 := monikerlaw18_LexisPoints.mono_l k
    · intro y0 y1 y2 y3
      unfold monikerlaw18_LexisPoints.j0
      repeat' first
      | (with_reducible exact ih0 _ _ _ _)
      | (with_reducible exact lexis_Common.mono _ _)
      | (with_reducible exact lexis_May.mono _ _ _ _)
      | (with_reducible exact monikerlaw18_awake.mono _)
      | (with_reducible exact monikerref18_Common.mono _ _)
      | (with_reducible exact monikerref18_May.mono _ _ _ _)
      | (with_reducible exact LeO.refl _)
      | (with_reducible exact LeO.none _)
      | (with_reducible refine LeO.ite ?_ ?_)
      | (with_reducible refine LeO.bind ?_ (fun _ => ?_))
      | exact ih0 _ _ _ _
      | exact lexis_Common.mono _ _
      | exact lexis_May.mono _ _ _ _
      | exact monikerlaw18_awake.mono _
      | exact monikerref18_Common.mono _ _
      | exact monikerref18_May.mono _ _ _ _
      | exact LeO.none _
      | refine LeO.ite ?_ ?_
      | refine LeO.bind ?_ (fun _ => ?_)
theorem monikerlaw18_LexisPoints.mono : ∀ a0 a1 k, LeO (monikerlaw18_LexisPoints.f k a0 a1) (monikerlaw18_LexisPoints.f (k + 1) a0 a1) := by
  intro a0 a1 k
  have ih0 := monikerlaw18_LexisPoints.mono_l k
  unfold monikerlaw18_LexisPoints.f
  repeat' first
      | (with_reducible exact ih0 _ _ _ _)
      | (with_reducible exact lexis_Common.mono _ _)
      | (with_reducible exact lexis_May.mono _ _ _ _)
      | (with_reducible exact monikerlaw18_awake.mono _)
      | (with_reducible exact monikerref18_Common.mono _ _)
      | (with_reducible exact monikerref18_May.mono _ _ _ _)
      | (with_reducible exact LeO.refl _)
      | (with_reducible exact LeO.none _)
      | (with_reducible refine LeO.ite ?_ ?_)
      | (with_reducible refine LeO.bind ?_ (fun _ => ?_))
      | exact ih0 _ _ _ _
      | exact lexis_Common.mono _ _
      | exact lexis_May.mono _ _ _ _
      | exact monikerlaw18_awake.mono _
      | exact monikerref18_Common.mono _ _
      | exact monikerref18_May.mono _ _ _ _
      | exact LeO.none _
      | refine LeO.ite ?_ ?_
      | refine LeO.bind ?_ (fun _ => ?_)
set_option maxHeartbeats 8000000 in
set_option maxRecDepth 100000 in
theorem monikerlaw18_LexisPoints.calls (k : Nat) (a0 : Int) (a1 : Int) (r : Bool) (w : World) (h : monikerlaw18_LexisPoints.f k a0 a1 = some r) :
    Calls Try.prog 5 #[.int .i32 a0, .int .i64 a1] w fun e w' => e = .returned (.bool r) ∧ Below w.heap.size w w' := by
  have HB := Aside0.mk (Below.refl w.heap.size w)
  have H : (if (wrap64 (a0)) = 8206 then (monikerlaw18_LexisPoints.j0 k a0 a1 (wrap64 (a0)) true) else (if (wrap64 (a0)) = 8207 then (monikerlaw18_LexisPoints.j0 k a0 a1 (wrap64 (a0)) true) else (if (wrap64 (a0)) ≥ 8234 then (monikerlaw18_LexisPoints.j0 k a0 a1 (wrap64 (a0)) (decide ((wrap64 (a0)) ≤ 8238))) else (monikerlaw18_LexisPoints.j0 k a0 a1 (wrap64 (a0)) false)))) = some r := h
  clear h
  have HC3 := Aside0.mk H
  clear H
  go_enter Try.func5, Try.ntmps5
  go_upto_region 2 with (fail)
  go_cut [6] (fun v6 wc => ∃ (kq : Nat) (x6_2 : Bool), v6 = .bool x6_2 ∧ Aside0 (monikerlaw18_LexisPoints.j0 kq a0 a1 (wrap64 (a0)) x6_2 = some r) ∧ Aside0 (kq ≤ k) ∧ Aside0 (Below w.heap.size w wc))
  case first =>
    have H := HC3.out
    clear HC3
    by_cases c4 : (wrap64 (a0)) = 8206
    · rw [if_pos c4] at H
      have c4b0 : ((wrap64 (a0)) == 8206) = true := beq_iff_eq.mpr c4
      have c4b1 : ((wrap64 (a0)) != 8206) = false := bne_eq_false_iff_eq.mpr c4
      clear c4
      (first | rw [c4b0] | (simp only [i64_w, i32_w]; rw [c4b0]) | skip)
      have H' := Aside0.mk H
      clear H
      go_wp2
      go_meet
      case rel => exact ⟨_, (true), (by first | rfl | (simp; done) | (simp [*]; done)), H', ⟨by first | omega | exact Nat.le_refl _⟩, ⟨by repeat (first | (with_reducible first | exact HB.out | apply below_alloc | apply pw_below_drewN | apply below_drew1) | exact HB.out)⟩⟩
    · rw [if_neg c4] at H
      have c4b0 : ((wrap64 (a0)) == 8206) = false := beq_eq_false_iff_ne.mpr c4
      have c4b1 : ((wrap64 (a0)) != 8206) = true := bne_iff_ne.mpr c4
      (first | rw [c4b0] | (simp only [i64_w, i32_w]; rw [c4b0]) | skip)
      by_cases c5 : (wrap64 (a0)) = 8207
      · rw [if_pos c5] at H
        have c5b0 : ((wrap64 (a0)) == 8207) = true := beq_iff_eq.mpr c5
        have c5b1 : ((wrap64 (a0)) != 8207) = false := bne_eq_false_iff_eq.mpr c5
        clear c5
        have H' := Aside0.mk H
        clear H
        go_wp2
        go_meet
        case rel => exact ⟨_, (true), (by first | rfl | (simp; done) | (simp [*]; done)), H', ⟨by first | omega | exact Nat.le_refl _⟩, ⟨by repeat (first | (with_reducible first | exact HB.out | apply below_alloc | apply pw_below_drewN | apply below_drew1) | exact HB.out)⟩⟩
      · rw [if_neg c5] at H
        have c5b0 : ((wrap64 (a0)) == 8207) = false := beq_eq_false_iff_ne.mpr c5
        have c5b1 : ((wrap64 (a0)) != 8207) = true := bne_iff_ne.mpr c5
        by_cases c6 : (wrap64 (a0)) ≥ 8234
        · rw [if_pos c6] at H
          have c6b0 : decide (8234 ≤ (wrap64 (a0))) = true := decide_eq_true c6
          clear c6
          have H' := Aside0.mk H
          clear H
          go_wp2
          go_meet
          case rel => exact ⟨_, (decide ((wrap64 (a0)) ≤ 8238)), (by first | rfl | (simp; done) | (simp [*]; done)), H', ⟨by first | omega | exact Nat.le_refl _⟩, ⟨by repeat (first | (with_reducible first | exact HB.out | apply below_alloc | apply pw_below_drewN | apply below_drew1) | exact HB.out)⟩⟩
        · rw [if_neg c6] at H
          have c6b0 : decide (8234 ≤ (wrap64 (a0))) = false := decide_eq_false c6
          clear c6
          have H' := Aside0.mk H
          clear H
          go_wp2
          go_meet
          case rel => exact ⟨_, (false), (by first | rfl | (simp; done) | (simp [*]; done)), H', ⟨by first | omega | exact Nat.le_refl _⟩, ⟨by repeat (first | (with_reducible first | exact HB.out | apply below_alloc | apply pw_below_drewN | apply below_drew1) | exact HB.out)⟩⟩
  case rest =>
    clear HC3
    try clear p2
    try clear c4
    try clear c4b0
    try clear c4b1
    try clear c5
    try clear c5b0
    try clear c5b1
    try clear c6
    try clear c6b0
    try clear p6
    obtain ⟨kq, x6_2, rfl, HA, HJ2, HB⟩ := hcut
    cases kq with
    | zero => exact absurd HA.out (by simp [monikerlaw18_LexisPoints.j0])
    | succ kj2 =>
      have H := HA.out
      clear HA
      simp only [monikerlaw18_LexisPoints.j0] at H
      replace H := Option.bind_eq_some_iff.mp H
      obtain ⟨t160, A70, H⟩ := H
      replace H : ((monikerref18_Common.f kj2 (wrap64 (a0))).bind fun t161 => (if (t160 == t161) = true then ((lexis_Private.f a0).bind fun t162 => ((monikerref18_Private.f (wrap64 (a0))).bind fun t163 => (if (t162 == t163) = true then ((lexis_Direction.f a0).bind fun t164 => (if (t164 == x6_2) = true then ((lexis_May.f kj2 a1 true a0).bind fun t165 => ((monikerref18_May.f kj2 a1 true (wrap64 (a0))).bind fun t166 => (if (t165 == t166) = true then ((lexis_May.f kj2 a1 false a0).bind fun t167 => ((monikerref18_May.f kj2 a1 false (wrap64 (a0))).bind fun t168 => (if (t167 == t168) = true then ((lexis_May.f kj2 a1 false a0).bind fun t169 => (if t169 = true then ((lexis_May.f kj2 a1 true a0).bind fun t170 => (if t170 = true then ((monikerlaw18_awake.f kj2).bind fun t171 => (some t171)) else (some false))) else ((monikerlaw18_awake.f kj2).bind fun t172 => (some t172)))) else (some false)))) else (some false)))) else (some false))) else (some false)))) else (some false))) = some r := H
      have A7 := Aside0.mk A70
      clear A70
      replace H := Option.bind_eq_some_iff.mp H
      obtain ⟨t161, A80, H⟩ := H
      replace H : (if (t160 == t161) = true then ((lexis_Private.f a0).bind fun t162 => ((monikerref18_Private.f (wrap64 (a0))).bind fun t163 => (if (t162 == t163) = true then ((lexis_Direction.f a0).bind fun t164 => (if (t164 == x6_2) = true then ((lexis_May.f kj2 a1 true a0).bind fun t165 => ((monikerref18_May.f kj2 a1 true (wrap64 (a0))).bind fun t166 => (if (t165 == t166) = true then ((lexis_May.f kj2 a1 false a0).bind fun t167 => ((monikerref18_May.f kj2 a1 false (wrap64 (a0))).bind fun t168 => (if (t167 == t168) = true then ((lexis_May.f kj2 a1 false a0).bind fun t169 => (if t169 = true then ((lexis_May.f kj2 a1 true a0).bind fun t170 => (if t170 = true then ((monikerlaw18_awake.f kj2).bind fun t171 => (some t171)) else (some false))) else ((monikerlaw18_awake.f kj2).bind fun t172 => (some t172)))) else (some false)))) else (some false)))) else (some false))) else (some false)))) else (some false)) = some r := H
      have A8 := Aside0.mk A80
      clear A80
      by_cases c9 : (t160 == t161) = true
      · rw [if_pos c9] at H
        have c9b0 : (t160 == t161) = true := c9
        (try (have c9b1 : decide (t160 = t161) = true := by simpa using c9))
        (try (have c9b2 : (t160 == t161) = true := by simpa using c9))
        clear c9
        replace H := Option.bind_eq_some_iff.mp H
        obtain ⟨t162, A100, H⟩ := H
        replace H : ((monikerref18_Private.f (wrap64 (a0))).bind fun t163 => (if (t162 == t163) = true then ((lexis_Direction.f a0).bind fun t164 => (if (t164 == x6_2) = true then ((lexis_May.f kj2 a1 true a0).bind fun t165 => ((monikerref18_May.f kj2 a1 true (wrap64 (a0))).bind fun t166 => (if (t165 == t166) = true then ((lexis_May.f kj2 a1 false a0).bind fun t167 => ((monikerref18_May.f kj2 a1 false (wrap64 (a0))).bind fun t168 => (if (t167 == t168) = true then ((lexis_May.f kj2 a1 false a0).bind fun t169 => (if t169 = true then ((lexis_May.f kj2 a1 true a0).bind fun t170 => (if t170 = true then ((monikerlaw18_awake.f kj2).bind fun t171 => (some t171)) else (some false))) else ((monikerlaw18_awake.f kj2).bind fun t172 => (some t172)))) else (some false)))) else (some false)))) else (some false))) else (some false))) = some r := H
        have A10 := Aside0.mk A100
        clear A100
        replace H := Option.bind_eq_some_iff.mp H
        obtain ⟨t163, A110, H⟩ := H
        replace H : (if (t162 == t163) = true then ((lexis_Direction.f a0).bind fun t164 => (if (t164 == x6_2) = true then ((lexis_May.f kj2 a1 true a0).bind fun t165 => ((monikerref18_May.f kj2 a1 true (wrap64 (a0))).bind fun t166 => (if (t165 == t166) = true then ((lexis_May.f kj2 a1 false a0).bind fun t167 => ((monikerref18_May.f kj2 a1 false (wrap64 (a0))).bind fun t168 => (if (t167 == t168) = true then ((lexis_May.f kj2 a1 false a0).bind fun t169 => (if t169 = true then ((lexis_May.f kj2 a1 true a0).bind fun t170 => (if t170 = true then ((monikerlaw18_awake.f kj2).bind fun t171 => (some t171)) else (some false))) else ((monikerlaw18_awake.f kj2).bind fun t172 => (some t172)))) else (some false)))) else (some false)))) else (some false))) else (some false)) = some r := H
        have A11 := Aside0.mk A110
        clear A110
        by_cases c12 : (t162 == t163) = true
        · rw [if_pos c12] at H
          have c12b0 : (t162 == t163) = true := c12
          (try (have c12b1 : decide (t162 = t163) = true := by simpa using c12))
          (try (have c12b2 : (t162 == t163) = true := by simpa using c12))
          clear c12
          replace H := Option.bind_eq_some_iff.mp H
          obtain ⟨t164, A130, H⟩ := H
          replace H : (if (t164 == x6_2) = true then ((lexis_May.f kj2 a1 true a0).bind fun t165 => ((monikerref18_May.f kj2 a1 true (wrap64 (a0))).bind fun t166 => (if (t165 == t166) = true then ((lexis_May.f kj2 a1 false a0).bind fun t167 => ((monikerref18_May.f kj2 a1 false (wrap64 (a0))).bind fun t168 => (if (t167 == t168) = true then ((lexis_May.f kj2 a1 false a0).bind fun t169 => (if t169 = true then ((lexis_May.f kj2 a1 true a0).bind fun t170 => (if t170 = true then ((monikerlaw18_awake.f kj2).bind fun t171 => (some t171)) else (some false))) else ((monikerlaw18_awake.f kj2).bind fun t172 => (some t172)))) else (some false)))) else (some false)))) else (some false)) = some r := H
          have A13 := Aside0.mk A130
          clear A130
          by_cases c14 : (t164 == x6_2) = true
          · rw [if_pos c14] at H
            have c14b0 : (t164 == x6_2) = true := c14
            (try (have c14b1 : decide (t164 = x6_2) = true := by simpa using c14))
            (try (have c14b2 : (t164 == x6_2) = true := by simpa using c14))
            clear c14
            replace H := Option.bind_eq_some_iff.mp H
            obtain ⟨t165, A150, H⟩ := H
            replace H : ((monikerref18_May.f kj2 a1 true (wrap64 (a0))).bind fun t166 => (if (t165 == t166) = true then ((lexis_May.f kj2 a1 false a0).bind fun t167 => ((monikerref18_May.f kj2 a1 false (wrap64 (a0))).bind fun t168 => (if (t167 == t168) = true then ((lexis_May.f kj2 a1 false a0).bind fun t169 => (if t169 = true then ((lexis_May.f kj2 a1 true a0).bind fun t170 => (if t170 = true then ((monikerlaw18_awake.f kj2).bind fun t171 => (some t171)) else (some false))) else ((monikerlaw18_awake.f kj2).bind fun t172 => (some t172)))) else (some false)))) else (some false))) = some r := H
            have A15 := Aside0.mk A150
            clear A150
            replace H := Option.bind_eq_some_iff.mp H
            obtain ⟨t166, A160, H⟩ := H
            replace H : (if (t165 == t166) = true then ((lexis_May.f kj2 a1 false a0).bind fun t167 => ((monikerref18_May.f kj2 a1 false (wrap64 (a0))).bind fun t168 => (if (t167 == t168) = true then ((lexis_May.f kj2 a1 false a0).bind fun t169 => (if t169 = true then ((lexis_May.f kj2 a1 true a0).bind fun t170 => (if t170 = true then ((monikerlaw18_awake.f kj2).bind fun t171 => (some t171)) else (some false))) else ((monikerlaw18_awake.f kj2).bind fun t172 => (some t172)))) else (some false)))) else (some false)) = some r := H
            have A16 := Aside0.mk A160
            clear A160
            by_cases c17 : (t165 == t166) = true
            · rw [if_pos c17] at H
              have c17b0 : (t165 == t166) = true := c17
              (try (have c17b1 : decide (t165 = t166) = true := by simpa using c17))
              (try (have c17b2 : (t165 == t166) = true := by simpa using c17))
              clear c17
              replace H := Option.bind_eq_some_iff.mp H
              obtain ⟨t167, A180, H⟩ := H
              replace H : ((monikerref18_May.f kj2 a1 false (wrap64 (a0))).bind fun t168 => (if (t167 == t168) = true then ((lexis_May.f kj2 a1 false a0).bind fun t169 => (if t169 = true then ((lexis_May.f kj2 a1 true a0).bind fun t170 => (if t170 = true then ((monikerlaw18_awake.f kj2).bind fun t171 => (some t171)) else (some false))) else ((monikerlaw18_awake.f kj2).bind fun t172 => (some t172)))) else (some false))) = some r := H
              have A18 := Aside0.mk A180
              clear A180
              replace H := Option.bind_eq_some_iff.mp H
              obtain ⟨t168, A190, H⟩ := H
              replace H : (if (t167 == t168) = true then ((lexis_May.f kj2 a1 false a0).bind fun t169 => (if t169 = true then ((lexis_May.f kj2 a1 true a0).bind fun t170 => (if t170 = true then ((monikerlaw18_awake.f kj2).bind fun t171 => (some t171)) else (some false))) else ((monikerlaw18_awake.f kj2).bind fun t172 => (some t172)))) else (some false)) = some r := H
              have A19 := Aside0.mk A190
              clear A190
              by_cases c20 : (t167 == t168) = true
              · rw [if_pos c20] at H
                have c20b0 : (t167 == t168) = true := c20
                (try (have c20b1 : decide (t167 = t168) = true := by simpa using c20))
                (try (have c20b2 : (t167 == t168) = true := by simpa using c20))
                clear c20
                replace H := Option.bind_eq_some_iff.mp H
                obtain ⟨t169, A210, H⟩ := H
                obtain rfl : t167 = t169 := Option.some.inj (A18.out.symm.trans A210)
                replace H : (if t167 = true then ((lexis_May.f kj2 a1 true a0).bind fun t170 => (if t170 = true then ((monikerlaw18_awake.f kj2).bind fun t171 => (some t171)) else (some false))) else ((monikerlaw18_awake.f kj2).bind fun t172 => (some t172))) = some r := H
                have A21 := Aside0.mk A210
                clear A210
                by_cases c22 : t167 = true
                · subst c22
                  have H1 : ((lexis_May.f kj2 a1 true a0).bind fun t170 => (if t170 = true then ((monikerlaw18_awake.f kj2).bind fun t171 => (some t171)) else (some false))) = some r := by rw [if_pos rfl] at H; exact H
                  clear H
                  have H := H1
                  clear H1
                  replace H := Option.bind_eq_some_iff.mp H
                  obtain ⟨t170, A230, H⟩ := H
                  obtain rfl : t165 = t170 := Option.some.inj (A15.out.symm.trans A230)
                  replace H : (if t165 = true then ((monikerlaw18_awake.f kj2).bind fun t171 => (some t171)) else (some false)) = some r := H
                  have A23 := Aside0.mk A230
                  clear A230
                  by_cases c24 : t165 = true
                  · subst c24
                    have H1 : ((monikerlaw18_awake.f kj2).bind fun t171 => (some t171)) = some r := by rw [if_pos rfl] at H; exact H
                    clear H
                    have H := H1
                    clear H1
                    replace H := Option.bind_eq_some_iff.mp H
                    obtain ⟨t171, A250, H⟩ := H
                    replace H : (some t171) = some r := H
                    have A25 := Aside0.mk A250
                    clear A250
                    obtain rfl := Option.some.inj H
                    go_wp2_with (first | ((with_reducible refine gate_callee (f := 11) rfl ?_); refine goesL_ (some 24) rfl rfl Try.func11 (by kernel_rfl) rfl #[.int .i32 a0] rfl (by (try simp only [List.map_toArray, List.map_cons, List.map_nil]); first | done | rfl | (simp only [List.length_drop, List.length_take]; rfl)) ?_; (with_reducible refine (lexis_Common.calls kj2 a0 t160 _ A7.out).mono ?_); rintro e w' ⟨rfl, ⟨nd, rfl⟩⟩; refine ⟨_, rfl, ?_⟩) | ((with_reducible refine gate_callee (f := 12) rfl ?_); refine goesL_ (some 26) rfl rfl Try.func12 (by kernel_rfl) rfl #[.int .i64 (wrap64 (a0))] rfl (by (try simp only [List.map_toArray, List.map_cons, List.map_nil]); first | done | rfl | (simp only [List.length_drop, List.length_take]; rfl)) ?_; (with_reducible refine (monikerref18_Common.calls kj2 (wrap64 (a0)) t161 _ A8.out).mono ?_); rintro e w' ⟨rfl, ⟨nd, rfl⟩⟩; refine ⟨_, rfl, ?_⟩) | (go_at_call 13; (with_reducible refine (lexis_Private.calls a0 t162 _ A10.out).mono ?_); rintro e w' ⟨rfl, ⟨nd, rfl⟩⟩) | (go_at_call 14; (with_reducible refine (monikerref18_Private.calls (wrap64 (a0)) t163 _ A11.out).mono ?_); rintro e w' ⟨rfl, ⟨nd, rfl⟩⟩) | (go_at_call 15; (with_reducible refine (lexis_Direction.calls a0 t164 _ A13.out).mono ?_); rintro e w' ⟨rfl, ⟨nd, rfl⟩⟩) | (go_at_call 16; (with_reducible refine (lexis_May.calls kj2 a1 true a0 t165 _ A15.out).mono ?_); rintro e w26 ⟨rfl, hb⟩; have n0_ := Aside0.mk (below_step (by repeat (first | (with_reducible first | exact HB.out | apply below_alloc | apply pw_below_drewN | apply below_drew1) | exact HB.out)) hb); clear HB; have HB := n0_; clear n0_; (try clear hb); (try clear hb2); (try clear hk); (try clear hi)) | (go_at_call 17; (with_reducible refine (monikerref18_May.calls kj2 a1 true (wrap64 (a0)) t166 _ A16.out).mono ?_); rintro e w27 ⟨rfl, hb⟩; have n0_ := Aside0.mk (below_step (by repeat (first | (with_reducible first | exact HB.out | apply below_alloc | apply pw_below_drewN | apply below_drew1) | exact HB.out)) hb); clear HB; have HB := n0_; clear n0_; (try clear hb); (try clear hb2); (try clear hk); (try clear hi)) | (go_at_call 16; (with_reducible refine (lexis_May.calls kj2 a1 false a0 t167 _ A18.out).mono ?_); rintro e w28 ⟨rfl, hb⟩; have n0_ := Aside0.mk (below_step (by repeat (first | (with_reducible first | exact HB.out | apply below_alloc | apply pw_below_drewN | apply below_drew1) | exact HB.out)) hb); clear HB; have HB := n0_; clear n0_; (try clear hb); (try clear hb2); (try clear hk); (try clear hi)) | (go_at_call 17; (with_reducible refine (monikerref18_May.calls kj2 a1 false (wrap64 (a0)) t168 _ A19.out).mono ?_); rintro e w29 ⟨rfl, hb⟩; have n0_ := Aside0.mk (below_step (by repeat (first | (with_reducible first | exact HB.out | apply below_alloc | apply pw_below_drewN | apply below_drew1) | exact HB.out)) hb); clear HB; have HB := n0_; clear n0_; (try clear hb); (try clear hb2); (try clear hk); (try clear hi)) | (go_at_call 16; (with_reducible refine (lexis_May.calls kj2 a1 false a0 true _ A21.out).mono ?_); rintro e w30 ⟨rfl, hb⟩; have n0_ := Aside0.mk (below_step (by repeat (first | (with_reducible first | exact HB.out | apply below_alloc | apply pw_below_drewN | apply below_drew1) | exact HB.out)) hb); clear HB; have HB := n0_; clear n0_; (try clear hb); (try clear hb2); (try clear hk); (try clear hi)) | (go_at_call 16; (with_reducible refine (lexis_May.calls kj2 a1 true a0 true _ A23.out).mono ?_); rintro e w31 ⟨rfl, hb⟩; have n0_ := Aside0.mk (below_step (by repeat (first | (with_reducible first | exact HB.out | apply below_alloc | apply pw_below_drewN | apply below_drew1) | exact HB.out)) hb); clear HB; have HB := n0_; clear n0_; (try clear hb); (try clear hb2); (try clear hk); (try clear hi)) | (go_at_call 8; (with_reducible refine (monikerlaw18_awake.calls kj2  t171 _ A25.out).mono ?_); rintro e w32 ⟨rfl, hb⟩; have n0_ := Aside0.mk (below_step (by repeat (first | (with_reducible first | exact HB.out | apply below_alloc | apply pw_below_drewN | apply below_drew1) | exact HB.out)) hb); clear HB; have HB := n0_; clear n0_; (try clear hb); (try clear hb2); (try clear hk); (try clear hi)))
                    go_ret
                    exact ⟨by first | rfl | (simp [errW_none, errW_some] <;> rfl) | (simp [*, errW_none, errW_some] <;> rfl), by repeat (first | (with_reducible first | exact HB.out | apply below_alloc | apply pw_below_drewN | apply below_drew1) | exact HB.out)⟩
                  · replace c24 := Bool.eq_false_iff.mpr c24
                    subst c24
                    have H1 : (some false) = some r := by rw [if_neg (show ¬ (false = true) by decide)] at H; exact H
                    clear H
                    have H := H1
                    clear H1
                    obtain rfl := Option.some.inj H
                    go_wp2_with (first | ((with_reducible refine gate_callee (f := 11) rfl ?_); refine goesL_ (some 24) rfl rfl Try.func11 (by kernel_rfl) rfl #[.int .i32 a0] rfl (by (try simp only [List.map_toArray, List.map_cons, List.map_nil]); first | done | rfl | (simp only [List.length_drop, List.length_take]; rfl)) ?_; (with_reducible refine (lexis_Common.calls kj2 a0 t160 _ A7.out).mono ?_); rintro e w' ⟨rfl, ⟨nd, rfl⟩⟩; refine ⟨_, rfl, ?_⟩) | ((with_reducible refine gate_callee (f := 12) rfl ?_); refine goesL_ (some 26) rfl rfl Try.func12 (by kernel_rfl) rfl #[.int .i64 (wrap64 (a0))] rfl (by (try simp only [List.map_toArray, List.map_cons, List.map_nil]); first | done | rfl | (simp only [List.length_drop, List.length_take]; rfl)) ?_; (with_reducible refine (monikerref18_Common.calls kj2 (wrap64 (a0)) t161 _ A8.out).mono ?_); rintro e w' ⟨rfl, ⟨nd, rfl⟩⟩; refine ⟨_, rfl, ?_⟩) | (go_at_call 13; (with_reducible refine (lexis_Private.calls a0 t162 _ A10.out).mono ?_); rintro e w' ⟨rfl, ⟨nd, rfl⟩⟩) | (go_at_call 14; (with_reducible refine (monikerref18_Private.calls (wrap64 (a0)) t163 _ A11.out).mono ?_); rintro e w' ⟨rfl, ⟨nd, rfl⟩⟩) | (go_at_call 15; (with_reducible refine (lexis_Direction.calls a0 t164 _ A13.out).mono ?_); rintro e w' ⟨rfl, ⟨nd, rfl⟩⟩) | (go_at_call 16; (with_reducible refine (lexis_May.calls kj2 a1 true a0 t165 _ A15.out).mono ?_); rintro e w33 ⟨rfl, hb⟩; have n0_ := Aside0.mk (below_step (by repeat (first | (with_reducible first | exact HB.out | apply below_alloc | apply pw_below_drewN | apply below_drew1) | exact HB.out)) hb); clear HB; have HB := n0_; clear n0_; (try clear hb); (try clear hb2); (try clear hk); (try clear hi)) | (go_at_call 17; (with_reducible refine (monikerref18_May.calls kj2 a1 true (wrap64 (a0)) t166 _ A16.out).mono ?_); rintro e w34 ⟨rfl, hb⟩; have n0_ := Aside0.mk (below_step (by repeat (first | (with_reducible first | exact HB.out | apply below_alloc | apply pw_below_drewN | apply below_drew1) | exact HB.out)) hb); clear HB; have HB := n0_; clear n0_; (try clear hb); (try clear hb2); (try clear hk); (try clear hi)) | (go_at_call 16; (with_reducible refine (lexis_May.calls kj2 a1 false a0 t167 _ A18.out).mono ?_); rintro e w35 ⟨rfl, hb⟩; have n0_ := Aside0.mk (below_step (by repeat (first | (with_reducible first | exact HB.out | apply below_alloc | apply pw_below_drewN | apply below_drew1) | exact HB.out)) hb); clear HB; have HB := n0_; clear n0_; (try clear hb); (try clear hb2); (try clear hk); (try clear hi)) | (go_at_call 17; (with_reducible refine (monikerref18_May.calls kj2 a1 false (wrap64 (a0)) t168 _ A19.out).mono ?_); rintro e w36 ⟨rfl, hb⟩; have n0_ := Aside0.mk (below_step (by repeat (first | (with_reducible first | exact HB.out | apply below_alloc | apply pw_below_drewN | apply below_drew1) | exact HB.out)) hb); clear HB; have HB := n0_; clear n0_; (try clear hb); (try clear hb2); (try clear hk); (try clear hi)) | (go_at_call 16; (with_reducible refine (lexis_May.calls kj2 a1 false a0 true _ A21.out).mono ?_); rintro e w37 ⟨rfl, hb⟩; have n0_ := Aside0.mk (below_step (by repeat (first | (with_reducible first | exact HB.out | apply below_alloc | apply pw_below_drewN | apply below_drew1) | exact HB.out)) hb); clear HB; have HB := n0_; clear n0_; (try clear hb); (try clear hb2); (try clear hk); (try clear hi)) | (go_at_call 16; (with_reducible refine (lexis_May.calls kj2 a1 true a0 false _ A23.out).mono ?_); rintro e w38 ⟨rfl, hb⟩; have n0_ := Aside0.mk (below_step (by repeat (first | (with_reducible first | exact HB.out | apply below_alloc | apply pw_below_drewN | apply below_drew1) | exact HB.out)) hb); clear HB; have HB := n0_; clear n0_; (try clear hb); (try clear hb2); (try clear hk); (try clear hi)))
                    go_ret
                    exact ⟨by first | rfl | (simp [errW_none, errW_some] <;> rfl) | (simp [*, errW_none, errW_some] <;> rfl), by repeat (first | (with_reducible first | exact HB.out | apply below_alloc | apply pw_below_drewN | apply below_drew1) | exact HB.out)⟩
                · replace c22 := Bool.eq_false_iff.mpr c22
                  subst c22
                  have H1 : ((monikerlaw18_awake.f kj2).bind fun t172 => (some t172)) = some r := by rw [if_neg (show ¬ (false = true) by decide)] at H; exact H
                  clear H
                  have H := H1
                  clear H1
                  replace H := Option.bind_eq_some_iff.mp H
                  obtain ⟨t172, A390, H⟩ := H
                  replace H : (some t172) = some r := H
                  have A39 := Aside0.mk A390
                  clear A390
                  obtain rfl := Option.some.inj H
                  go_wp2_with (first | ((with_reducible refine gate_callee (f := 11) rfl ?_); refine goesL_ (some 24) rfl rfl Try.func11 (by kernel_rfl) rfl #[.int .i32 a0] rfl (by (try simp only [List.map_toArray, List.map_cons, List.map_nil]); first | done | rfl | (simp only [List.length_drop, List.length_take]; rfl)) ?_; (with_reducible refine (lexis_Common.calls kj2 a0 t160 _ A7.out).mono ?_); rintro e w' ⟨rfl, ⟨nd, rfl⟩⟩; refine ⟨_, rfl, ?_⟩) | ((with_reducible refine gate_callee (f := 12) rfl ?_); refine goesL_ (some 26) rfl rfl Try.func12 (by kernel_rfl) rfl #[.int .i64 (wrap64 (a0))] rfl (by (try simp only [List.map_toArray, List.map_cons, List.map_nil]); first | done | rfl | (simp only [List.length_drop, List.length_take]; rfl)) ?_; (with_reducible refine (monikerref18_Common.calls kj2 (wrap64 (a0)) t161 _ A8.out).mono ?_); rintro e w' ⟨rfl, ⟨nd, rfl⟩⟩; refine ⟨_, rfl, ?_⟩) | (go_at_call 13; (with_reducible refine (lexis_Private.calls a0 t162 _ A10.out).mono ?_); rintro e w' ⟨rfl, ⟨nd, rfl⟩⟩) | (go_at_call 14; (with_reducible refine (monikerref18_Private.calls (wrap64 (a0)) t163 _ A11.out).mono ?_); rintro e w' ⟨rfl, ⟨nd, rfl⟩⟩) | (go_at_call 15; (with_reducible refine (lexis_Direction.calls a0 t164 _ A13.out).mono ?_); rintro e w' ⟨rfl, ⟨nd, rfl⟩⟩) | (go_at_call 16; (with_reducible refine (lexis_May.calls kj2 a1 true a0 t165 _ A15.out).mono ?_); rintro e w40 ⟨rfl, hb⟩; have n0_ := Aside0.mk (below_step (by repeat (first | (with_reducible first | exact HB.out | apply below_alloc | apply pw_below_drewN | apply below_drew1) | exact HB.out)) hb); clear HB; have HB := n0_; clear n0_; (try clear hb); (try clear hb2); (try clear hk); (try clear hi)) | (go_at_call 17; (with_reducible refine (monikerref18_May.calls kj2 a1 true (wrap64 (a0)) t166 _ A16.out).mono ?_); rintro e w41 ⟨rfl, hb⟩; have n0_ := Aside0.mk (below_step (by repeat (first | (with_reducible first | exact HB.out | apply below_alloc | apply pw_below_drewN | apply below_drew1) | exact HB.out)) hb); clear HB; have HB := n0_; clear n0_; (try clear hb); (try clear hb2); (try clear hk); (try clear hi)) | (go_at_call 16; (with_reducible refine (lexis_May.calls kj2 a1 false a0 t167 _ A18.out).mono ?_); rintro e w42 ⟨rfl, hb⟩; have n0_ := Aside0.mk (below_step (by repeat (first | (with_reducible first | exact HB.out | apply below_alloc | apply pw_below_drewN | apply below_drew1) | exact HB.out)) hb); clear HB; have HB := n0_; clear n0_; (try clear hb); (try clear hb2); (try clear hk); (try clear hi)) | (go_at_call 17; (with_reducible refine (monikerref18_May.calls kj2 a1 false (wrap64 (a0)) t168 _ A19.out).mono ?_); rintro e w43 ⟨rfl, hb⟩; have n0_ := Aside0.mk (below_step (by repeat (first | (with_reducible first | exact HB.out | apply below_alloc | apply pw_below_drewN | apply below_drew1) | exact HB.out)) hb); clear HB; have HB := n0_; clear n0_; (try clear hb); (try clear hb2); (try clear hk); (try clear hi)) | (go_at_call 16; (with_reducible refine (lexis_May.calls kj2 a1 false a0 false _ A21.out).mono ?_); rintro e w44 ⟨rfl, hb⟩; have n0_ := Aside0.mk (below_step (by repeat (first | (with_reducible first | exact HB.out | apply below_alloc | apply pw_below_drewN | apply below_drew1) | exact HB.out)) hb); clear HB; have HB := n0_; clear n0_; (try clear hb); (try clear hb2); (try clear hk); (try clear hi)) | (go_at_call 8; (with_reducible refine (monikerlaw18_awake.calls kj2  t172 _ A39.out).mono ?_); rintro e w45 ⟨rfl, hb⟩; have n0_ := Aside0.mk (below_step (by repeat (first | (with_reducible first | exact HB.out | apply below_alloc | apply pw_below_drewN | apply below_drew1) | exact HB.out)) hb); clear HB; have HB := n0_; clear n0_; (try clear hb); (try clear hb2); (try clear hk); (try clear hi)))
                  go_ret
                  exact ⟨by first | rfl | (simp [errW_none, errW_some] <;> rfl) | (simp [*, errW_none, errW_some] <;> rfl), by repeat (first | (with_reducible first | exact HB.out | apply below_alloc | apply pw_below_drewN | apply below_drew1) | exact HB.out)⟩
              · rw [if_neg c20] at H
                have c20b0 : (t167 == t168) = false := by simpa using c20
                (try (have c20b1 : decide (t167 = t168) = false := by simpa using c20))
                (try (have c20b2 : (t167 == t168) = false := by simpa using c20))
                (try (have c20b3 : ¬ (t167 = t168) := by simpa using c20))
                clear c20
                obtain rfl := Option.some.inj H
                go_wp2_with (first | ((with_reducible refine gate_callee (f := 11) rfl ?_); refine goesL_ (some 24) rfl rfl Try.func11 (by kernel_rfl) rfl #[.int .i32 a0] rfl (by (try simp only [List.map_toArray, List.map_cons, List.map_nil]); first | done | rfl | (simp only [List.length_drop, List.length_take]; rfl)) ?_; (with_reducible refine (lexis_Common.calls kj2 a0 t160 _ A7.out).mono ?_); rintro e w' ⟨rfl, ⟨nd, rfl⟩⟩; refine ⟨_, rfl, ?_⟩) | ((with_reducible refine gate_callee (f := 12) rfl ?_); refine goesL_ (some 26) rfl rfl Try.func12 (by kernel_rfl) rfl #[.int .i64 (wrap64 (a0))] rfl (by (try simp only [List.map_toArray, List.map_cons, List.map_nil]); first | done | rfl | (simp only [List.length_drop, List.length_take]; rfl)) ?_; (with_reducible refine (monikerref18_Common.calls kj2 (wrap64 (a0)) t161 _ A8.out).mono ?_); rintro e w' ⟨rfl, ⟨nd, rfl⟩⟩; refine ⟨_, rfl, ?_⟩) | (go_at_call 13; (with_reducible refine (lexis_Private.calls a0 t162 _ A10.out).mono ?_); rintro e w' ⟨rfl, ⟨nd, rfl⟩⟩) | (go_at_call 14; (with_reducible refine (monikerref18_Private.calls (wrap64 (a0)) t163 _ A11.out).mono ?_); rintro e w' ⟨rfl, ⟨nd, rfl⟩⟩) | (go_at_call 15; (with_reducible refine (lexis_Direction.calls a0 t164 _ A13.out).mono ?_); rintro e w' ⟨rfl, ⟨nd, rfl⟩⟩) | (go_at_call 16; (with_reducible refine (lexis_May.calls kj2 a1 true a0 t165 _ A15.out).mono ?_); rintro e w46 ⟨rfl, hb⟩; have n0_ := Aside0.mk (below_step (by repeat (first | (with_reducible first | exact HB.out | apply below_alloc | apply pw_below_drewN | apply below_drew1) | exact HB.out)) hb); clear HB; have HB := n0_; clear n0_; (try clear hb); (try clear hb2); (try clear hk); (try clear hi)) | (go_at_call 17; (with_reducible refine (monikerref18_May.calls kj2 a1 true (wrap64 (a0)) t166 _ A16.out).mono ?_); rintro e w47 ⟨rfl, hb⟩; have n0_ := Aside0.mk (below_step (by repeat (first | (with_reducible first | exact HB.out | apply below_alloc | apply pw_below_drewN | apply below_drew1) | exact HB.out)) hb); clear HB; have HB := n0_; clear n0_; (try clear hb); (try clear hb2); (try clear hk); (try clear hi)) | (go_at_call 16; (with_reducible refine (lexis_May.calls kj2 a1 false a0 t167 _ A18.out).mono ?_); rintro e w48 ⟨rfl, hb⟩; have n0_ := Aside0.mk (below_step (by repeat (first | (with_reducible first | exact HB.out | apply below_alloc | apply pw_below_drewN | apply below_drew1) | exact HB.out)) hb); clear HB; have HB := n0_; clear n0_; (try clear hb); (try clear hb2); (try clear hk); (try clear hi)) | (go_at_call 17; (with_reducible refine (monikerref18_May.calls kj2 a1 false (wrap64 (a0)) t168 _ A19.out).mono ?_); rintro e w49 ⟨rfl, hb⟩; have n0_ := Aside0.mk (below_step (by repeat (first | (with_reducible first | exact HB.out | apply below_alloc | apply pw_below_drewN | apply below_drew1) | exact HB.out)) hb); clear HB; have HB := n0_; clear n0_; (try clear hb); (try clear hb2); (try clear hk); (try clear hi)))
                go_ret
                exact ⟨by first | rfl | (simp [errW_none, errW_some] <;> rfl) | (simp [*, errW_none, errW_some] <;> rfl), by repeat (first | (with_reducible first | exact HB.out | apply below_alloc | apply pw_below_drewN | apply below_drew1) | exact HB.out)⟩
            · rw [if_neg c17] at H
              have c17b0 : (t165 == t166) = false := by simpa using c17
              (try (have c17b1 : decide (t165 = t166) = false := by simpa using c17))
              (try (have c17b2 : (t165 == t166) = false := by simpa using c17))
              (try (have c17b3 : ¬ (t165 = t166) := by simpa using c17))
              clear c17
              obtain rfl := Option.some.inj H
              go_wp2_with (first | ((with_reducible refine gate_callee (f := 11) rfl ?_); refine goesL_ (some 24) rfl rfl Try.func11 (by kernel_rfl) rfl #[.int .i32 a0] rfl (by (try simp only [List.map_toArray, List.map_cons, List.map_nil]); first | done | rfl | (simp only [List.length_drop, List.length_take]; rfl)) ?_; (with_reducible refine (lexis_Common.calls kj2 a0 t160 _ A7.out).mono ?_); rintro e w' ⟨rfl, ⟨nd, rfl⟩⟩; refine ⟨_, rfl, ?_⟩) | ((with_reducible refine gate_callee (f := 12) rfl ?_); refine goesL_ (some 26) rfl rfl Try.func12 (by kernel_rfl) rfl #[.int .i64 (wrap64 (a0))] rfl (by (try simp only [List.map_toArray, List.map_cons, List.map_nil]); first | done | rfl | (simp only [List.length_drop, List.length_take]; rfl)) ?_; (with_reducible refine (monikerref18_Common.calls kj2 (wrap64 (a0)) t161 _ A8.out).mono ?_); rintro e w' ⟨rfl, ⟨nd, rfl⟩⟩; refine ⟨_, rfl, ?_⟩) | (go_at_call 13; (with_reducible refine (lexis_Private.calls a0 t162 _ A10.out).mono ?_); rintro e w' ⟨rfl, ⟨nd, rfl⟩⟩) | (go_at_call 14; (with_reducible refine (monikerref18_Private.calls (wrap64 (a0)) t163 _ A11.out).mono ?_); rintro e w' ⟨rfl, ⟨nd, rfl⟩⟩) | (go_at_call 15; (with_reducible refine (lexis_Direction.calls a0 t164 _ A13.out).mono ?_); rintro e w' ⟨rfl, ⟨nd, rfl⟩⟩) | (go_at_call 16; (with_reducible refine (lexis_May.calls kj2 a1 true a0 t165 _ A15.out).mono ?_); rintro e w50 ⟨rfl, hb⟩; have n0_ := Aside0.mk (below_step (by repeat (first | (with_reducible first | exact HB.out | apply below_alloc | apply pw_below_drewN | apply below_drew1) | exact HB.out)) hb); clear HB; have HB := n0_; clear n0_; (try clear hb); (try clear hb2); (try clear hk); (try clear hi)) | (go_at_call 17; (with_reducible refine (monikerref18_May.calls kj2 a1 true (wrap64 (a0)) t166 _ A16.out).mono ?_); rintro e w51 ⟨rfl, hb⟩; have n0_ := Aside0.mk (below_step (by repeat (first | (with_reducible first | exact HB.out | apply below_alloc | apply pw_below_drewN | apply below_drew1) | exact HB.out)) hb); clear HB; have HB := n0_; clear n0_; (try clear hb); (try clear hb2); (try clear hk); (try clear hi)))
              go_ret
              exact ⟨by first | rfl | (simp [errW_none, errW_some] <;> rfl) | (simp [*, errW_none, errW_some] <;> rfl), by repeat (first | (with_reducible first | exact HB.out | apply below_alloc | apply pw_below_drewN | apply below_drew1) | exact HB.out)⟩
          · rw [if_neg c14] at H
            have c14b0 : (t164 == x6_2) = false := by simpa using c14
            (try (have c14b1 : decide (t164 = x6_2) = false := by simpa using c14))
            (try (have c14b2 : (t164 == x6_2) = false := by simpa using c14))
            (try (have c14b3 : ¬ (t164 = x6_2) := by simpa using c14))
            clear c14
            obtain rfl := Option.some.inj H
            go_wp2_with (first | ((with_reducible refine gate_callee (f := 11) rfl ?_); refine goesL_ (some 24) rfl rfl Try.func11 (by kernel_rfl) rfl #[.int .i32 a0] rfl (by (try simp only [List.map_toArray, List.map_cons, List.map_nil]); first | done | rfl | (simp only [List.length_drop, List.length_take]; rfl)) ?_; (with_reducible refine (lexis_Common.calls kj2 a0 t160 _ A7.out).mono ?_); rintro e w' ⟨rfl, ⟨nd, rfl⟩⟩; refine ⟨_, rfl, ?_⟩) | ((with_reducible refine gate_callee (f := 12) rfl ?_); refine goesL_ (some 26) rfl rfl Try.func12 (by kernel_rfl) rfl #[.int .i64 (wrap64 (a0))] rfl (by (try simp only [List.map_toArray, List.map_cons, List.map_nil]); first | done | rfl | (simp only [List.length_drop, List.length_take]; rfl)) ?_; (with_reducible refine (monikerref18_Common.calls kj2 (wrap64 (a0)) t161 _ A8.out).mono ?_); rintro e w' ⟨rfl, ⟨nd, rfl⟩⟩; refine ⟨_, rfl, ?_⟩) | (go_at_call 13; (with_reducible refine (lexis_Private.calls a0 t162 _ A10.out).mono ?_); rintro e w' ⟨rfl, ⟨nd, rfl⟩⟩) | (go_at_call 14; (with_reducible refine (monikerref18_Private.calls (wrap64 (a0)) t163 _ A11.out).mono ?_); rintro e w' ⟨rfl, ⟨nd, rfl⟩⟩) | (go_at_call 15; (with_reducible refine (lexis_Direction.calls a0 t164 _ A13.out).mono ?_); rintro e w' ⟨rfl, ⟨nd, rfl⟩⟩))
            go_ret
            exact ⟨by first | rfl | (simp [errW_none, errW_some] <;> rfl) | (simp [*, errW_none, errW_some] <;> rfl), by repeat (first | (with_reducible first | exact HB.out | apply below_alloc | apply pw_below_drewN | apply below_drew1) | exact HB.out)⟩
        · rw [if_neg c12] at H
          have c12b0 : (t162 == t163) = false := by simpa using c12
          (try (have c12b1 : decide (t162 = t163) = false := by simpa using c12))
          (try (have c12b2 : (t162 == t163) = false := by simpa using c12))
          (try (have c12b3 : ¬ (t162 = t163) := by simpa using c12))
          clear c12
          obtain rfl := Option.some.inj H
          go_wp2_with (first | ((with_reducible refine gate_callee (f := 11) rfl ?_); refine goesL_ (some 24) rfl rfl Try.func11 (by kernel_rfl) rfl #[.int .i32 a0] rfl (by (try simp only [List.map_toArray, List.map_cons, List.map_nil]); first | done | rfl | (simp only [List.length_drop, List.length_take]; rfl)) ?_; (with_reducible refine (lexis_Common.calls kj2 a0 t160 _ A7.out).mono ?_); rintro e w' ⟨rfl, ⟨nd, rfl⟩⟩; refine ⟨_, rfl, ?_⟩) | ((with_reducible refine gate_callee (f := 12) rfl ?_); refine goesL_ (some 26) rfl rfl Try.func12 (by kernel_rfl) rfl #[.int .i64 (wrap64 (a0))] rfl (by (try simp only [List.map_toArray, List.map_cons, List.map_nil]); first | done | rfl | (simp only [List.length_drop, List.length_take]; rfl)) ?_; (with_reducible refine (monikerref18_Common.calls kj2 (wrap64 (a0)) t161 _ A8.out).mono ?_); rintro e w' ⟨rfl, ⟨nd, rfl⟩⟩; refine ⟨_, rfl, ?_⟩) | (go_at_call 13; (with_reducible refine (lexis_Private.calls a0 t162 _ A10.out).mono ?_); rintro e w' ⟨rfl, ⟨nd, rfl⟩⟩) | (go_at_call 14; (with_reducible refine (monikerref18_Private.calls (wrap64 (a0)) t163 _ A11.out).mono ?_); rintro e w' ⟨rfl, ⟨nd, rfl⟩⟩))
          go_ret
          exact ⟨by first | rfl | (simp [errW_none, errW_some] <;> rfl) | (simp [*, errW_none, errW_some] <;> rfl), by repeat (first | (with_reducible first | exact HB.out | apply below_alloc | apply pw_below_drewN | apply below_drew1) | exact HB.out)⟩
      · rw [if_neg c9] at H
        have c9b0 : (t160 == t161) = false := by simpa using c9
        (try (have c9b1 : decide (t160 = t161) = false := by simpa using c9))
        (try (have c9b2 : (t160 == t161) = false := by simpa using c9))
        (try (have c9b3 : ¬ (t160 = t161) := by simpa using c9))
        clear c9
        obtain rfl := Option.some.inj H
        go_wp2_with (first | ((with_reducible refine gate_callee (f := 11) rfl ?_); refine goesL_ (some 24) rfl rfl Try.func11 (by kernel_rfl) rfl #[.int .i32 a0] rfl (by (try simp only [List.map_toArray, List.map_cons, List.map_nil]); first | done | rfl | (simp only [List.length_drop, List.length_take]; rfl)) ?_; (with_reducible refine (lexis_Common.calls kj2 a0 t160 _ A7.out).mono ?_); rintro e w' ⟨rfl, ⟨nd, rfl⟩⟩; refine ⟨_, rfl, ?_⟩) | ((with_reducible refine gate_callee (f := 12) rfl ?_); refine goesL_ (some 26) rfl rfl Try.func12 (by kernel_rfl) rfl #[.int .i64 (wrap64 (a0))] rfl (by (try simp only [List.map_toArray, List.map_cons, List.map_nil]); first | done | rfl | (simp only [List.length_drop, List.length_take]; rfl)) ?_; (with_reducible refine (monikerref18_Common.calls kj2 (wrap64 (a0)) t161 _ A8.out).mono ?_); rintro e w' ⟨rfl, ⟨nd, rfl⟩⟩; refine ⟨_, rfl, ?_⟩))
        go_ret
        exact ⟨by first | rfl | (simp [errW_none, errW_some] <;> rfl) | (simp [*, errW_none, errW_some] <;> rfl), by repeat (first | (with_reducible first | exact HB.out | apply below_alloc | apply pw_below_drewN | apply below_drew1) | exact HB.out)⟩

/-- THE ONE PURE STATEMENT of monikerlaw18_LexisPoints: yours. -/
def monikerlaw18_LexisPoints.Pure : Prop := ∀ (a0 : Int) (a1 : Int), (Lit.int .i32 a0).wf = true → (Lit.int .i64 a1).wf = true → ∃ k, monikerlaw18_LexisPoints.f k a0 a1 = some true
theorem monikerlaw18_LexisPoints.walk (P : monikerlaw18_LexisPoints.Pure) (a0 : Int) (a1 : Int) (w : World) (w0 : (Lit.int .i32 a0).wf = true) (w1 : (Lit.int .i64 a1).wf = true) :
    Calls Try.prog 5 #[.int .i32 a0, .int .i64 a1] w fun e w' => e = .returned (.bool true) ∧ Below w.heap.size w w' := by
  obtain ⟨k, h⟩ := P a0 a1 w0 w1
  refine (monikerlaw18_LexisPoints.calls k a0 a1 true w h).mono ?_
  rintro e w' ⟨rfl, hd⟩
  exact ⟨rfl, hd⟩

end Go.Proofs.Ytcfoggglbcmhpaa.PAll
