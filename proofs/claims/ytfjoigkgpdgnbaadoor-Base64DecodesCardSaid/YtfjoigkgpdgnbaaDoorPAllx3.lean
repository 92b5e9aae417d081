-- SPLICED by sprint.py: out of the kit's printer, with some functions by this session's own texts. No printed file. Lean checks it.
import Derived.Test.YtfjoigkgpdgnbaaDoorPAllx0
import Derived.Test.YtfjoigkgpdgnbaaDoorPAllx1
import Derived.Test.YtfjoigkgpdgnbaaDoorPAllx2
namespace Go.Proofs.YtfjoigkgpdgnbaaDoor.PAll
open Go.RowKit Go.Proofs.YtfjoigkgpdgnbaaDoorW.PrintWords Go.Proofs.YtfjoigkgpdgnbaaDoorW.PrintLast Go.Proofs.YtfjoigkgpdgnbaaDoorW.PrintMore
attribute [local go_sem] max2_int min2_int max_two min_two max_three min_three max_four min_four   -- for this text's walks alone
set_option linter.unusedVariables false
set_option linter.unusedSimpArgs false

/-! ### base64_Decode: function 8 -/
mutual
def base64_Decode.j0 : Nat → Bool → ByteArray → Bool → Option (List Int × Int)
  | 0, _, _, _ => none
  | k + 1, x1, x8, x29 => if x29 = true then (some (([] : List Int), 9)) else (base64_Decode.l0 k x1 x8 ([] : List Int) 0 0 (x8.size : Int) 0)
def base64_Decode.l0 : Nat → Bool → ByteArray → List Int → Int → Int → Int → Int → Option (List Int × Int)
  | 0, _, _, _, _, _, _, _ => none
  | k + 1, x1, x8, x10, x11, x12, x31, x32 => if x32 < x31 then (if 0 ≤ x32 then (if x32 < (x8.size : Int) then ((base64_value.f k (bt x8 x32) x1).bind fun bt122 => (if bt122.2 = true then (if (wrap64 (x12 + 6)) ≥ 8 then (if 0 ≤ (wrap64 ((wrap64 (x12 + 6)) - 8)) then (if x10.length < 140737488355328 then (base64_Decode.l0 k x1 x8 (x10 ++ [(shr .i64 (Go.bits .or .i64 (wrap64 (x11 * 64)) bt122.1) (wrap64 ((wrap64 (x12 + 6)) - 8))) % 256]) (Go.bits .and .i64 (Go.bits .or .i64 (wrap64 (x11 * 64)) bt122.1) (wrap64 ((shl .i64 1 (wrap64 ((wrap64 (x12 + 6)) - 8))) - 1))) (wrap64 ((wrap64 (x12 + 6)) - 8)) x31 (wrap64 (x32 + 1))) else (none)) else (none)) else (if 0 ≤ (wrap64 (x12 + 6)) then (base64_Decode.l0 k x1 x8 x10 (Go.bits .and .i64 (Go.bits .or .i64 (wrap64 (x11 * 64)) bt122.1) (wrap64 ((shl .i64 1 (wrap64 (x12 + 6))) - 1))) (wrap64 (x12 + 6)) x31 (wrap64 (x32 + 1))) else (none))) else (some (([] : List Int), 9)))) else (none)) else (none)) else (if x11 = 0 then (some (x10, 0)) else (some (([] : List Int), 9)))
end
def base64_Decode.f (k : Nat) (a0 : ByteArray) (a1 : Bool) (a2 : Bool) : Option (List Int × Int) := (base64_bare.f k a0 a2).bind fun bt120 => (if bt120.2 = true then (base64_Decode.j0 k a1 bt120.1 (((bt120.1.size : Int) % 4) == 1)) else (base64_Decode.j0 k a1 bt120.1 true))
theorem base64_Decode.mono_l : ∀ k, (∀ y0 y1 y2, LeO (base64_Decode.j0 k y0 y1 y2) (base64_Decode.j0 (k + 1) y0 y1 y2)) ∧ (∀ y0 y1 y2 y3 y4 y5 y6, LeO (base64_Decode.l0 k y0 y1 y2 y3 y4 y5 y6) (base64_Decode.l0 (k + 1) y0 y1 y2 y3 y4 y5 y6))
  | 0 => ⟨fun _ _ _ r h => by simp [base64_Decode.j0] at h, fun _ _ _ _ _ _ _ r h => by simp [base64_Decode.l0] at h⟩
  | k + 1 => by
    obtain ⟨ih0, ih1⟩ := base64_Decode.mono_l k
    refine ⟨?_, ?_⟩
    · intro y0 y1 y2
      unfold base64_Decode.j0
      repeat' first
      | (with_reducible exact ih0 _ _ _)
      | (with_reducible exact ih1 _ _ _ _ _ _ _)
      | (with_reducible exact base64_bare.mono _ _ _)
      | (with_reducible exact base64_value.mono _ _ _)
      | (with_reducible exact LeO.refl _)
      | (with_reducible exact LeO.none _)
      | (with_reducible refine LeO.ite ?_ ?_)
      | (with_reducible refine LeO.bind ?_ (fun _ => ?_))
      | exact ih0 _ _ _
      | exact ih1 _ _ _ _ _ _ _
      | exact base64_bare.mono _ _ _
      | exact base64_value.mono _ _ _
      | exact LeO.none _
      | refine LeO.ite ?_ ?_
      | refine LeO.bind ?_ (fun _ => ?_)
    · intro y0 y1 y2 y3 y4 y5 y6
      unfold base64_Decode.l0
      repeat' first
      | (with_reducible exact ih0 _ _ _)
      | (with_reducible exact ih1 _ _ _ _ _ _ _)
      | (with_reducible exact base64_bare.mono _ _ _)
      | (with_reducible exact base64_value.mono _ _ _)
      | (with_reducible exact LeO.refl _)
      | (with_reducible exact LeO.none _)
      | (with_reducible refine LeO.ite ?_ ?_)
      | (with_reducible refine LeO.bind ?_ (fun _ => ?_))
      | exact ih0 _ _ _
      | exact ih1 _ _ _ _ _ _ _
      | exact base64_bare.mono _ _ _
      | exact base64_value.mono _ _ _
      | exact LeO.none _
      | refine LeO.ite ?_ ?_
      | refine LeO.bind ?_ (fun _ => ?_)
theorem base64_Decode.mono : ∀ a0 a1 a2 k, LeO (base64_Decode.f k a0 a1 a2) (base64_Decode.f (k + 1) a0 a1 a2) := by
  intro a0 a1 a2 k
  obtain ⟨ih0, ih1⟩ := base64_Decode.mono_l k
  unfold base64_Decode.f
  repeat' first
      | (with_reducible exact ih0 _ _ _)
      | (with_reducible exact ih1 _ _ _ _ _ _ _)
      | (with_reducible exact base64_bare.mono _ _ _)
      | (with_reducible exact base64_value.mono _ _ _)
      | (with_reducible exact LeO.refl _)
      | (with_reducible exact LeO.none _)
      | (with_reducible refine LeO.ite ?_ ?_)
      | (with_reducible refine LeO.bind ?_ (fun _ => ?_))
      | exact ih0 _ _ _
      | exact ih1 _ _ _ _ _ _ _
      | exact base64_bare.mono _ _ _
      | exact base64_value.mono _ _ _
      | exact LeO.none _
      | refine LeO.ite ?_ ?_
      | refine LeO.bind ?_ (fun _ => ?_)
set_option maxHeartbeats 8000000 in
set_option maxRecDepth 100000 in
theorem base64_Decode.calls (k : Nat) (a0 : ByteArray) (a1 : Bool) (a2 : Bool) (r1 : List Int) (r2 : Int) (w : World) (h : base64_Decode.f k a0 a1 a2 = some (r1, r2)) :
    Calls Tryd.prog 8 #[.string a0, .bool a1, .bool a2] w fun e w' => ∃ v0_ : Value, e = .returned (.tuple #[v0_, .int .i64 r2]) ∧ Kd.R (Kd.int .u8) 5 w' w.heap.size (fun _ => True) v0_ r1 ∧ Below w.heap.size w w' := by
  have HB := Aside0.mk (Below.refl w.heap.size w)
  have H : ((base64_bare.f k a0 a2).bind fun bt120 => (if bt120.2 = true then (base64_Decode.j0 k a1 bt120.1 (((bt120.1.size : Int) % 4) == 1)) else (base64_Decode.j0 k a1 bt120.1 true))) = some (r1, r2) := h
  clear h
  replace H := Option.bind_eq_some_iff.mp H
  obtain ⟨⟨t120, t121⟩, A40, H⟩ := H
  replace H : (if t121 = true then (base64_Decode.j0 k a1 t120 (((t120.size : Int) % 4) == 1)) else (base64_Decode.j0 k a1 t120 true)) = some (r1, r2) := H
  have A4 := Aside0.mk A40
  clear A40
  have HC5 := Aside0.mk H
  clear H
  go_enter Tryd.func8, Tryd.ntmps8
  go_upto_region 2 with (first | ((with_reducible refine gate_callee (f := 13) rfl ?_); refine goesL_ (some 19) rfl rfl Tryd.func13 (by kernel_rfl) rfl #[.string a0, .bool a2] rfl (by (try simp only [List.map_toArray, List.map_cons, List.map_nil]); first | done | rfl | (simp only [List.length_drop, List.length_take]; rfl)) ?_; (with_reducible refine (base64_bare.calls k a0 a2 t120 t121 _ A4.out).mono ?_); rintro e w' ⟨rfl, ⟨nd, rfl⟩⟩; refine ⟨_, rfl, ?_⟩))
  (try simp only [Act.put, List.setIfInBounds_toArray, List.set_cons_zero, List.set_cons_succ])
  go_cut [29] (fun v29 wc => ∃ (kq : Nat) (x29_4 : Bool), v29 = .bool x29_4 ∧ Aside0 (base64_Decode.j0 kq a1 t120 x29_4 = some (r1, r2)) ∧ Aside0 (kq ≤ k) ∧ Aside0 (Below w.heap.size w wc))
  case first =>
    have H := HC5.out
    clear HC5
    by_cases c6 : t121 = true
    · subst c6
      have H1 : (base64_Decode.j0 k a1 t120 (((t120.size : Int) % 4) == 1)) = some (r1, r2) := by rw [if_pos rfl] at H; exact H
      clear H
      have H := H1
      clear H1
      have H' := Aside0.mk H
      clear H
      go_wp2
      go_meet
      case rel => exact ⟨_, ((((t120.size : Int) % 4) == 1)), (by first | rfl | (simp; done) | (simp [*]; done)), H', ⟨by first | omega | exact Nat.le_refl _⟩, ⟨by repeat (first | (with_reducible first | exact HB.out | apply below_alloc | apply pw_below_drewN | apply below_drew1) | exact HB.out)⟩⟩
    · replace c6 := Bool.eq_false_iff.mpr c6
      subst c6
      have H1 : (base64_Decode.j0 k a1 t120 true) = some (r1, r2) := by rw [if_neg (show ¬ (false = true) by decide)] at H; exact H
      clear H
      have H := H1
      clear H1
      have H' := Aside0.mk H
      clear H
      go_wp2
      go_meet
      case rel => exact ⟨_, (true), (by first | rfl | (simp; done) | (simp [*]; done)), H', ⟨by first | omega | exact Nat.le_refl _⟩, ⟨by repeat (first | (with_reducible first | exact HB.out | apply below_alloc | apply pw_below_drewN | apply below_drew1) | exact HB.out)⟩⟩
  case rest =>
    clear HC5
    try clear c1
    try clear p2
    try clear c6
    obtain ⟨kq, x29_4, rfl, HA, HJ4, HB⟩ := hcut
    cases kq with
    | zero => exact absurd HA.out (by simp [base64_Decode.j0])
    | succ kj4 =>
      have H := HA.out
      clear HA
      simp only [base64_Decode.j0] at H
      by_cases c7 : x29_4 = true
      · subst c7
        have H1 : (some (([] : List Int), 9)) = some (r1, r2) := by rw [if_pos rfl] at H; exact H
        clear H
        have H := H1
        clear H1
        simp only [Option.some.injEq, Prod.mk.injEq] at H
        obtain ⟨rfl, rfl⟩ := H
        go_wp2
        go_ret2
        exact ⟨_, by first | rfl | (simp [errW_none, errW_some] <;> rfl) | (simp [*, errW_none, errW_some] <;> rfl), by first | exact Kd.R_nil _ _ _ _ _ | exact Kd.N_nil _ _ _ _ _ | exact Kd.V_nil _ _ _ _ _ | exact Kd.Q_nil _ _ _ _ _ | exact Kd.S_nil _ _ _ _ _, by repeat (first | (with_reducible first | exact HB.out | apply below_alloc | apply pw_below_drewN | apply below_drew1) | exact HB.out)⟩
      · replace c7 := Bool.eq_false_iff.mpr c7
        subst c7
        have H1 : (base64_Decode.l0 kj4 a1 t120 ([] : List Int) 0 0 (t120.size : Int) 0) = some (r1, r2) := by rw [if_neg (show ¬ (false = true) by decide)] at H; exact H
        clear H
        have H := H1
        clear H1
        have H' := Aside0.mk H
        clear H
        go_wp2
        go_loopg [10, 11, 12, 32] kj4 (fun kq v10 v11 v12 v32 w' => ∃ (x10_2 : List Int) (x11_2 : Int) (x12_2 : Int) (x32_2 : Int), v11 = .int .i64 x11_2 ∧ v12 = .int .i64 x12_2 ∧ v32 = .int .i64 x32_2 ∧ Aside0 (base64_Decode.l0 kq a1 t120 x10_2 x11_2 x12_2 (t120.size : Int) x32_2 = some (r1, r2)) ∧ Aside0 (kq ≤ kj4) ∧ Aside0 (Kd.R (Kd.int .u8) 5 w' w.heap.size (fun _ => True) v10 x10_2) ∧ Aside0 (Below w.heap.size w w'))
        case atStart => exact ⟨(([] : List Int)), (0), (0), (0), (by first | rfl | (simp; done) | (simp [*]; done)), (by first | rfl | (simp; done) | (simp [*]; done)), (by first | rfl | (simp; done) | (simp [*]; done)), H', ⟨Nat.le_refl _⟩, ⟨by first | exact Kd.R_nil _ _ _ _ _ | exact Kd.N_nil _ _ _ _ _ | exact Kd.V_nil _ _ _ _ _ | exact Kd.Q_nil _ _ _ _ _ | exact Kd.S_nil _ _ _ _ _⟩, ⟨by repeat (first | (with_reducible first | exact HB.out | apply below_alloc | apply pw_below_drewN | apply below_drew1) | exact HB.out)⟩⟩
        case round =>
          clear H'
          try clear c1
          try clear p2
          try clear c6
          try clear c7
          try clear p2
          obtain ⟨x10_2, x11_2, x12_2, x32_2, rfl, rfl, rfl, HA, HK2, HO_10, HB⟩ := hrel
          cases gk with
          | zero => exact absurd HA.out (by simp [base64_Decode.l0])
          | succ k2 =>
            have H := HA.out
            clear HA
            simp only [base64_Decode.l0] at H
            by_cases c8 : x32_2 < (t120.size : Int)
            · rw [if_pos c8] at H
              have c8b0 : decide (x32_2 < (t120.size : Int)) = true := decide_eq_true c8
              clear c8
              by_cases c9 : 0 ≤ x32_2
              · rw [if_pos c9] at H
                have c9b0 : decide (0 ≤ x32_2) = true := decide_eq_true c9
                clear c9
                by_cases c10 : x32_2 < (t120.size : Int)
                · rw [if_pos c10] at H
                  have c10b0 : decide (x32_2 < (t120.size : Int)) = true := decide_eq_true c10
                  clear c10
                  replace H := Option.bind_eq_some_iff.mp H
                  obtain ⟨⟨t122, t123⟩, A120, H⟩ := H
                  replace H : (if t123 = true then (if (wrap64 (x12_2 + 6)) ≥ 8 then (if 0 ≤ (wrap64 ((wrap64 (x12_2 + 6)) - 8)) then (if x10_2.length < 140737488355328 then (base64_Decode.l0 k2 a1 t120 (x10_2 ++ [(shr .i64 (Go.bits .or .i64 (wrap64 (x11_2 * 64)) t122) (wrap64 ((wrap64 (x12_2 + 6)) - 8))) % 256]) (Go.bits .and .i64 (Go.bits .or .i64 (wrap64 (x11_2 * 64)) t122) (wrap64 ((shl .i64 1 (wrap64 ((wrap64 (x12_2 + 6)) - 8))) - 1))) (wrap64 ((wrap64 (x12_2 + 6)) - 8)) (t120.size : Int) (wrap64 (x32_2 + 1))) else (none)) else (none)) else (if 0 ≤ (wrap64 (x12_2 + 6)) then (base64_Decode.l0 k2 a1 t120 x10_2 (Go.bits .and .i64 (Go.bits .or .i64 (wrap64 (x11_2 * 64)) t122) (wrap64 ((shl .i64 1 (wrap64 (x12_2 + 6))) - 1))) (wrap64 (x12_2 + 6)) (t120.size : Int) (wrap64 (x32_2 + 1))) else (none))) else (some (([] : List Int), 9))) = some (r1, r2) := H
                  have A12 := Aside0.mk A120
                  clear A120
                  by_cases c13 : t123 = true
                  · subst c13
                    have H1 : (if (wrap64 (x12_2 + 6)) ≥ 8 then (if 0 ≤ (wrap64 ((wrap64 (x12_2 + 6)) - 8)) then (if x10_2.length < 140737488355328 then (base64_Decode.l0 k2 a1 t120 (x10_2 ++ [(shr .i64 (Go.bits .or .i64 (wrap64 (x11_2 * 64)) t122) (wrap64 ((wrap64 (x12_2 + 6)) - 8))) % 256]) (Go.bits .and .i64 (Go.bits .or .i64 (wrap64 (x11_2 * 64)) t122) (wrap64 ((shl .i64 1 (wrap64 ((wrap64 (x12_2 + 6)) - 8))) - 1))) (wrap64 ((wrap64 (x12_2 + 6)) - 8)) (t120.size : Int) (wrap64 (x32_2 + 1))) else (none)) else (none)) else (if 0 ≤ (wrap64 (x12_2 + 6)) then (base64_Decode.l0 k2 a1 t120 x10_2 (Go.bits .and .i64 (Go.bits .or .i64 (wrap64 (x11_2 * 64)) t122) (wrap64 ((shl .i64 1 (wrap64 (x12_2 + 6))) - 1))) (wrap64 (x12_2 + 6)) (t120.size : Int) (wrap64 (x32_2 + 1))) else (none))) = some (r1, r2) := by rw [if_pos rfl] at H; exact H
                    clear H
                    have H := H1
                    clear H1
                    by_cases c14 : (wrap64 (x12_2 + 6)) ≥ 8
                    · rw [if_pos c14] at H
                      have c14b0 : decide (8 ≤ (wrap64 (x12_2 + 6))) = true := decide_eq_true c14
                      clear c14
                      obtain ⟨ji15, hji15⟩ : ∃ j_ : Int, (wrap64 ((wrap64 (x12_2 + 6)) - 8)) = j_ := ⟨_, rfl⟩
                      replace H : (if 0 ≤ (ji15) then (if x10_2.length < 140737488355328 then (base64_Decode.l0 k2 a1 t120 (x10_2 ++ [(shr .i64 (Go.bits .or .i64 (wrap64 (x11_2 * 64)) t122) (ji15)) % 256]) (Go.bits .and .i64 (Go.bits .or .i64 (wrap64 (x11_2 * 64)) t122) (wrap64 ((shl .i64 1 (ji15)) - 1))) ji15 (t120.size : Int) (wrap64 (x32_2 + 1))) else (none)) else (none)) = some (r1, r2) := by first | (rw [hji15] at H; exact H) | (simp only [hji15] at H ⊢; exact H)
                      (try rw [hji15] at A12)
                      have hji15w : (IntKind.i64.wrap ((wrap64 (x12_2 + 6)) - 8)) = ji15 := (i64_w _).trans hji15
                      by_cases c16 : 0 ≤ (ji15)
                      · rw [if_pos c16] at H
                        have c16b0 := eq_true c16
                        have c16b1 : decide (0 ≤ (ji15)) = true := decide_eq_true c16
                        clear c16
                        obtain ⟨ji17, hji17⟩ : ∃ j_ : Int, (shr .i64 (Go.bits .or .i64 (wrap64 (x11_2 * 64)) t122) (ji15)) = j_ := ⟨_, rfl⟩
                        replace H : (if x10_2.length < 140737488355328 then (base64_Decode.l0 k2 a1 t120 (x10_2 ++ [(ji17) % 256]) (Go.bits .and .i64 (Go.bits .or .i64 (wrap64 (x11_2 * 64)) t122) (wrap64 ((shl .i64 1 (ji15)) - 1))) ji15 (t120.size : Int) (wrap64 (x32_2 + 1))) else (none)) = some (r1, r2) := by first | (rw [hji17] at H; exact H) | (simp only [hji17] at H ⊢; exact H)
                        (try rw [hji17] at A12)
                        have hji17_ : ((Go.bits .or .i64 (wrap64 (x11_2 * 64)) t122) / 2 ^ min (ji15).toNat 64) = ji17 := hji17
                        have hji17z : (ji15) ≤ 64 → ((Go.bits .or .i64 (wrap64 (x11_2 * 64)) t122) / 2 ^ (ji15).toNat) = ji17 := shr_small hji17
                        by_cases c18 : x10_2.length < 140737488355328
                        · rw [if_pos c18] at H
                          have LMc18 := Aside0.mk c18
                          clear c18
                          obtain ⟨y124, hy124⟩ : ∃ y_ : List Int, y_ = (x10_2 ++ [(ji17) % 256]) := ⟨_, rfl⟩
                          replace H : (base64_Decode.l0 k2 a1 t120 y124 (Go.bits .and .i64 (Go.bits .or .i64 (wrap64 (x11_2 * 64)) t122) (wrap64 ((shl .i64 1 (ji15)) - 1))) ji15 (t120.size : Int) (wrap64 (x32_2 + 1))) = some (r1, r2) := by first | (rw [hy124]; with_reducible exact H) | (have H2_ := (Option.bind_some _ _).symm.trans H; rw [hy124]; with_reducible exact H2_) | (have H2_ := (Option.bind_some _ _).symm.trans H; with_reducible exact H2_) | with_reducible exact H | (rw [hy124]; exact H) | exact H
                          have Ny124 := Aside0.mk hy124
                          clear hy124
                          have c19b0 := eq_true (of_decide_eq_true (by first | (with_reducible assumption) | assumption) : 0 ≤ (ji15))
                          obtain ⟨ji20, hji20⟩ : ∃ j_ : Int, (shl .i64 1 (ji15)) = j_ := ⟨_, rfl⟩
                          replace H : (base64_Decode.l0 k2 a1 t120 y124 (Go.bits .and .i64 (Go.bits .or .i64 (wrap64 (x11_2 * 64)) t122) (wrap64 ((ji20) - 1))) ji15 (t120.size : Int) (wrap64 (x32_2 + 1))) = some (r1, r2) := by first | (rw [hji20] at H; exact H) | (simp only [hji20] at H ⊢; exact H)
                          (try rw [hji20] at A12)
                          have hji20_ : (IntKind.i64.wrap (1 * 2 ^ min (ji15).toNat 64)) = ji20 := hji20
                          have hji20z : (ji15) ≤ 64 → (IntKind.i64.wrap (1 * 2 ^ (ji15).toNat)) = ji20 := shl_small hji20
                          have hji20u : (IntKind.i64.wrap (2 ^ min (ji15).toNat 64)) = ji20 := by have h_ := hji20_; rw [Int.one_mul] at h_; exact h_
                          have hji20v : (ji15) ≤ 64 → (IntKind.i64.wrap (2 ^ (ji15).toNat)) = ji20 := fun hle_ => by have h_ := hji20z hle_; rw [Int.one_mul] at h_; exact h_
                          have hji20y : (wrap64 (1 * 2 ^ min (ji15).toNat 64)) = ji20 := (i64_w _).symm.trans hji20_
                          have hji20x : (ji15) ≤ 64 → (wrap64 (1 * 2 ^ (ji15).toNat)) = ji20 := fun h_ => (i64_w _).symm.trans (hji20z h_)
                          have H' := Aside0.mk H
                          clear H
                          have p11 : 0 ≤ (x32_2 : Int) := of_decide_eq_true (by first | (with_reducible assumption) | assumption)
                          have q11 : x32_2 < (t120.size : Int) := of_decide_eq_true (by first | (with_reducible assumption) | assumption)
                          have hx11 := bt_at t120 x32_2
                          replace p11 := eq_true p11
                          replace q11 := eq_true q11
                          go_wp2_with (first | ((with_reducible refine gate_callee (f := 14) rfl ?_); refine goesL_ (some 40) rfl rfl Tryd.func14 (by kernel_rfl) rfl #[.int .u8 (bt t120 x32_2), .bool a1] rfl (by (try simp only [List.map_toArray, List.map_cons, List.map_nil]); first | done | rfl | (simp only [List.length_drop, List.length_take]; rfl)) ?_; (with_reducible refine (base64_value.calls k2 (bt t120 x32_2) a1 t122 true _ A12.out).mono ?_); rintro e w21 ⟨rfl, hb⟩; refine ⟨_, rfl, ?_⟩; have n0_ := Aside0.mk (Kd.R_below (by (with_reducible repeat (first | apply Kd.R_alloc | apply Kd.R_drewN | apply Kd.R_drew)); exact HO_10.out) hb); have n1_ := Aside0.mk (below_step (by repeat (first | (with_reducible first | exact HB.out | apply below_alloc | apply pw_below_drewN | apply below_drew1) | exact HB.out)) hb); clear HO_10; clear HB; have HO_10 := n0_; have HB := n1_; clear n0_ n1_; (try clear hb); (try clear hb2); (try clear hk); (try clear hi)) | ((with_reducible refine gate_builtin (b := .append) (xs := #[.tmp 55, .tmp 60]) rfl ?_); (try (refine gate_guard (by rfl) ?_; dsimp only)); at_builtin; refine Kd.R_append (Kd.int .u8) (w0 := w) w.heap.size rfl (.tmp 55) (.tmp 60) 22 5 (.int .u8 0) 1 rfl Tryd.underlying22 info5 rfl (by decide) (by omega) u10 x10_2 ((ji17) % 256) [.int .u8 ((ji17) % 256)] (fun _ => True) (fun _ => False) rfl rfl ?aP (fun _ hk => hk.elim) ?aF ?aO ?aB ?aS ?aL ?_; (case aP => exact rfl); (case aB => exact (by repeat (first | (with_reducible first | exact HB.out | apply below_alloc | apply pw_below_drewN | apply below_drew1) | exact HB.out))); (case aF => exact (fun _ _ => trivial)); (case aO => exact (by (with_reducible repeat (first | apply Kd.R_alloc | apply Kd.R_drewN | apply Kd.R_drew)); exact HO_10.out)); (case aS => exact (below_size (by repeat (first | (with_reducible first | exact HB.out | apply below_alloc | apply pw_below_drewN | apply below_drew1) | exact HB.out)))); (case aL => have := LMc18.out; omega); intro v125 w22 ho hb hg hat; rw [← Ny124.out] at ho; have n0_ := Aside0.mk (hb); have n1_ := Aside0.mk (ho); clear HB; clear HO_10; have HB := n0_; have HO126 := n1_; clear n0_ n1_; clear ho hb hg hat))
                          go_roundg k2
                          case measure => have := HJ4.out; have := HK2.out; omega
                          case rel => exact ⟨(y124), (Go.bits .and .i64 (Go.bits .or .i64 (wrap64 (x11_2 * 64)) t122) (wrap64 ((ji20) - 1))), (ji15), (wrap64 (x32_2 + 1)), (by first | rfl | (simp; done) | (simp only [← hji20] <;> (first | rfl | simp)) | (simp [*]; done)), (by first | rfl | (simp; done) | (simp only [← hji15] <;> (first | rfl | simp)) | (simp [*]; done)), (by first | rfl | (simp; done) | (simp [*]; done)), H', ⟨by have := HJ4.out; have := HK2.out; omega⟩, ⟨by (with_reducible repeat (first | apply Kd.R_alloc | apply Kd.R_drewN | apply Kd.R_drew)); exact HO126.out⟩, ⟨by repeat (first | (with_reducible first | exact HB.out | apply below_alloc | apply pw_below_drewN | apply below_drew1) | exact HB.out)⟩⟩
                        · rw [if_neg c18] at H
                          exact absurd H (by simp)
                      · rw [if_neg c16] at H
                        exact absurd H (by simp)
                    · rw [if_neg c14] at H
                      have c14b0 : decide (8 ≤ (wrap64 (x12_2 + 6))) = false := decide_eq_false c14
                      clear c14
                      obtain ⟨ji23, hji23⟩ : ∃ j_ : Int, (wrap64 (x12_2 + 6)) = j_ := ⟨_, rfl⟩
                      replace H : (if 0 ≤ (ji23) then (base64_Decode.l0 k2 a1 t120 x10_2 (Go.bits .and .i64 (Go.bits .or .i64 (wrap64 (x11_2 * 64)) t122) (wrap64 ((shl .i64 1 (ji23)) - 1))) ji23 (t120.size : Int) (wrap64 (x32_2 + 1))) else (none)) = some (r1, r2) := by first | (rw [hji23] at H; exact H) | (simp only [hji23] at H ⊢; exact H)
                      (try rw [hji23] at c14b0)
                      (try rw [hji23] at A12)
                      have hji23w : (IntKind.i64.wrap (x12_2 + 6)) = ji23 := (i64_w _).trans hji23
                      by_cases c24 : 0 ≤ (ji23)
                      · rw [if_pos c24] at H
                        have c24b0 := eq_true c24
                        have c24b1 : decide (0 ≤ (ji23)) = true := decide_eq_true c24
                        clear c24
                        obtain ⟨ji25, hji25⟩ : ∃ j_ : Int, (shl .i64 1 (ji23)) = j_ := ⟨_, rfl⟩
                        replace H : (base64_Decode.l0 k2 a1 t120 x10_2 (Go.bits .and .i64 (Go.bits .or .i64 (wrap64 (x11_2 * 64)) t122) (wrap64 ((ji25) - 1))) ji23 (t120.size : Int) (wrap64 (x32_2 + 1))) = some (r1, r2) := by first | (rw [hji25] at H; exact H) | (simp only [hji25] at H ⊢; exact H)
                        (try rw [hji25] at A12)
                        have hji25_ : (IntKind.i64.wrap (1 * 2 ^ min (ji23).toNat 64)) = ji25 := hji25
                        have hji25z : (ji23) ≤ 64 → (IntKind.i64.wrap (1 * 2 ^ (ji23).toNat)) = ji25 := shl_small hji25
                        have hji25u : (IntKind.i64.wrap (2 ^ min (ji23).toNat 64)) = ji25 := by have h_ := hji25_; rw [Int.one_mul] at h_; exact h_
                        have hji25v : (ji23) ≤ 64 → (IntKind.i64.wrap (2 ^ (ji23).toNat)) = ji25 := fun hle_ => by have h_ := hji25z hle_; rw [Int.one_mul] at h_; exact h_
                        have hji25y : (wrap64 (1 * 2 ^ min (ji23).toNat 64)) = ji25 := (i64_w _).symm.trans hji25_
                        have hji25x : (ji23) ≤ 64 → (wrap64 (1 * 2 ^ (ji23).toNat)) = ji25 := fun h_ => (i64_w _).symm.trans (hji25z h_)
                        have H' := Aside0.mk H
                        clear H
                        have p11 : 0 ≤ (x32_2 : Int) := of_decide_eq_true (by first | (with_reducible assumption) | assumption)
                        have q11 : x32_2 < (t120.size : Int) := of_decide_eq_true (by first | (with_reducible assumption) | assumption)
                        have hx11 := bt_at t120 x32_2
                        replace p11 := eq_true p11
                        replace q11 := eq_true q11
                        go_wp2_with (first | ((with_reducible refine gate_callee (f := 14) rfl ?_); refine goesL_ (some 40) rfl rfl Tryd.func14 (by kernel_rfl) rfl #[.int .u8 (bt t120 x32_2), .bool a1] rfl (by (try simp only [List.map_toArray, List.map_cons, List.map_nil]); first | done | rfl | (simp only [List.length_drop, List.length_take]; rfl)) ?_; (with_reducible refine (base64_value.calls k2 (bt t120 x32_2) a1 t122 true _ A12.out).mono ?_); rintro e w26 ⟨rfl, hb⟩; refine ⟨_, rfl, ?_⟩; have n0_ := Aside0.mk (Kd.R_below (by (with_reducible repeat (first | apply Kd.R_alloc | apply Kd.R_drewN | apply Kd.R_drew)); exact HO_10.out) hb); have n1_ := Aside0.mk (below_step (by repeat (first | (with_reducible first | exact HB.out | apply below_alloc | apply pw_below_drewN | apply below_drew1) | exact HB.out)) hb); clear HO_10; clear HB; have HO_10 := n0_; have HB := n1_; clear n0_ n1_; (try clear hb); (try clear hb2); (try clear hk); (try clear hi)))
                        go_roundg k2
                        case measure => have := HJ4.out; have := HK2.out; omega
                        case rel => exact ⟨(x10_2), (Go.bits .and .i64 (Go.bits .or .i64 (wrap64 (x11_2 * 64)) t122) (wrap64 ((ji25) - 1))), (ji23), (wrap64 (x32_2 + 1)), (by first | rfl | (simp; done) | (simp only [← hji25] <;> (first | rfl | simp)) | (simp [*]; done)), (by first | rfl | (simp; done) | (simp only [← hji23] <;> (first | rfl | simp)) | (simp [*]; done)), (by first | rfl | (simp; done) | (simp [*]; done)), H', ⟨by have := HJ4.out; have := HK2.out; omega⟩, ⟨by (with_reducible repeat (first | apply Kd.R_alloc | apply Kd.R_drewN | apply Kd.R_drew)); exact HO_10.out⟩, ⟨by repeat (first | (with_reducible first | exact HB.out | apply below_alloc | apply pw_below_drewN | apply below_drew1) | exact HB.out)⟩⟩
                      · rw [if_neg c24] at H
                        exact absurd H (by simp)
                  · replace c13 := Bool.eq_false_iff.mpr c13
                    subst c13
                    have H1 : (some (([] : List Int), 9)) = some (r1, r2) := by rw [if_neg (show ¬ (false = true) by decide)] at H; exact H
                    clear H
                    have H := H1
                    clear H1
                    simp only [Option.some.injEq, Prod.mk.injEq] at H
                    obtain ⟨rfl, rfl⟩ := H
                    have p11 : 0 ≤ (x32_2 : Int) := of_decide_eq_true (by first | (with_reducible assumption) | assumption)
                    have q11 : x32_2 < (t120.size : Int) := of_decide_eq_true (by first | (with_reducible assumption) | assumption)
                    have hx11 := bt_at t120 x32_2
                    replace p11 := eq_true p11
                    replace q11 := eq_true q11
                    go_wp2_with (first | ((with_reducible refine gate_callee (f := 14) rfl ?_); refine goesL_ (some 40) rfl rfl Tryd.func14 (by kernel_rfl) rfl #[.int .u8 (bt t120 x32_2), .bool a1] rfl (by (try simp only [List.map_toArray, List.map_cons, List.map_nil]); first | done | rfl | (simp only [List.length_drop, List.length_take]; rfl)) ?_; (with_reducible refine (base64_value.calls k2 (bt t120 x32_2) a1 t122 false _ A12.out).mono ?_); rintro e w27 ⟨rfl, hb⟩; refine ⟨_, rfl, ?_⟩; have n0_ := Aside0.mk (Kd.R_below (by (with_reducible repeat (first | apply Kd.R_alloc | apply Kd.R_drewN | apply Kd.R_drew)); exact HO_10.out) hb); have n1_ := Aside0.mk (below_step (by repeat (first | (with_reducible first | exact HB.out | apply below_alloc | apply pw_below_drewN | apply below_drew1) | exact HB.out)) hb); clear HO_10; clear HB; have HO_10 := n0_; have HB := n1_; clear n0_ n1_; (try clear hb); (try clear hb2); (try clear hk); (try clear hi)))
                    go_ret2
                    exact ⟨_, by first | rfl | (simp [errW_none, errW_some] <;> rfl) | (simp [*, errW_none, errW_some] <;> rfl), by first | exact Kd.R_nil _ _ _ _ _ | exact Kd.N_nil _ _ _ _ _ | exact Kd.V_nil _ _ _ _ _ | exact Kd.Q_nil _ _ _ _ _ | exact Kd.S_nil _ _ _ _ _, by repeat (first | (with_reducible first | exact HB.out | apply below_alloc | apply pw_below_drewN | apply below_drew1) | exact HB.out)⟩
                · rw [if_neg c10] at H
                  exact absurd H (by simp)
              · rw [if_neg c9] at H
                exact absurd H (by simp)
            · rw [if_neg c8] at H
              have c8b0 : decide (x32_2 < (t120.size : Int)) = false := decide_eq_false c8
              clear c8
              by_cases c28 : x11_2 = 0
              · rw [if_pos c28] at H
                have c28b0 : (x11_2 == 0) = true := beq_iff_eq.mpr c28
                have c28b1 : (x11_2 != 0) = false := bne_eq_false_iff_eq.mpr c28
                clear c28
                simp only [Option.some.injEq, Prod.mk.injEq] at H
                obtain ⟨rfl, rfl⟩ := H
                go_wp2
                go_ret2
                exact ⟨_, by first | rfl | (simp [errW_none, errW_some] <;> rfl) | (simp [*, errW_none, errW_some] <;> rfl), by (with_reducible repeat (first | apply Kd.R_alloc | apply Kd.R_drewN | apply Kd.R_drew)); exact HO_10.out, by repeat (first | (with_reducible first | exact HB.out | apply below_alloc | apply pw_below_drewN | apply below_drew1) | exact HB.out)⟩
              · rw [if_neg c28] at H
                have c28b0 : (x11_2 == 0) = false := beq_eq_false_iff_ne.mpr c28
                have c28b1 : (x11_2 != 0) = true := bne_iff_ne.mpr c28
                simp only [Option.some.injEq, Prod.mk.injEq] at H
                obtain ⟨rfl, rfl⟩ := H
                go_wp2
                go_ret2
                exact ⟨_, by first | rfl | (simp [errW_none, errW_some] <;> rfl) | (simp [*, errW_none, errW_some] <;> rfl), by first | exact Kd.R_nil _ _ _ _ _ | exact Kd.N_nil _ _ _ _ _ | exact Kd.V_nil _ _ _ _ _ | exact Kd.Q_nil _ _ _ _ _ | exact Kd.S_nil _ _ _ _ _, by repeat (first | (with_reducible first | exact HB.out | apply below_alloc | apply pw_below_drewN | apply below_drew1) | exact HB.out)⟩

theorem C_marked (w : World) (l : List Int) (e : TypeId) (f : Nat × Nat) (hl : l.length ≤ 9223372036854775807) : Kd.C (Kd.int .u8) (w.alloc (.cells (l.map (Value.int .u8)).toArray e f)) (some ⟨w.heap.size, 0, none⟩) l.length l := by
  refine Kd.C_of_reads (enc := Value.int .u8) (d := 0) ⟨rfl, hl, fun _ => ⟨_, rfl, fun j hj => ?_⟩⟩
  have hh : (w.alloc (.cells (l.map (Value.int .u8)).toArray e f)).heap[w.heap.size]? = some (.cells (l.map (Value.int .u8)).toArray e f) := heap_alloc_new _ _
  rw [Addr.add_lit, Nat.zero_add, cell_of_row _ _ j _ e _ hh]
  simp [hj, List.getD_eq_getElem?_getD]

/-! ### monikerlaw34_awake: function 6 (own text) -/
def monikerlaw34_awake.f (k : Nat) : Option (Bool) := (base64_Decode.f k (⟨#[90, 104, 61, 61]⟩ : ByteArray) false true).bind fun bt => ((base64_Encode.f k ([102] : List Int) false true).bind fun t1 => (if t1.toList = ([90, 103, 61, 61] : List UInt8) then ((base64_Encode.f k ([102, 111] : List Int) false true).bind fun t2 => (if t2.toList = ([90, 109, 56, 61] : List UInt8) then (if bt.2 = 9 then some true else none) else none)) else none))
theorem monikerlaw34_awake.mono : ∀ k, LeO (monikerlaw34_awake.f k ) (monikerlaw34_awake.f (k + 1) ) := by
  intro k
  unfold monikerlaw34_awake.f
  repeat' first
      | (with_reducible exact base64_Decode.mono _ _ _ _)
      | (with_reducible exact base64_Encode.mono _ _ _ _)
      | (with_reducible exact LeO.refl _)
      | (with_reducible refine LeO.ite ?_ ?_)
      | (with_reducible refine LeO.bind ?_ (fun _ => ?_))
set_option maxHeartbeats 4000000 in
theorem monikerlaw34_awake.calls (k : Nat) (r : Bool) (w : World) (h : monikerlaw34_awake.f k = some r) :
    Calls Tryd.prog 6 #[] w fun e w' => e = .returned (.bool r) ∧ Below w.heap.size w w' := by
  unfold monikerlaw34_awake.f at h
  obtain ⟨⟨b1, b2⟩, h1, h⟩ := Option.bind_eq_some_iff.1 h
  obtain ⟨t1, h2, h⟩ := Option.bind_eq_some_iff.1 h
  by_cases c1 : t1.toList = ([90, 103, 61, 61] : List UInt8)
  case neg => rw [if_neg c1] at h; cases h
  rw [if_pos c1] at h
  obtain ⟨t2, h3, h⟩ := Option.bind_eq_some_iff.1 h
  by_cases c2 : t2.toList = ([90, 109, 56, 61] : List UInt8)
  case neg => rw [if_neg c2] at h; cases h
  rw [if_pos c2] at h
  by_cases c3 : b2 = 9
  case neg => rw [if_neg c3] at h; cases h
  rw [if_pos c3] at h
  obtain rfl := Option.some.inj h
  subst c3
  have d1 : (t1.toList == ([90, 103, 61, 61] : List UInt8)) = true := beq_iff_eq.2 c1
  have d2 : (t2.toList == ([90, 109, 56, 61] : List UInt8)) = true := beq_iff_eq.2 c2
  have A1 := Aside0.mk h1
  have A2 := Aside0.mk h2
  have A3 := Aside0.mk h3
  have HB := Aside0.mk (Below.refl w.heap.size w)
  have hC1 : ∀ W : World, Kd.C (Kd.int .u8) (W.alloc (.cells #[.int .u8 102] 5 (1, 2))) (some ⟨W.heap.size, 0, none⟩) 1 [102] := fun W => C_marked W [102] 5 (1, 2) (by decide)
  have hC2 : ∀ W : World, Kd.C (Kd.int .u8) (W.alloc (.cells #[.int .u8 102, .int .u8 111] 5 (2, 3))) (some ⟨W.heap.size, 0, none⟩) 2 [102, 111] := fun W => C_marked W [102, 111] 5 (2, 3) (by decide)
  have E1 := Aside0.mk (fun W : World => base64_Encode.calls k (some ⟨W.heap.size, 0, none⟩) 1 [102] false true t1 _ (hC1 W) (Nat.le_refl _) A2.out)
  have E2 := Aside0.mk (fun W : World => base64_Encode.calls k (some ⟨W.heap.size, 0, none⟩) 2 [102, 111] false true t2 _ (hC2 W) (Nat.le_refl _) A3.out)
  clear h h1 h2 h3 c1 c2 hC1 hC2 A2 A3
  have kc := fun (w : World) (C : Array Value) (n c : Nat) => Lib.run_convert_bytes_const (P := Tryd.prog) w 22 5 C n c Tryd.underlying22 Tryd.underlying5
  go_enter Tryd.func6, Tryd.ntmps6
  go_wp2_with (first
    | (go_at_call 8; refine (base64_Decode.calls k _ false true b1 9 _ A1.out).mono ?_; rintro e w6 ⟨v1, rfl, hR, hb⟩; have HB1 := Aside0.mk hb; clear hR hb HB)
    | (go_at_call 7; have tok := HB1; refine (E1.out w6).mono ?_; rintro e w7 ⟨rfl, hb⟩; have HB2 := Aside0.mk (below_then (below_alloc HB1.out _) (below_size (below_alloc HB1.out _)) hb); clear tok hb HB1)
    | (go_at_call 7; have tok := HB2; refine (E2.out w7).mono ?_; rintro e w8 ⟨rfl, hb⟩; have HB3 := Aside0.mk (below_then (below_alloc HB2.out _) (below_size (below_alloc HB2.out _)) hb); clear tok hb HB2))
  go_ret
  exact ⟨rfl, HB3.out⟩

/-! ### monikerref34_signs: function 15 -/
def monikerref34_signs.f (a0 : Bool) : Option (ByteArray) := if a0 = true then (some (⟨#[65, 66, 67, 68, 69, 70, 71, 72, 73, 74, 75, 76, 77, 78, 79, 80, 81, 82, 83, 84, 85, 86, 87, 88, 89, 90, 97, 98, 99, 100, 101, 102, 103, 104, 105, 106, 107, 108, 109, 110, 111, 112, 113, 114, 115, 116, 117, 118, 119, 120, 121, 122, 48, 49, 50, 51, 52, 53, 54, 55, 56, 57, 45, 95]⟩ : ByteArray)) else (some (⟨#[65, 66, 67, 68, 69, 70, 71, 72, 73, 74, 75, 76, 77, 78, 79, 80, 81, 82, 83, 84, 85, 86, 87, 88, 89, 90, 97, 98, 99, 100, 101, 102, 103, 104, 105, 106, 107, 108, 109, 110, 111, 112, 113, 114, 115, 116, 117, 118, 119, 120, 121, 122, 48, 49, 50, 51, 52, 53, 54, 55, 56, 57, 43, 47]⟩ : ByteArray))
set_option maxHeartbeats 8000000 in
set_option maxRecDepth 100000 in
theorem monikerref34_signs.calls (a0 : Bool) (r : ByteArray) (w : World) (h : monikerref34_signs.f a0 = some r) :
    Calls Tryd.prog 15 #[.bool a0] w fun e w' => e = .returned (.string r) ∧ Drawn0 w w' := by
  have H : (if a0 = true then (some (⟨#[65, 66, 67, 68, 69, 70, 71, 72, 73, 74, 75, 76, 77, 78, 79, 80, 81, 82, 83, 84, 85, 86, 87, 88, 89, 90, 97, 98, 99, 100, 101, 102, 103, 104, 105, 106, 107, 108, 109, 110, 111, 112, 113, 114, 115, 116, 117, 118, 119, 120, 121, 122, 48, 49, 50, 51, 52, 53, 54, 55, 56, 57, 45, 95]⟩ : ByteArray)) else (some (⟨#[65, 66, 67, 68, 69, 70, 71, 72, 73, 74, 75, 76, 77, 78, 79, 80, 81, 82, 83, 84, 85, 86, 87, 88, 89, 90, 97, 98, 99, 100, 101, 102, 103, 104, 105, 106, 107, 108, 109, 110, 111, 112, 113, 114, 115, 116, 117, 118, 119, 120, 121, 122, 48, 49, 50, 51, 52, 53, 54, 55, 56, 57, 43, 47]⟩ : ByteArray))) = some r := h
  clear h
  by_cases c2 : a0 = true
  · subst c2
    have H1 : (some (⟨#[65, 66, 67, 68, 69, 70, 71, 72, 73, 74, 75, 76, 77, 78, 79, 80, 81, 82, 83, 84, 85, 86, 87, 88, 89, 90, 97, 98, 99, 100, 101, 102, 103, 104, 105, 106, 107, 108, 109, 110, 111, 112, 113, 114, 115, 116, 117, 118, 119, 120, 121, 122, 48, 49, 50, 51, 52, 53, 54, 55, 56, 57, 45, 95]⟩ : ByteArray)) = some r := by rw [if_pos rfl] at H; exact H
    clear H
    have H := H1
    clear H1
    obtain rfl := Option.some.inj H
    go_enter Tryd.func15, Tryd.ntmps15
    go_wp2
    go_ret
    exact ⟨by first | rfl | (simp; done) | (simp [*]; done), by repeat (first | exact Drawn0.refl _ | apply Drawn0.step)⟩
  · replace c2 := Bool.eq_false_iff.mpr c2
    subst c2
    have H1 : (some (⟨#[65, 66, 67, 68, 69, 70, 71, 72, 73, 74, 75, 76, 77, 78, 79, 80, 81, 82, 83, 84, 85, 86, 87, 88, 89, 90, 97, 98, 99, 100, 101, 102, 103, 104, 105, 106, 107, 108, 109, 110, 111, 112, 113, 114, 115, 116, 117, 118, 119, 120, 121, 122, 48, 49, 50, 51, 52, 53, 54, 55, 56, 57, 43, 47]⟩ : ByteArray)) = some r := by rw [if_neg (show ¬ (false = true) by decide)] at H; exact H
    clear H
    have H := H1
    clear H1
    obtain rfl := Option.some.inj H
    go_enter Tryd.func15, Tryd.ntmps15
    go_wp2
    go_ret
    exact ⟨by first | rfl | (simp; done) | (simp [*]; done), by repeat (first | exact Drawn0.refl _ | apply Drawn0.step)⟩

end Go.Proofs.YtfjoigkgpdgnbaaDoor.PAll
