-- SPLICED by sprint.py: out of the kit's printer, with some functions by this session's own texts. No printed file. Lean checks it.
import Derived.Test.YtfjoigkgpdgnbaaDoorPAllx0
import Derived.Test.YtfjoigkgpdgnbaaDoorPAllx1
import Derived.Test.YtfjoigkgpdgnbaaDoorPAllx3
namespace Go.Proofs.YtfjoigkgpdgnbaaDoor.PAll
open Go.RowKit Go.Proofs.YtfjoigkgpdgnbaaDoorW.PrintWords Go.Proofs.YtfjoigkgpdgnbaaDoorW.PrintLast Go.Proofs.YtfjoigkgpdgnbaaDoorW.PrintMore
attribute [local go_sem] max2_int min2_int max_two min_two max_three min_three max_four min_four   -- for this text's walks alone
set_option linter.unusedVariables false
set_option linter.unusedSimpArgs false

/-! ### monikerref34_Encode: function 9 -/
mutual
def monikerref34_Encode.l0 : Nat → List Int → Bool → ByteArray → ByteArray → Int → Option (ByteArray)
  | 0, _, _, _, _, _ => none
  | k + 1, x0, x2, x7, x8, x9 => if x9 < (x0.length : Int) then (monikerref34_Encode.l1 k x0 x2 x7 x8 x9 0 0) else (some x8)
def monikerref34_Encode.l1 : Nat → List Int → Bool → ByteArray → ByteArray → Int → Int → Int → Option (ByteArray)
  | 0, _, _, _, _, _, _, _ => none
  | k + 1, x0, x2, x7, x8, x9, x10, x11 => if x11 < 3 then (if (wrap64 (x9 + x11)) < (x0.length : Int) then (if 0 ≤ (wrap64 (x9 + x11)) then (monikerref34_Encode.l1 k x0 x2 x7 x8 x9 (wrap64 ((wrap64 (256 * x10)) + (wrap64 (rd x0 (wrap64 (x9 + x11)))))) (wrap64 (x11 + 1))) else (none)) else (monikerref34_Encode.l1 k x0 x2 x7 x8 x9 (wrap64 (256 * x10)) (wrap64 (x11 + 1)))) else (if 0 ≤ (wrap64 (Int.tdiv x10 262144)) then (if (wrap64 (Int.tdiv x10 262144)) ≤ (wrap64 ((wrap64 (Int.tdiv x10 262144)) + 1)) then (if (wrap64 ((wrap64 (Int.tdiv x10 262144)) + 1)) ≤ (x7.size : Int) then (if 0 ≤ (Int.tmod (wrap64 (Int.tdiv x10 4096)) 64) then (if (Int.tmod (wrap64 (Int.tdiv x10 4096)) 64) ≤ (wrap64 ((Int.tmod (wrap64 (Int.tdiv x10 4096)) 64) + 1)) then (if (wrap64 ((Int.tmod (wrap64 (Int.tdiv x10 4096)) 64) + 1)) ≤ (x7.size : Int) then (if (x7.extract ((wrap64 (Int.tdiv x10 262144)) : Int).toNat ((wrap64 ((wrap64 (Int.tdiv x10 262144)) + 1)) : Int).toNat).size + (x7.extract ((Int.tmod (wrap64 (Int.tdiv x10 4096)) 64) : Int).toNat ((wrap64 ((Int.tmod (wrap64 (Int.tdiv x10 4096)) 64) + 1)) : Int).toNat).size ≤ 9223372036854775807 then (if 0 ≤ (Int.tmod (wrap64 (Int.tdiv x10 64)) 64) then (if (Int.tmod (wrap64 (Int.tdiv x10 64)) 64) ≤ (wrap64 ((Int.tmod (wrap64 (Int.tdiv x10 64)) 64) + 1)) then (if (wrap64 ((Int.tmod (wrap64 (Int.tdiv x10 64)) 64) + 1)) ≤ (x7.size : Int) then (if ((x7.extract ((wrap64 (Int.tdiv x10 262144)) : Int).toNat ((wrap64 ((wrap64 (Int.tdiv x10 262144)) + 1)) : Int).toNat) ++ (x7.extract ((Int.tmod (wrap64 (Int.tdiv x10 4096)) 64) : Int).toNat ((wrap64 ((Int.tmod (wrap64 (Int.tdiv x10 4096)) 64) + 1)) : Int).toNat)).size + (x7.extract ((Int.tmod (wrap64 (Int.tdiv x10 64)) 64) : Int).toNat ((wrap64 ((Int.tmod (wrap64 (Int.tdiv x10 64)) 64) + 1)) : Int).toNat).size ≤ 9223372036854775807 then (if 0 ≤ (Int.tmod x10 64) then (if (Int.tmod x10 64) ≤ (wrap64 ((Int.tmod x10 64) + 1)) then (if (wrap64 ((Int.tmod x10 64) + 1)) ≤ (x7.size : Int) then (if (((x7.extract ((wrap64 (Int.tdiv x10 262144)) : Int).toNat ((wrap64 ((wrap64 (Int.tdiv x10 262144)) + 1)) : Int).toNat) ++ (x7.extract ((Int.tmod (wrap64 (Int.tdiv x10 4096)) 64) : Int).toNat ((wrap64 ((Int.tmod (wrap64 (Int.tdiv x10 4096)) 64) + 1)) : Int).toNat)) ++ (x7.extract ((Int.tmod (wrap64 (Int.tdiv x10 64)) 64) : Int).toNat ((wrap64 ((Int.tmod (wrap64 (Int.tdiv x10 64)) 64) + 1)) : Int).toNat)).size + (x7.extract ((Int.tmod x10 64) : Int).toNat ((wrap64 ((Int.tmod x10 64) + 1)) : Int).toNat).size ≤ 9223372036854775807 then (if (wrap64 ((x0.length : Int) - x9)) < 3 then (if 0 ≤ (wrap64 ((wrap64 ((x0.length : Int) - x9)) + 1)) then (if (wrap64 ((wrap64 ((x0.length : Int) - x9)) + 1)) ≤ (((((x7.extract ((wrap64 (Int.tdiv x10 262144)) : Int).toNat ((wrap64 ((wrap64 (Int.tdiv x10 262144)) + 1)) : Int).toNat) ++ (x7.extract ((Int.tmod (wrap64 (Int.tdiv x10 4096)) 64) : Int).toNat ((wrap64 ((Int.tmod (wrap64 (Int.tdiv x10 4096)) 64) + 1)) : Int).toNat)) ++ (x7.extract ((Int.tmod (wrap64 (Int.tdiv x10 64)) 64) : Int).toNat ((wrap64 ((Int.tmod (wrap64 (Int.tdiv x10 64)) 64) + 1)) : Int).toNat)) ++ (x7.extract ((Int.tmod x10 64) : Int).toNat ((wrap64 ((Int.tmod x10 64) + 1)) : Int).toNat)).size : Int) then (monikerref34_Encode.j2 k x0 x2 x7 x8 x9 (((((x7.extract ((wrap64 (Int.tdiv x10 262144)) : Int).toNat ((wrap64 ((wrap64 (Int.tdiv x10 262144)) + 1)) : Int).toNat) ++ (x7.extract ((Int.tmod (wrap64 (Int.tdiv x10 4096)) 64) : Int).toNat ((wrap64 ((Int.tmod (wrap64 (Int.tdiv x10 4096)) 64) + 1)) : Int).toNat)) ++ (x7.extract ((Int.tmod (wrap64 (Int.tdiv x10 64)) 64) : Int).toNat ((wrap64 ((Int.tmod (wrap64 (Int.tdiv x10 64)) 64) + 1)) : Int).toNat)) ++ (x7.extract ((Int.tmod x10 64) : Int).toNat ((wrap64 ((Int.tmod x10 64) + 1)) : Int).toNat)).extract 0 ((wrap64 ((wrap64 ((x0.length : Int) - x9)) + 1)) : Int).toNat)) else (none)) else (none)) else (monikerref34_Encode.j2 k x0 x2 x7 x8 x9 ((((x7.extract ((wrap64 (Int.tdiv x10 262144)) : Int).toNat ((wrap64 ((wrap64 (Int.tdiv x10 262144)) + 1)) : Int).toNat) ++ (x7.extract ((Int.tmod (wrap64 (Int.tdiv x10 4096)) 64) : Int).toNat ((wrap64 ((Int.tmod (wrap64 (Int.tdiv x10 4096)) 64) + 1)) : Int).toNat)) ++ (x7.extract ((Int.tmod (wrap64 (Int.tdiv x10 64)) 64) : Int).toNat ((wrap64 ((Int.tmod (wrap64 (Int.tdiv x10 64)) 64) + 1)) : Int).toNat)) ++ (x7.extract ((Int.tmod x10 64) : Int).toNat ((wrap64 ((Int.tmod x10 64) + 1)) : Int).toNat)))) else (none)) else (none)) else (none)) else (none)) else (none)) else (none)) else (none)) else (none)) else (none)) else (none)) else (none)) else (none)) else (none)) else (none)) else (none))
def monikerref34_Encode.j2 : Nat → List Int → Bool → ByteArray → ByteArray → Int → ByteArray → Option (ByteArray)
  | 0, _, _, _, _, _, _ => none
  | k + 1, x0, x2, x7, x8, x9, x12 => monikerref34_Encode.l2 k x0 x2 x7 x8 x9 x12
def monikerref34_Encode.l2 : Nat → List Int → Bool → ByteArray → ByteArray → Int → ByteArray → Option (ByteArray)
  | 0, _, _, _, _, _, _ => none
  | k + 1, x0, x2, x7, x8, x9, x12 => if x2 = true then (if (x12.size : Int) < 4 then (if x12.size + 1 ≤ 9223372036854775807 then (monikerref34_Encode.l2 k x0 x2 x7 x8 x9 (x12 ++ (⟨#[61]⟩ : ByteArray))) else (none)) else (if x8.size + x12.size ≤ 9223372036854775807 then (monikerref34_Encode.l0 k x0 x2 x7 (x8 ++ x12) (wrap64 (x9 + 3))) else (none))) else (if x8.size + x12.size ≤ 9223372036854775807 then (monikerref34_Encode.l0 k x0 x2 x7 (x8 ++ x12) (wrap64 (x9 + 3))) else (none))
end
def monikerref34_Encode.f (k : Nat) (l0 : List Int) (a1 : Bool) (a2 : Bool) : Option (ByteArray) := (monikerref34_signs.f a1).bind fun t127 => (monikerref34_Encode.l0 k l0 a2 t127 (⟨#[]⟩ : ByteArray) 0)
theorem monikerref34_Encode.mono_l : ∀ k, (∀ y0 y1 y2 y3 y4, LeO (monikerref34_Encode.l0 k y0 y1 y2 y3 y4) (monikerref34_Encode.l0 (k + 1) y0 y1 y2 y3 y4)) ∧ (∀ y0 y1 y2 y3 y4 y5 y6, LeO (monikerref34_Encode.l1 k y0 y1 y2 y3 y4 y5 y6) (monikerref34_Encode.l1 (k + 1) y0 y1 y2 y3 y4 y5 y6)) ∧ (∀ y0 y1 y2 y3 y4 y5, LeO (monikerref34_Encode.j2 k y0 y1 y2 y3 y4 y5) (monikerref34_Encode.j2 (k + 1) y0 y1 y2 y3 y4 y5)) ∧ (∀ y0 y1 y2 y3 y4 y5, LeO (monikerref34_Encode.l2 k y0 y1 y2 y3 y4 y5) (monikerref34_Encode.l2 (k + 1) y0 y1 y2 y3 y4 y5))
  | 0 => ⟨fun _ _ _ _ _ r h => by simp [monikerref34_Encode.l0] at h, fun _ _ _ _ _ _ _ r h => by simp [monikerref34_Encode.l1] at h, fun _ _ _ _ _ _ r h => by simp [monikerref34_Encode.j2] at h, fun _ _ _ _ _ _ r h => by simp [monikerref34_Encode.l2] at h⟩
  | k + 1 => by
    obtain ⟨ih0, ih1, ih2, ih3⟩ := monikerref34_Encode.mono_l k
    refine ⟨?_, ?_, ?_, ?_⟩
    · intro y0 y1 y2 y3 y4
      unfold monikerref34_Encode.l0
      repeat' first
      | (with_reducible exact ih0 _ _ _ _ _)
      | (with_reducible exact ih1 _ _ _ _ _ _ _)
      | (with_reducible exact ih2 _ _ _ _ _ _)
      | (with_reducible exact ih3 _ _ _ _ _ _)
      | (with_reducible exact LeO.refl _)
      | (with_reducible exact LeO.none _)
      | (with_reducible refine LeO.ite ?_ ?_)
      | (with_reducible refine LeO.bind ?_ (fun _ => ?_))
      | exact ih0 _ _ _ _ _
      | exact ih1 _ _ _ _ _ _ _
      | exact ih2 _ _ _ _ _ _
      | exact ih3 _ _ _ _ _ _
      | exact LeO.none _
      | refine LeO.ite ?_ ?_
      | refine LeO.bind ?_ (fun _ => ?_)
    · intro y0 y1 y2 y3 y4 y5 y6
      unfold monikerref34_Encode.l1
      repeat' first
      | (with_reducible exact ih0 _ _ _ _ _)
      | (with_reducible exact ih1 _ _ _ _ _ _ _)
      | (with_reducible exact ih2 _ _ _ _ _ _)
      | (with_reducible exact ih3 _ _ _ _ _ _)
      | (with_reducible exact LeO.refl _)
      | (with_reducible exact LeO.none _)
      | (with_reducible refine LeO.ite ?_ ?_)
      | (with_reducible refine LeO.bind ?_ (fun _ => ?_))
      | exact ih0 _ _ _ _ _
      | exact ih1 _ _ _ _ _ _ _
      | exact ih2 _ _ _ _ _ _
      | exact ih3 _ _ _ _ _ _
      | exact LeO.none _
      | refine LeO.ite ?_ ?_
      | refine LeO.bind ?_ (fun _ => ?_)
    · intro y0 y1 y2 y3 y4 y5
      unfold monikerref34_Encode.j2
      repeat' first
      | (with_reducible exact ih0 _ _ _ _ _)
      | (with_reducible exact ih1 _ _ _ _ _ _ _)
      | (with_reducible exact ih2 _ _ _ _ _ _)
      | (with_reducible exact ih3 _ _ _ _ _ _)
      | (with_reducible exact LeO.refl _)
      | (with_reducible exact LeO.none _)
      | (with_reducible refine LeO.ite ?_ ?_)
      | (with_reducible refine LeO.bind ?_ (fun _ => ?_))
      | exact ih0 _ _ _ _ _
      | exact ih1 _ _ _ _ _ _ _
      | exact ih2 _ _ _ _ _ _
      | exact ih3 _ _ _ _ _ _
      | exact LeO.none _
      | refine LeO.ite ?_ ?_
      | refine LeO.bind ?_ (fun _ => ?_)
    · intro y0 y1 y2 y3 y4 y5
      unfold monikerref34_Encode.l2
      repeat' first
      | (with_reducible exact ih0 _ _ _ _ _)
      | (with_reducible exact ih1 _ _ _ _ _ _ _)
      | (with_reducible exact ih2 _ _ _ _ _ _)
      | (with_reducible exact ih3 _ _ _ _ _ _)
      | (with_reducible exact LeO.refl _)
      | (with_reducible exact LeO.none _)
      | (with_reducible refine LeO.ite ?_ ?_)
      | (with_reducible refine LeO.bind ?_ (fun _ => ?_))
      | exact ih0 _ _ _ _ _
      | exact ih1 _ _ _ _ _ _ _
      | exact ih2 _ _ _ _ _ _
      | exact ih3 _ _ _ _ _ _
      | exact LeO.none _
      | refine LeO.ite ?_ ?_
      | refine LeO.bind ?_ (fun _ => ?_)
theorem monikerref34_Encode.mono : ∀ a0 a1 a2 k, LeO (monikerref34_Encode.f k a0 a1 a2) (monikerref34_Encode.f (k + 1) a0 a1 a2) := by
  intro a0 a1 a2 k
  obtain ⟨ih0, ih1, ih2, ih3⟩ := monikerref34_Encode.mono_l k
  unfold monikerref34_Encode.f
  repeat' first
      | (with_reducible exact ih0 _ _ _ _ _)
      | (with_reducible exact ih1 _ _ _ _ _ _ _)
      | (with_reducible exact ih2 _ _ _ _ _ _)
      | (with_reducible exact ih3 _ _ _ _ _ _)
      | (with_reducible exact LeO.refl _)
      | (with_reducible exact LeO.none _)
      | (with_reducible refine LeO.ite ?_ ?_)
      | (with_reducible refine LeO.bind ?_ (fun _ => ?_))
      | exact ih0 _ _ _ _ _
      | exact ih1 _ _ _ _ _ _ _
      | exact ih2 _ _ _ _ _ _
      | exact ih3 _ _ _ _ _ _
      | exact LeO.none _
      | refine LeO.ite ?_ ?_
      | refine LeO.bind ?_ (fun _ => ?_)
set_option maxHeartbeats 8000000 in
set_option maxRecDepth 100000 in
theorem monikerref34_Encode.calls (k : Nat) (A0 : Option Addr) (c0 : Nat) (l0 : List Int) (a1 : Bool) (a2 : Bool) (r : ByteArray) (w : World) (hr0 : Kd.C (Kd.int .u8) w A0 l0.length l0) (hc0 : l0.length ≤ c0) (h : monikerref34_Encode.f k l0 a1 a2 = some r) :
    Calls Tryd.prog 9 #[.slice A0 l0.length c0, .bool a1, .bool a2] w fun e w' => e = .returned (.string r) ∧ Drawn0 w w' := by
  have HR0 := Aside0.mk hr0
  have HC0 := Aside0.mk hc0
  clear hr0 hc0
  have H : ((monikerref34_signs.f a1).bind fun t127 => (monikerref34_Encode.l0 k l0 a2 t127 (⟨#[]⟩ : ByteArray) 0)) = some r := h
  clear h
  replace H := Option.bind_eq_some_iff.mp H
  obtain ⟨t127, A40, H⟩ := H
  replace H : (monikerref34_Encode.l0 k l0 a2 t127 (⟨#[]⟩ : ByteArray) 0) = some r := H
  have A4 := Aside0.mk A40
  clear A40
  have H' := Aside0.mk H
  clear H
  go_enter Tryd.func9, Tryd.ntmps9
  go_wp2_with (first | (go_at_call 15; (with_reducible refine (monikerref34_signs.calls a1 t127 _ A4.out).mono ?_); rintro e w' ⟨rfl, ⟨nd, rfl⟩⟩; (try first | exact ⟨rfl, _, World.drewN_drewN _ _ _⟩ | exact ⟨rfl, _, Eq.trans (World.drewN_drewN _ _ _) (congrArg (World.drewN _) (Nat.add_assoc _ _ _))⟩)))
  repeat (go_quiet (first | (go_at_call 15; (with_reducible refine (monikerref34_signs.calls a1 t127 _ A4.out).mono ?_); rintro e w' ⟨rfl, ⟨nd, rfl⟩⟩; (try first | exact ⟨rfl, _, World.drewN_drewN _ _ _⟩ | exact ⟨rfl, _, Eq.trans (World.drewN_drewN _ _ _) (congrArg (World.drewN _) (Nat.add_assoc _ _ _))⟩))); try go_wp2_with (first | (go_at_call 15; (with_reducible refine (monikerref34_signs.calls a1 t127 _ A4.out).mono ?_); rintro e w' ⟨rfl, ⟨nd, rfl⟩⟩; (try first | exact ⟨rfl, _, World.drewN_drewN _ _ _⟩ | exact ⟨rfl, _, Eq.trans (World.drewN_drewN _ _ _) (congrArg (World.drewN _) (Nat.add_assoc _ _ _))⟩))))
  go_loopg [8, 9] k (fun kq v8 v9 w' => ∃ (x8_1 : ByteArray) (x9_1 : Int), v8 = .string x8_1 ∧ v9 = .int .i64 x9_1 ∧ Aside0 (monikerref34_Encode.l0 kq l0 a2 t127 x8_1 x9_1 = some r) ∧ Aside0 (kq ≤ k) ∧ Drawn0 w w')
  case atStart => exact ⟨((⟨#[]⟩ : ByteArray)), (0), (by first | rfl | (simp; done) | (simp [*]; done)), (by first | rfl | (simp; done) | (simp [*]; done)), H', ⟨Nat.le_refl _⟩, by repeat (first | exact Drawn0.refl _ | apply Drawn0.step)⟩
  case round =>
    clear H'
    try clear p2
    obtain ⟨x8_1, x9_1, rfl, rfl, HA, HK1, ⟨m1, rfl⟩⟩ := hrel
    cases gk with
    | zero => exact absurd HA.out (by simp [monikerref34_Encode.l0])
    | succ k1 =>
      have H := HA.out
      clear HA
      simp only [monikerref34_Encode.l0] at H
      by_cases c5 : x9_1 < (l0.length : Int)
      · rw [if_pos c5] at H
        have c5b0 : decide (x9_1 < (l0.length : Int)) = true := decide_eq_true c5
        clear c5
        have H' := Aside0.mk H
        clear H
        go_wp2
        repeat (go_quiet (fail); try go_wp2)
        go_loopg [10, 11] k1 (fun kq v10 v11 w' => ∃ (x10_2 : Int) (x11_2 : Int), v10 = .int .i64 x10_2 ∧ v11 = .int .i64 x11_2 ∧ Aside0 (monikerref34_Encode.l1 kq l0 a2 t127 x8_1 x9_1 x10_2 x11_2 = some r) ∧ Aside0 (kq ≤ k1) ∧ Drawn0 w w')
        case atStart => exact ⟨(0), (0), (by first | rfl | (simp; done) | (simp [*]; done)), (by first | rfl | (simp; done) | (simp [*]; done)), H', ⟨Nat.le_refl _⟩, by repeat (first | exact Drawn0.refl _ | apply Drawn0.step)⟩
        case round =>
          clear H'
          try clear p2
          try clear c5
          try clear c5b0
          try clear p2
          obtain ⟨x10_2, x11_2, rfl, rfl, HA, HK2, ⟨m2, rfl⟩⟩ := hrel
          cases gk with
          | zero => exact absurd HA.out (by simp [monikerref34_Encode.l1])
          | succ k2 =>
            have H := HA.out
            clear HA
            simp only [monikerref34_Encode.l1] at H
            by_cases c6 : x11_2 < 3
            · rw [if_pos c6] at H
              have c6b0 : decide (x11_2 < 3) = true := decide_eq_true c6
              clear c6
              by_cases c7 : (wrap64 (x9_1 + x11_2)) < (l0.length : Int)
              · rw [if_pos c7] at H
                have c7b0 : decide ((wrap64 (x9_1 + x11_2)) < (l0.length : Int)) = true := decide_eq_true c7
                clear c7
                obtain ⟨ji8, hji8⟩ : ∃ j_ : Int, (wrap64 (x9_1 + x11_2)) = j_ := ⟨_, rfl⟩
                replace H : (if 0 ≤ (ji8) then (monikerref34_Encode.l1 k2 l0 a2 t127 x8_1 x9_1 (wrap64 ((wrap64 (256 * x10_2)) + (wrap64 (rd l0 (ji8))))) (wrap64 (x11_2 + 1))) else (none)) = some r := by first | (rw [hji8] at H; exact H) | (simp only [hji8] at H ⊢; exact H)
                (try rw [hji8] at c7b0)
                have hji8w : (IntKind.i64.wrap (x9_1 + x11_2)) = ji8 := (i64_w _).trans hji8
                by_cases c9 : 0 ≤ (ji8)
                · rw [if_pos c9] at H
                  have c9b0 : decide (0 ≤ (ji8)) = true := decide_eq_true c9
                  clear c9
                  have H' := Aside0.mk H
                  clear H
                  have p128 : 0 ≤ ((ji8) : Int) := of_decide_eq_true (by first | (with_reducible assumption) | assumption)
                  have q128 : (ji8) < (l0.length : Int) := of_decide_eq_true (by first | (with_reducible assumption) | assumption)
                  obtain ⟨ad128, e128, hx128_0⟩ := Kd.at_int HR0.out (ji8) p128 q128
                  cases e128
                  replace p128 := eq_true p128
                  replace q128 := eq_true q128
                  go_wp2
                  repeat (go_quiet (fail); try go_wp2)
                  go_roundg k2
                  case measure => have := HK1.out; have := HK2.out; omega
                  case rel => exact ⟨(wrap64 ((wrap64 (256 * x10_2)) + (wrap64 (rd l0 (ji8))))), (wrap64 (x11_2 + 1)), (by first | rfl | (simp; done) | (simp only [← hji8] <;> (first | rfl | simp)) | (simp [*]; done)), (by first | rfl | (simp; done) | (simp [*]; done)), H', ⟨by have := HK1.out; have := HK2.out; omega⟩, by repeat (first | exact Drawn0.refl _ | apply Drawn0.step)⟩
                · rw [if_neg c9] at H
                  exact absurd H (by simp)
              · rw [if_neg c7] at H
                have c7b0 : decide ((wrap64 (x9_1 + x11_2)) < (l0.length : Int)) = false := decide_eq_false c7
                clear c7
                have H' := Aside0.mk H
                clear H
                go_wp2
                repeat (go_quiet (fail); try go_wp2)
                go_roundg k2
                case measure => have := HK1.out; have := HK2.out; omega
                case rel => exact ⟨(wrap64 (256 * x10_2)), (wrap64 (x11_2 + 1)), (by first | rfl | (simp; done) | (simp [*]; done)), (by first | rfl | (simp; done) | (simp [*]; done)), H', ⟨by have := HK1.out; have := HK2.out; omega⟩, by repeat (first | exact Drawn0.refl _ | apply Drawn0.step)⟩
            · rw [if_neg c6] at H
              have c6b0 : decide (x11_2 < 3) = false := decide_eq_false c6
              clear c6
              obtain ⟨ji10, hji10⟩ : ∃ j_ : Int, (wrap64 (Int.tdiv x10_2 262144)) = j_ := ⟨_, rfl⟩
              replace H : (if 0 ≤ (ji10) then (if (ji10) ≤ (wrap64 ((ji10) + 1)) then (if (wrap64 ((ji10) + 1)) ≤ (t127.size : Int) then (if 0 ≤ (Int.tmod (wrap64 (Int.tdiv x10_2 4096)) 64) then (if (Int.tmod (wrap64 (Int.tdiv x10_2 4096)) 64) ≤ (wrap64 ((Int.tmod (wrap64 (Int.tdiv x10_2 4096)) 64) + 1)) then (if (wrap64 ((Int.tmod (wrap64 (Int.tdiv x10_2 4096)) 64) + 1)) ≤ (t127.size : Int) then (if (t127.extract ((ji10) : Int).toNat ((wrap64 ((ji10) + 1)) : Int).toNat).size + (t127.extract ((Int.tmod (wrap64 (Int.tdiv x10_2 4096)) 64) : Int).toNat ((wrap64 ((Int.tmod (wrap64 (Int.tdiv x10_2 4096)) 64) + 1)) : Int).toNat).size ≤ 9223372036854775807 then (if 0 ≤ (Int.tmod (wrap64 (Int.tdiv x10_2 64)) 64) then (if (Int.tmod (wrap64 (Int.tdiv x10_2 64)) 64) ≤ (wrap64 ((Int.tmod (wrap64 (Int.tdiv x10_2 64)) 64) + 1)) then (if (wrap64 ((Int.tmod (wrap64 (Int.tdiv x10_2 64)) 64) + 1)) ≤ (t127.size : Int) then (if ((t127.extract ((ji10) : Int).toNat ((wrap64 ((ji10) + 1)) : Int).toNat) ++ (t127.extract ((Int.tmod (wrap64 (Int.tdiv x10_2 4096)) 64) : Int).toNat ((wrap64 ((Int.tmod (wrap64 (Int.tdiv x10_2 4096)) 64) + 1)) : Int).toNat)).size + (t127.extract ((Int.tmod (wrap64 (Int.tdiv x10_2 64)) 64) : Int).toNat ((wrap64 ((Int.tmod (wrap64 (Int.tdiv x10_2 64)) 64) + 1)) : Int).toNat).size ≤ 9223372036854775807 then (if 0 ≤ (Int.tmod x10_2 64) then (if (Int.tmod x10_2 64) ≤ (wrap64 ((Int.tmod x10_2 64) + 1)) then (if (wrap64 ((Int.tmod x10_2 64) + 1)) ≤ (t127.size : Int) then (if (((t127.extract ((ji10) : Int).toNat ((wrap64 ((ji10) + 1)) : Int).toNat) ++ (t127.extract ((Int.tmod (wrap64 (Int.tdiv x10_2 4096)) 64) : Int).toNat ((wrap64 ((Int.tmod (wrap64 (Int.tdiv x10_2 4096)) 64) + 1)) : Int).toNat)) ++ (t127.extract ((Int.tmod (wrap64 (Int.tdiv x10_2 64)) 64) : Int).toNat ((wrap64 ((Int.tmod (wrap64 (Int.tdiv x10_2 64)) 64) + 1)) : Int).toNat)).size + (t127.extract ((Int.tmod x10_2 64) : Int).toNat ((wrap64 ((Int.tmod x10_2 64) + 1)) : Int).toNat).size ≤ 9223372036854775807 then (if (wrap64 ((l0.length : Int) - x9_1)) < 3 then (if 0 ≤ (wrap64 ((wrap64 ((l0.length : Int) - x9_1)) + 1)) then (if (wrap64 ((wrap64 ((l0.length : Int) - x9_1)) + 1)) ≤ (((((t127.extract ((ji10) : Int).toNat ((wrap64 ((ji10) + 1)) : Int).toNat) ++ (t127.extract ((Int.tmod (wrap64 (Int.tdiv x10_2 4096)) 64) : Int).toNat ((wrap64 ((Int.tmod (wrap64 (Int.tdiv x10_2 4096)) 64) + 1)) : Int).toNat)) ++ (t127.extract ((Int.tmod (wrap64 (Int.tdiv x10_2 64)) 64) : Int).toNat ((wrap64 ((Int.tmod (wrap64 (Int.tdiv x10_2 64)) 64) + 1)) : Int).toNat)) ++ (t127.extract ((Int.tmod x10_2 64) : Int).toNat ((wrap64 ((Int.tmod x10_2 64) + 1)) : Int).toNat)).size : Int) then (monikerref34_Encode.j2 k2 l0 a2 t127 x8_1 x9_1 (((((t127.extract ((ji10) : Int).toNat ((wrap64 ((ji10) + 1)) : Int).toNat) ++ (t127.extract ((Int.tmod (wrap64 (Int.tdiv x10_2 4096)) 64) : Int).toNat ((wrap64 ((Int.tmod (wrap64 (Int.tdiv x10_2 4096)) 64) + 1)) : Int).toNat)) ++ (t127.extract ((Int.tmod (wrap64 (Int.tdiv x10_2 64)) 64) : Int).toNat ((wrap64 ((Int.tmod (wrap64 (Int.tdiv x10_2 64)) 64) + 1)) : Int).toNat)) ++ (t127.extract ((Int.tmod x10_2 64) : Int).toNat ((wrap64 ((Int.tmod x10_2 64) + 1)) : Int).toNat)).extract 0 ((wrap64 ((wrap64 ((l0.length : Int) - x9_1)) + 1)) : Int).toNat)) else (none)) else (none)) else (monikerref34_Encode.j2 k2 l0 a2 t127 x8_1 x9_1 ((((t127.extract ((ji10) : Int).toNat ((wrap64 ((ji10) + 1)) : Int).toNat) ++ (t127.extract ((Int.tmod (wrap64 (Int.tdiv x10_2 4096)) 64) : Int).toNat ((wrap64 ((Int.tmod (wrap64 (Int.tdiv x10_2 4096)) 64) + 1)) : Int).toNat)) ++ (t127.extract ((Int.tmod (wrap64 (Int.tdiv x10_2 64)) 64) : Int).toNat ((wrap64 ((Int.tmod (wrap64 (Int.tdiv x10_2 64)) 64) + 1)) : Int).toNat)) ++ (t127.extract ((Int.tmod x10_2 64) : Int).toNat ((wrap64 ((Int.tmod x10_2 64) + 1)) : Int).toNat)))) else (none)) else (none)) else (none)) else (none)) else (none)) else (none)) else (none)) else (none)) else (none)) else (none)) else (none)) else (none)) else (none)) else (none)) else (none)) = some r := by first | (rw [hji10] at H; exact H) | (simp only [hji10] at H ⊢; exact H)
              have hji10w : (IntKind.i64.wrap (Int.tdiv x10_2 262144)) = ji10 := (i64_w _).trans hji10
              by_cases c11 : 0 ≤ (ji10)
              · rw [if_pos c11] at H
                have c11b0 := eq_true c11
                have c11b1 : decide (0 ≤ (ji10)) = true := decide_eq_true c11
                clear c11
                by_cases c12 : (ji10) ≤ (wrap64 ((ji10) + 1))
                · rw [if_pos c12] at H
                  have c12b0 := eq_true c12
                  have c12b1 : decide ((ji10) ≤ (wrap64 ((ji10) + 1))) = true := decide_eq_true c12
                  by_cases c13 : (wrap64 ((ji10) + 1)) ≤ (t127.size : Int)
                  · rw [if_pos c13] at H
                    have c13b0 := eq_true c13
                    have c13b1 : decide ((wrap64 ((ji10) + 1)) ≤ (t127.size : Int)) = true := decide_eq_true c13
                    obtain ⟨ji14, hji14⟩ : ∃ j_ : Int, (Int.tmod (wrap64 (Int.tdiv x10_2 4096)) 64) = j_ := ⟨_, rfl⟩
                    replace H : (if 0 ≤ (ji14) then (if (ji14) ≤ (wrap64 ((ji14) + 1)) then (if (wrap64 ((ji14) + 1)) ≤ (t127.size : Int) then (if (t127.extract ((ji10) : Int).toNat ((wrap64 ((ji10) + 1)) : Int).toNat).size + (t127.extract ((ji14) : Int).toNat ((wrap64 ((ji14) + 1)) : Int).toNat).size ≤ 9223372036854775807 then (if 0 ≤ (Int.tmod (wrap64 (Int.tdiv x10_2 64)) 64) then (if (Int.tmod (wrap64 (Int.tdiv x10_2 64)) 64) ≤ (wrap64 ((Int.tmod (wrap64 (Int.tdiv x10_2 64)) 64) + 1)) then (if (wrap64 ((Int.tmod (wrap64 (Int.tdiv x10_2 64)) 64) + 1)) ≤ (t127.size : Int) then (if ((t127.extract ((ji10) : Int).toNat ((wrap64 ((ji10) + 1)) : Int).toNat) ++ (t127.extract ((ji14) : Int).toNat ((wrap64 ((ji14) + 1)) : Int).toNat)).size + (t127.extract ((Int.tmod (wrap64 (Int.tdiv x10_2 64)) 64) : Int).toNat ((wrap64 ((Int.tmod (wrap64 (Int.tdiv x10_2 64)) 64) + 1)) : Int).toNat).size ≤ 9223372036854775807 then (if 0 ≤ (Int.tmod x10_2 64) then (if (Int.tmod x10_2 64) ≤ (wrap64 ((Int.tmod x10_2 64) + 1)) then (if (wrap64 ((Int.tmod x10_2 64) + 1)) ≤ (t127.size : Int) then (if (((t127.extract ((ji10) : Int).toNat ((wrap64 ((ji10) + 1)) : Int).toNat) ++ (t127.extract ((ji14) : Int).toNat ((wrap64 ((ji14) + 1)) : Int).toNat)) ++ (t127.extract ((Int.tmod (wrap64 (Int.tdiv x10_2 64)) 64) : Int).toNat ((wrap64 ((Int.tmod (wrap64 (Int.tdiv x10_2 64)) 64) + 1)) : Int).toNat)).size + (t127.extract ((Int.tmod x10_2 64) : Int).toNat ((wrap64 ((Int.tmod x10_2 64) + 1)) : Int).toNat).size ≤ 9223372036854775807 then (if (wrap64 ((l0.length : Int) - x9_1)) < 3 then (if 0 ≤ (wrap64 ((wrap64 ((l0.length : Int) - x9_1)) + 1)) then (if (wrap64 ((wrap64 ((l0.length : Int) - x9_1)) + 1)) ≤ (((((t127.extract ((ji10) : Int).toNat ((wrap64 ((ji10) + 1)) : Int).toNat) ++ (t127.extract ((ji14) : Int).toNat ((wrap64 ((ji14) + 1)) : Int).toNat)) ++ (t127.extract ((Int.tmod (wrap64 (Int.tdiv x10_2 64)) 64) : Int).toNat ((wrap64 ((Int.tmod (wrap64 (Int.tdiv x10_2 64)) 64) + 1)) : Int).toNat)) ++ (t127.extract ((Int.tmod x10_2 64) : Int).toNat ((wrap64 ((Int.tmod x10_2 64) + 1)) : Int).toNat)).size : Int) then (monikerref34_Encode.j2 k2 l0 a2 t127 x8_1 x9_1 (((((t127.extract ((ji10) : Int).toNat ((wrap64 ((ji10) + 1)) : Int).toNat) ++ (t127.extract ((ji14) : Int).toNat ((wrap64 ((ji14) + 1)) : Int).toNat)) ++ (t127.extract ((Int.tmod (wrap64 (Int.tdiv x10_2 64)) 64) : Int).toNat ((wrap64 ((Int.tmod (wrap64 (Int.tdiv x10_2 64)) 64) + 1)) : Int).toNat)) ++ (t127.extract ((Int.tmod x10_2 64) : Int).toNat ((wrap64 ((Int.tmod x10_2 64) + 1)) : Int).toNat)).extract 0 ((wrap64 ((wrap64 ((l0.length : Int) - x9_1)) + 1)) : Int).toNat)) else (none)) else (none)) else (monikerref34_Encode.j2 k2 l0 a2 t127 x8_1 x9_1 ((((t127.extract ((ji10) : Int).toNat ((wrap64 ((ji10) + 1)) : Int).toNat) ++ (t127.extract ((ji14) : Int).toNat ((wrap64 ((ji14) + 1)) : Int).toNat)) ++ (t127.extract ((Int.tmod (wrap64 (Int.tdiv x10_2 64)) 64) : Int).toNat ((wrap64 ((Int.tmod (wrap64 (Int.tdiv x10_2 64)) 64) + 1)) : Int).toNat)) ++ (t127.extract ((Int.tmod x10_2 64) : Int).toNat ((wrap64 ((Int.tmod x10_2 64) + 1)) : Int).toNat)))) else (none)) else (none)) else (none)) else (none)) else (none)) else (none)) else (none)) else (none)) else (none)) else (none)) else (none)) else (none)) = some r := by first | (rw [hji14] at H; exact H) | (simp only [hji14] at H ⊢; exact H)
                    by_cases c15 : 0 ≤ (ji14)
                    · rw [if_pos c15] at H
                      have c15b0 := eq_true c15
                      have c15b1 : decide (0 ≤ (ji14)) = true := decide_eq_true c15
                      clear c15
                      by_cases c16 : (ji14) ≤ (wrap64 ((ji14) + 1))
                      · rw [if_pos c16] at H
                        have c16b0 := eq_true c16
                        have c16b1 : decide ((ji14) ≤ (wrap64 ((ji14) + 1))) = true := decide_eq_true c16
                        by_cases c17 : (wrap64 ((ji14) + 1)) ≤ (t127.size : Int)
                        · rw [if_pos c17] at H
                          have c17b0 := eq_true c17
                          have c17b1 : decide ((wrap64 ((ji14) + 1)) ≤ (t127.size : Int)) = true := decide_eq_true c17
                          by_cases c18 : (t127.extract ((ji10) : Int).toNat ((wrap64 ((ji10) + 1)) : Int).toNat).size + (t127.extract ((ji14) : Int).toNat ((wrap64 ((ji14) + 1)) : Int).toNat).size ≤ 9223372036854775807
                          · rw [if_pos c18] at H
                            have c18b0 := eq_true c18
                            have c18b1 : decide ((t127.extract ((ji10) : Int).toNat ((wrap64 ((ji10) + 1)) : Int).toNat).size + (t127.extract ((ji14) : Int).toNat ((wrap64 ((ji14) + 1)) : Int).toNat).size ≤ 9223372036854775807) = true := decide_eq_true c18
                            try have c18b2 : (9223372036854775807 < (t127.extract ((ji10) : Int).toNat ((wrap64 ((ji10) + 1)) : Int).toNat).size + (t127.extract ((ji14) : Int).toNat ((wrap64 ((ji14) + 1)) : Int).toNat).size) = False := eq_false (Nat.not_lt.2 c18)
                            obtain ⟨ji19, hji19⟩ : ∃ j_ : Int, (Int.tmod (wrap64 (Int.tdiv x10_2 64)) 64) = j_ := ⟨_, rfl⟩
                            replace H : (if 0 ≤ (ji19) then (if (ji19) ≤ (wrap64 ((ji19) + 1)) then (if (wrap64 ((ji19) + 1)) ≤ (t127.size : Int) then (if ((t127.extract ((ji10) : Int).toNat ((wrap64 ((ji10) + 1)) : Int).toNat) ++ (t127.extract ((ji14) : Int).toNat ((wrap64 ((ji14) + 1)) : Int).toNat)).size + (t127.extract ((ji19) : Int).toNat ((wrap64 ((ji19) + 1)) : Int).toNat).size ≤ 9223372036854775807 then (if 0 ≤ (Int.tmod x10_2 64) then (if (Int.tmod x10_2 64) ≤ (wrap64 ((Int.tmod x10_2 64) + 1)) then (if (wrap64 ((Int.tmod x10_2 64) + 1)) ≤ (t127.size : Int) then (if (((t127.extract ((ji10) : Int).toNat ((wrap64 ((ji10) + 1)) : Int).toNat) ++ (t127.extract ((ji14) : Int).toNat ((wrap64 ((ji14) + 1)) : Int).toNat)) ++ (t127.extract ((ji19) : Int).toNat ((wrap64 ((ji19) + 1)) : Int).toNat)).size + (t127.extract ((Int.tmod x10_2 64) : Int).toNat ((wrap64 ((Int.tmod x10_2 64) + 1)) : Int).toNat).size ≤ 9223372036854775807 then (if (wrap64 ((l0.length : Int) - x9_1)) < 3 then (if 0 ≤ (wrap64 ((wrap64 ((l0.length : Int) - x9_1)) + 1)) then (if (wrap64 ((wrap64 ((l0.length : Int) - x9_1)) + 1)) ≤ (((((t127.extract ((ji10) : Int).toNat ((wrap64 ((ji10) + 1)) : Int).toNat) ++ (t127.extract ((ji14) : Int).toNat ((wrap64 ((ji14) + 1)) : Int).toNat)) ++ (t127.extract ((ji19) : Int).toNat ((wrap64 ((ji19) + 1)) : Int).toNat)) ++ (t127.extract ((Int.tmod x10_2 64) : Int).toNat ((wrap64 ((Int.tmod x10_2 64) + 1)) : Int).toNat)).size : Int) then (monikerref34_Encode.j2 k2 l0 a2 t127 x8_1 x9_1 (((((t127.extract ((ji10) : Int).toNat ((wrap64 ((ji10) + 1)) : Int).toNat) ++ (t127.extract ((ji14) : Int).toNat ((wrap64 ((ji14) + 1)) : Int).toNat)) ++ (t127.extract ((ji19) : Int).toNat ((wrap64 ((ji19) + 1)) : Int).toNat)) ++ (t127.extract ((Int.tmod x10_2 64) : Int).toNat ((wrap64 ((Int.tmod x10_2 64) + 1)) : Int).toNat)).extract 0 ((wrap64 ((wrap64 ((l0.length : Int) - x9_1)) + 1)) : Int).toNat)) else (none)) else (none)) else (monikerref34_Encode.j2 k2 l0 a2 t127 x8_1 x9_1 ((((t127.extract ((ji10) : Int).toNat ((wrap64 ((ji10) + 1)) : Int).toNat) ++ (t127.extract ((ji14) : Int).toNat ((wrap64 ((ji14) + 1)) : Int).toNat)) ++ (t127.extract ((ji19) : Int).toNat ((wrap64 ((ji19) + 1)) : Int).toNat)) ++ (t127.extract ((Int.tmod x10_2 64) : Int).toNat ((wrap64 ((Int.tmod x10_2 64) + 1)) : Int).toNat)))) else (none)) else (none)) else (none)) else (none)) else (none)) else (none)) else (none)) else (none)) = some r := by first | (rw [hji19] at H; exact H) | (simp only [hji19] at H ⊢; exact H)
                            by_cases c20 : 0 ≤ (ji19)
                            · rw [if_pos c20] at H
                              have c20b0 := eq_true c20
                              have c20b1 : decide (0 ≤ (ji19)) = true := decide_eq_true c20
                              clear c20
                              by_cases c21 : (ji19) ≤ (wrap64 ((ji19) + 1))
                              · rw [if_pos c21] at H
                                have c21b0 := eq_true c21
                                have c21b1 : decide ((ji19) ≤ (wrap64 ((ji19) + 1))) = true := decide_eq_true c21
                                by_cases c22 : (wrap64 ((ji19) + 1)) ≤ (t127.size : Int)
                                · rw [if_pos c22] at H
                                  have c22b0 := eq_true c22
                                  have c22b1 : decide ((wrap64 ((ji19) + 1)) ≤ (t127.size : Int)) = true := decide_eq_true c22
                                  by_cases c23 : ((t127.extract ((ji10) : Int).toNat ((wrap64 ((ji10) + 1)) : Int).toNat) ++ (t127.extract ((ji14) : Int).toNat ((wrap64 ((ji14) + 1)) : Int).toNat)).size + (t127.extract ((ji19) : Int).toNat ((wrap64 ((ji19) + 1)) : Int).toNat).size ≤ 9223372036854775807
                                  · rw [if_pos c23] at H
                                    have c23b0 := eq_true c23
                                    have c23b1 : decide (((t127.extract ((ji10) : Int).toNat ((wrap64 ((ji10) + 1)) : Int).toNat) ++ (t127.extract ((ji14) : Int).toNat ((wrap64 ((ji14) + 1)) : Int).toNat)).size + (t127.extract ((ji19) : Int).toNat ((wrap64 ((ji19) + 1)) : Int).toNat).size ≤ 9223372036854775807) = true := decide_eq_true c23
                                    try have c23b2 : (9223372036854775807 < ((t127.extract ((ji10) : Int).toNat ((wrap64 ((ji10) + 1)) : Int).toNat) ++ (t127.extract ((ji14) : Int).toNat ((wrap64 ((ji14) + 1)) : Int).toNat)).size + (t127.extract ((ji19) : Int).toNat ((wrap64 ((ji19) + 1)) : Int).toNat).size) = False := eq_false (Nat.not_lt.2 c23)
                                    obtain ⟨ji24, hji24⟩ : ∃ j_ : Int, (Int.tmod x10_2 64) = j_ := ⟨_, rfl⟩
                                    replace H : (if 0 ≤ (ji24) then (if (ji24) ≤ (wrap64 ((ji24) + 1)) then (if (wrap64 ((ji24) + 1)) ≤ (t127.size : Int) then (if (((t127.extract ((ji10) : Int).toNat ((wrap64 ((ji10) + 1)) : Int).toNat) ++ (t127.extract ((ji14) : Int).toNat ((wrap64 ((ji14) + 1)) : Int).toNat)) ++ (t127.extract ((ji19) : Int).toNat ((wrap64 ((ji19) + 1)) : Int).toNat)).size + (t127.extract ((ji24) : Int).toNat ((wrap64 ((ji24) + 1)) : Int).toNat).size ≤ 9223372036854775807 then (if (wrap64 ((l0.length : Int) - x9_1)) < 3 then (if 0 ≤ (wrap64 ((wrap64 ((l0.length : Int) - x9_1)) + 1)) then (if (wrap64 ((wrap64 ((l0.length : Int) - x9_1)) + 1)) ≤ (((((t127.extract ((ji10) : Int).toNat ((wrap64 ((ji10) + 1)) : Int).toNat) ++ (t127.extract ((ji14) : Int).toNat ((wrap64 ((ji14) + 1)) : Int).toNat)) ++ (t127.extract ((ji19) : Int).toNat ((wrap64 ((ji19) + 1)) : Int).toNat)) ++ (t127.extract ((ji24) : Int).toNat ((wrap64 ((ji24) + 1)) : Int).toNat)).size : Int) then (monikerref34_Encode.j2 k2 l0 a2 t127 x8_1 x9_1 (((((t127.extract ((ji10) : Int).toNat ((wrap64 ((ji10) + 1)) : Int).toNat) ++ (t127.extract ((ji14) : Int).toNat ((wrap64 ((ji14) + 1)) : Int).toNat)) ++ (t127.extract ((ji19) : Int).toNat ((wrap64 ((ji19) + 1)) : Int).toNat)) ++ (t127.extract ((ji24) : Int).toNat ((wrap64 ((ji24) + 1)) : Int).toNat)).extract 0 ((wrap64 ((wrap64 ((l0.length : Int) - x9_1)) + 1)) : Int).toNat)) else (none)) else (none)) else (monikerref34_Encode.j2 k2 l0 a2 t127 x8_1 x9_1 ((((t127.extract ((ji10) : Int).toNat ((wrap64 ((ji10) + 1)) : Int).toNat) ++ (t127.extract ((ji14) : Int).toNat ((wrap64 ((ji14) + 1)) : Int).toNat)) ++ (t127.extract ((ji19) : Int).toNat ((wrap64 ((ji19) + 1)) : Int).toNat)) ++ (t127.extract ((ji24) : Int).toNat ((wrap64 ((ji24) + 1)) : Int).toNat)))) else (none)) else (none)) else (none)) else (none)) = some r := by first | (rw [hji24] at H; exact H) | (simp only [hji24] at H ⊢; exact H)
                                    by_cases c25 : 0 ≤ (ji24)
                                    · rw [if_pos c25] at H
                                      have c25b0 := eq_true c25
                                      have c25b1 : decide (0 ≤ (ji24)) = true := decide_eq_true c25
                                      clear c25
                                      by_cases c26 : (ji24) ≤ (wrap64 ((ji24) + 1))
                                      · rw [if_pos c26] at H
                                        have c26b0 := eq_true c26
                                        have c26b1 : decide ((ji24) ≤ (wrap64 ((ji24) + 1))) = true := decide_eq_true c26
                                        by_cases c27 : (wrap64 ((ji24) + 1)) ≤ (t127.size : Int)
                                        · rw [if_pos c27] at H
                                          have c27b0 := eq_true c27
                                          have c27b1 : decide ((wrap64 ((ji24) + 1)) ≤ (t127.size : Int)) = true := decide_eq_true c27
                                          by_cases c28 : (((t127.extract ((ji10) : Int).toNat ((wrap64 ((ji10) + 1)) : Int).toNat) ++ (t127.extract ((ji14) : Int).toNat ((wrap64 ((ji14) + 1)) : Int).toNat)) ++ (t127.extract ((ji19) : Int).toNat ((wrap64 ((ji19) + 1)) : Int).toNat)).size + (t127.extract ((ji24) : Int).toNat ((wrap64 ((ji24) + 1)) : Int).toNat).size ≤ 9223372036854775807
                                          · rw [if_pos c28] at H
                                            have c28b0 := eq_true c28
                                            have c28b1 : decide ((((t127.extract ((ji10) : Int).toNat ((wrap64 ((ji10) + 1)) : Int).toNat) ++ (t127.extract ((ji14) : Int).toNat ((wrap64 ((ji14) + 1)) : Int).toNat)) ++ (t127.extract ((ji19) : Int).toNat ((wrap64 ((ji19) + 1)) : Int).toNat)).size + (t127.extract ((ji24) : Int).toNat ((wrap64 ((ji24) + 1)) : Int).toNat).size ≤ 9223372036854775807) = true := decide_eq_true c28
                                            try have c28b2 : (9223372036854775807 < (((t127.extract ((ji10) : Int).toNat ((wrap64 ((ji10) + 1)) : Int).toNat) ++ (t127.extract ((ji14) : Int).toNat ((wrap64 ((ji14) + 1)) : Int).toNat)) ++ (t127.extract ((ji19) : Int).toNat ((wrap64 ((ji19) + 1)) : Int).toNat)).size + (t127.extract ((ji24) : Int).toNat ((wrap64 ((ji24) + 1)) : Int).toNat).size) = False := eq_false (Nat.not_lt.2 c28)
                                            have HC29 := Aside0.mk H
                                            clear H
                                            go_upto_if 83 with (fail)
                                            repeat (go_quiet (fail); go_upto_if 83 with (fail))
                                            go_cut [12] (fun v12 wc => ∃ (kq : Nat) (x12_28 : ByteArray), v12 = .string x12_28 ∧ Aside0 (monikerref34_Encode.j2 kq l0 a2 t127 x8_1 x9_1 x12_28 = some r) ∧ Aside0 (kq ≤ k2) ∧ Drawn0 w wc)
                                            case first =>
                                              have H := HC29.out
                                              clear HC29
                                              by_cases c30 : (wrap64 ((l0.length : Int) - x9_1)) < 3
                                              · rw [if_pos c30] at H
                                                have c30b0 : decide ((wrap64 ((l0.length : Int) - x9_1)) < 3) = true := decide_eq_true c30
                                                clear c30
                                                (first | rw [c30b0] | (simp only [i64_w, i32_w]; rw [c30b0]) | skip)
                                                obtain ⟨ji31, hji31⟩ : ∃ j_ : Int, (wrap64 ((wrap64 ((l0.length : Int) - x9_1)) + 1)) = j_ := ⟨_, rfl⟩
                                                replace H : (if 0 ≤ (ji31) then (if (ji31) ≤ (((((t127.extract ((ji10) : Int).toNat ((wrap64 ((ji10) + 1)) : Int).toNat) ++ (t127.extract ((ji14) : Int).toNat ((wrap64 ((ji14) + 1)) : Int).toNat)) ++ (t127.extract ((ji19) : Int).toNat ((wrap64 ((ji19) + 1)) : Int).toNat)) ++ (t127.extract ((ji24) : Int).toNat ((wrap64 ((ji24) + 1)) : Int).toNat)).size : Int) then (monikerref34_Encode.j2 k2 l0 a2 t127 x8_1 x9_1 (((((t127.extract ((ji10) : Int).toNat ((wrap64 ((ji10) + 1)) : Int).toNat) ++ (t127.extract ((ji14) : Int).toNat ((wrap64 ((ji14) + 1)) : Int).toNat)) ++ (t127.extract ((ji19) : Int).toNat ((wrap64 ((ji19) + 1)) : Int).toNat)) ++ (t127.extract ((ji24) : Int).toNat ((wrap64 ((ji24) + 1)) : Int).toNat)).extract 0 ((ji31) : Int).toNat)) else (none)) else (none)) = some r := by first | (rw [hji31] at H; exact H) | (simp only [hji31] at H ⊢; exact H)
                                                have hji31w : (IntKind.i64.wrap ((wrap64 ((l0.length : Int) - x9_1)) + 1)) = ji31 := (i64_w _).trans hji31
                                                by_cases c32 : 0 ≤ (ji31)
                                                · rw [if_pos c32] at H
                                                  have c32b0 := eq_true c32
                                                  have c32b1 : decide (0 ≤ (ji31)) = true := decide_eq_true c32
                                                  clear c32
                                                  by_cases c33 : (ji31) ≤ (((((t127.extract ((ji10) : Int).toNat ((wrap64 ((ji10) + 1)) : Int).toNat) ++ (t127.extract ((ji14) : Int).toNat ((wrap64 ((ji14) + 1)) : Int).toNat)) ++ (t127.extract ((ji19) : Int).toNat ((wrap64 ((ji19) + 1)) : Int).toNat)) ++ (t127.extract ((ji24) : Int).toNat ((wrap64 ((ji24) + 1)) : Int).toNat)).size : Int)
                                                  · rw [if_pos c33] at H
                                                    have c33b0 := eq_true c33
                                                    have c33b1 : decide ((ji31) ≤ (((((t127.extract ((ji10) : Int).toNat ((wrap64 ((ji10) + 1)) : Int).toNat) ++ (t127.extract ((ji14) : Int).toNat ((wrap64 ((ji14) + 1)) : Int).toNat)) ++ (t127.extract ((ji19) : Int).toNat ((wrap64 ((ji19) + 1)) : Int).toNat)) ++ (t127.extract ((ji24) : Int).toNat ((wrap64 ((ji24) + 1)) : Int).toNat)).size : Int)) = true := decide_eq_true c33
                                                    have c33b5 : (ji31 ≤ (((wrap64 (ji10 + 1)).toNat - (ji10).toNat : Nat) : Int) + (((wrap64 (ji14 + 1)).toNat - (ji14).toNat : Nat) : Int) + (((wrap64 (ji19 + 1)).toNat - (ji19).toNat : Nat) : Int) + (((wrap64 (ji24 + 1)).toNat - (ji24).toNat : Nat) : Int)) = True := eq_true (by have h_ := c33; simp only [ByteArray.size_append, ByteArray.size_extract] at h_; omega)
                                                    have c33b6 : ((((wrap64 (ji10 + 1)).toNat - (ji10).toNat : Nat) : Int) + (((wrap64 (ji14 + 1)).toNat - (ji14).toNat : Nat) : Int) + (((wrap64 (ji19 + 1)).toNat - (ji19).toNat : Nat) : Int) + (((wrap64 (ji24 + 1)).toNat - (ji24).toNat : Nat) : Int) < ji31) = False := eq_false (by have h_ := c33; simp only [ByteArray.size_append, ByteArray.size_extract] at h_; omega)
                                                    have c33b5 : (ji31 ≤ (((wrap64 (ji10 + 1)).toNat - (ji10).toNat : Nat) : Int) + (((wrap64 (ji14 + 1)).toNat - (ji14).toNat : Nat) : Int) + (((wrap64 (ji19 + 1)).toNat - (ji19).toNat : Nat) : Int) + (((wrap64 (ji24 + 1)).toNat - (ji24).toNat : Nat) : Int)) = True := eq_true (by have h_ := c33; simp only [ByteArray.size_append, ByteArray.size_extract] at h_; omega)
                                                    have c33b6 : ((((wrap64 (ji10 + 1)).toNat - (ji10).toNat : Nat) : Int) + (((wrap64 (ji14 + 1)).toNat - (ji14).toNat : Nat) : Int) + (((wrap64 (ji19 + 1)).toNat - (ji19).toNat : Nat) : Int) + (((wrap64 (ji24 + 1)).toNat - (ji24).toNat : Nat) : Int) < ji31) = False := eq_false (by have h_ := c33; simp only [ByteArray.size_append, ByteArray.size_extract] at h_; omega)
                                                    have H' := Aside0.mk H
                                                    clear H
                                                    go_wp2
                                                    repeat (go_quiet (fail); try go_wp2)
                                                    go_meet
                                                    case rel => exact ⟨_, (((((t127.extract ((ji10) : Int).toNat ((wrap64 ((ji10) + 1)) : Int).toNat) ++ (t127.extract ((ji14) : Int).toNat ((wrap64 ((ji14) + 1)) : Int).toNat)) ++ (t127.extract ((ji19) : Int).toNat ((wrap64 ((ji19) + 1)) : Int).toNat)) ++ (t127.extract ((ji24) : Int).toNat ((wrap64 ((ji24) + 1)) : Int).toNat)).extract 0 ((ji31) : Int).toNat), (by first | rfl | (simp; done) | (simp only [← hji10, ← hji14, ← hji19, ← hji24, ← hji31] <;> (first | rfl | simp)) | (simp [*]; done)), H', ⟨by have := HK1.out; have := HK2.out; first | omega | exact Nat.le_refl _⟩, by repeat (first | exact Drawn0.refl _ | apply Drawn0.step)⟩
                                                  · rw [if_neg c33] at H
                                                    exact absurd H (by simp)
                                                · rw [if_neg c32] at H
                                                  exact absurd H (by simp)
                                              · rw [if_neg c30] at H
                                                have c30b0 : decide ((wrap64 ((l0.length : Int) - x9_1)) < 3) = false := decide_eq_false c30
                                                clear c30
                                                (first | rw [c30b0] | (simp only [i64_w, i32_w]; rw [c30b0]) | skip)
                                                have H' := Aside0.mk H
                                                clear H
                                                go_wp2
                                                repeat (go_quiet (fail); try go_wp2)
                                                go_meet
                                                case rel => exact ⟨_, ((((t127.extract ((ji10) : Int).toNat ((wrap64 ((ji10) + 1)) : Int).toNat) ++ (t127.extract ((ji14) : Int).toNat ((wrap64 ((ji14) + 1)) : Int).toNat)) ++ (t127.extract ((ji19) : Int).toNat ((wrap64 ((ji19) + 1)) : Int).toNat)) ++ (t127.extract ((ji24) : Int).toNat ((wrap64 ((ji24) + 1)) : Int).toNat)), (by first | rfl | (simp; done) | (simp only [← hji10, ← hji14, ← hji19, ← hji24] <;> (first | rfl | simp)) | (simp [*]; done)), H', ⟨by have := HK1.out; have := HK2.out; first | omega | exact Nat.le_refl _⟩, by repeat (first | exact Drawn0.refl _ | apply Drawn0.step)⟩
                                            case rest =>
                                              clear HC29
                                              try clear c1
                                              try clear p1
                                              try clear q1
                                              try clear hx1
                                              try clear c2
                                              try clear p2
                                              try clear c3
                                              try clear c5
                                              try clear c5b0
                                              try clear c6
                                              try clear c6b0
                                              try clear p6
                                              try clear c7
                                              try clear c7b0
                                              try clear c9
                                              try clear c9b0
                                              try clear c11
                                              try clear c11b0
                                              try clear c11b1
                                              try clear c12
                                              try clear c12b0
                                              try clear c12b1
                                              try clear p12
                                              try clear q12
                                              try clear hx12
                                              try clear c13
                                              try clear c13b0
                                              try clear c13b1
                                              try clear c15
                                              try clear c15b0
                                              try clear c15b1
                                              try clear c16
                                              try clear c16b0
                                              try clear c16b1
                                              try clear c17
                                              try clear c17b0
                                              try clear c17b1
                                              try clear c18
                                              try clear c18b0
                                              try clear c18b1
                                              try clear c18b2
                                              try clear c20
                                              try clear c20b0
                                              try clear c20b1
                                              try clear c21
                                              try clear c21b0
                                              try clear c21b1
                                              try clear c22
                                              try clear c22b0
                                              try clear c22b1
                                              try clear c23
                                              try clear c23b0
                                              try clear c23b1
                                              try clear c23b2
                                              try clear c25
                                              try clear c25b0
                                              try clear c25b1
                                              try clear c26
                                              try clear c26b0
                                              try clear c26b1
                                              try clear c27
                                              try clear c27b0
                                              try clear c27b1
                                              try clear c28
                                              try clear c28b0
                                              try clear c28b1
                                              try clear c28b2
                                              try clear c30
                                              try clear c30b0
                                              try clear c32
                                              try clear c32b0
                                              try clear c32b1
                                              try clear c33
                                              try clear c33b0
                                              try clear c33b1
                                              try clear hx128_0
                                              try clear p128
                                              try clear p2
                                              try clear q128
                                              obtain ⟨kq, x12_28, rfl, HA, HJ28, ⟨mc28, rfl⟩⟩ := hcut
                                              cases kq with
                                              | zero => exact absurd HA.out (by simp [monikerref34_Encode.j2])
                                              | succ kj28 =>
                                                have H := HA.out
                                                clear HA
                                                simp only [monikerref34_Encode.j2] at H
                                                have H' := Aside0.mk H
                                                clear H
                                                go_wp2
                                                repeat (go_quiet (fail); try go_wp2)
                                                go_loopg [12] kj28 (fun kq v12 w' => ∃ (x12_4 : ByteArray), v12 = .string x12_4 ∧ Aside0 (monikerref34_Encode.l2 kq l0 a2 t127 x8_1 x9_1 x12_4 = some r) ∧ Aside0 (kq ≤ kj28) ∧ Drawn0 w w')
                                                case atStart => exact ⟨(x12_28), (by first | rfl | (simp; done) | (simp [*]; done)), H', ⟨Nat.le_refl _⟩, by repeat (first | exact Drawn0.refl _ | apply Drawn0.step)⟩
                                                case round =>
                                                  clear H'
                                                  try clear c1
                                                  try clear p1
                                                  try clear q1
                                                  try clear hx1
                                                  try clear c2
                                                  try clear p2
                                                  try clear c3
                                                  try clear c5
                                                  try clear c5b0
                                                  try clear c6
                                                  try clear c6b0
                                                  try clear p6
                                                  try clear c7
                                                  try clear c7b0
                                                  try clear c9
                                                  try clear c9b0
                                                  try clear c11
                                                  try clear c11b0
                                                  try clear c11b1
                                                  try clear c12
                                                  try clear c12b0
                                                  try clear c12b1
                                                  try clear p12
                                                  try clear q12
                                                  try clear hx12
                                                  try clear c13
                                                  try clear c13b0
                                                  try clear c13b1
                                                  try clear c15
                                                  try clear c15b0
                                                  try clear c15b1
                                                  try clear c16
                                                  try clear c16b0
                                                  try clear c16b1
                                                  try clear c17
                                                  try clear c17b0
                                                  try clear c17b1
                                                  try clear c18
                                                  try clear c18b0
                                                  try clear c18b1
                                                  try clear c18b2
                                                  try clear c20
                                                  try clear c20b0
                                                  try clear c20b1
                                                  try clear c21
                                                  try clear c21b0
                                                  try clear c21b1
                                                  try clear c22
                                                  try clear c22b0
                                                  try clear c22b1
                                                  try clear c23
                                                  try clear c23b0
                                                  try clear c23b1
                                                  try clear c23b2
                                                  try clear c25
                                                  try clear c25b0
                                                  try clear c25b1
                                                  try clear c26
                                                  try clear c26b0
                                                  try clear c26b1
                                                  try clear c27
                                                  try clear c27b0
                                                  try clear c27b1
                                                  try clear c28
                                                  try clear c28b0
                                                  try clear c28b1
                                                  try clear c28b2
                                                  try clear c30
                                                  try clear c30b0
                                                  try clear c32
                                                  try clear c32b0
                                                  try clear c32b1
                                                  try clear c33
                                                  try clear c33b0
                                                  try clear c33b1
                                                  try clear hx128_0
                                                  try clear p1
                                                  try clear p12
                                                  try clear p128
                                                  try clear p2
                                                  try clear p6
                                                  try clear q1
                                                  try clear q12
                                                  try clear q128
                                                  obtain ⟨x12_4, rfl, HA, HK4, ⟨m4, rfl⟩⟩ := hrel
                                                  cases gk with
                                                  | zero => exact absurd HA.out (by simp [monikerref34_Encode.l2])
                                                  | succ k4 =>
                                                    have H := HA.out
                                                    clear HA
                                                    simp only [monikerref34_Encode.l2] at H
                                                    by_cases c34 : a2 = true
                                                    · subst c34
                                                      have H1 : (if (x12_4.size : Int) < 4 then (if x12_4.size + 1 ≤ 9223372036854775807 then (monikerref34_Encode.l2 k4 l0 true t127 x8_1 x9_1 (x12_4 ++ (⟨#[61]⟩ : ByteArray))) else (none)) else (if x8_1.size + x12_4.size ≤ 9223372036854775807 then (monikerref34_Encode.l0 k4 l0 true t127 (x8_1 ++ x12_4) (wrap64 (x9_1 + 3))) else (none))) = some r := by rw [if_pos rfl] at H; exact H
                                                      clear H
                                                      have H := H1
                                                      clear H1
                                                      by_cases c35 : (x12_4.size : Int) < 4
                                                      · rw [if_pos c35] at H
                                                        have c35b0 : decide ((x12_4.size : Int) < 4) = true := decide_eq_true c35
                                                        have c35b1 : decide (x12_4.size < 4) = true := decide_eq_true (by omega)
                                                        clear c35
                                                        by_cases c36 : x12_4.size + 1 ≤ 9223372036854775807
                                                        · rw [if_pos c36] at H
                                                          have c36b0 := eq_true c36
                                                          have c36b1 : decide (x12_4.size + 1 ≤ 9223372036854775807) = true := decide_eq_true c36
                                                          try have c36b2 : (9223372036854775807 < x12_4.size + 1) = False := eq_false (Nat.not_lt.2 c36)
                                                          have H' := Aside0.mk H
                                                          clear H
                                                          go_wp2
                                                          repeat (go_quiet (fail); try go_wp2)
                                                          go_roundg k4
                                                          case measure => have := HK1.out; have := HK2.out; have := HJ28.out; have := HK4.out; omega
                                                          case rel => exact ⟨(x12_4 ++ (⟨#[61]⟩ : ByteArray)), (by first | rfl | (simp; done) | (simp [*]; done)), H', ⟨by have := HK1.out; have := HK2.out; have := HJ28.out; have := HK4.out; omega⟩, by repeat (first | exact Drawn0.refl _ | apply Drawn0.step)⟩
                                                        · rw [if_neg c36] at H
                                                          exact absurd H (by simp)
                                                      · rw [if_neg c35] at H
                                                        have c35b0 : decide ((x12_4.size : Int) < 4) = false := decide_eq_false c35
                                                        have c35b1 : decide (x12_4.size < 4) = false := decide_eq_false (by omega)
                                                        clear c35
                                                        by_cases c37 : x8_1.size + x12_4.size ≤ 9223372036854775807
                                                        · rw [if_pos c37] at H
                                                          have c37b0 := eq_true c37
                                                          have c37b1 : decide (x8_1.size + x12_4.size ≤ 9223372036854775807) = true := decide_eq_true c37
                                                          try have c37b2 : (9223372036854775807 < x8_1.size + x12_4.size) = False := eq_false (Nat.not_lt.2 c37)
                                                          have H' := Aside0.mk H
                                                          clear H
                                                          go_wp2
                                                          repeat (go_quiet (fail); try go_wp2)
                                                          go_roundg k4
                                                          case measure => have := HK1.out; have := HK2.out; have := HJ28.out; have := HK4.out; omega
                                                          case rel => exact ⟨(x8_1 ++ x12_4), (wrap64 (x9_1 + 3)), (by first | rfl | (simp; done) | (simp [*]; done)), (by first | rfl | (simp; done) | (simp [*]; done)), H', ⟨by have := HK1.out; have := HK2.out; have := HJ28.out; have := HK4.out; omega⟩, by repeat (first | exact Drawn0.refl _ | apply Drawn0.step)⟩
                                                        · rw [if_neg c37] at H
                                                          exact absurd H (by simp)
                                                    · replace c34 := Bool.eq_false_iff.mpr c34
                                                      subst c34
                                                      have H1 : (if x8_1.size + x12_4.size ≤ 9223372036854775807 then (monikerref34_Encode.l0 k4 l0 false t127 (x8_1 ++ x12_4) (wrap64 (x9_1 + 3))) else (none)) = some r := by rw [if_neg (show ¬ (false = true) by decide)] at H; exact H
                                                      clear H
                                                      have H := H1
                                                      clear H1
                                                      by_cases c38 : x8_1.size + x12_4.size ≤ 9223372036854775807
                                                      · rw [if_pos c38] at H
                                                        have c38b0 := eq_true c38
                                                        have c38b1 : decide (x8_1.size + x12_4.size ≤ 9223372036854775807) = true := decide_eq_true c38
                                                        try have c38b2 : (9223372036854775807 < x8_1.size + x12_4.size) = False := eq_false (Nat.not_lt.2 c38)
                                                        have H' := Aside0.mk H
                                                        clear H
                                                        go_wp2
                                                        repeat (go_quiet (fail); try go_wp2)
                                                        go_roundg k4
                                                        case measure => have := HK1.out; have := HK2.out; have := HJ28.out; have := HK4.out; omega
                                                        case rel => exact ⟨(x8_1 ++ x12_4), (wrap64 (x9_1 + 3)), (by first | rfl | (simp; done) | (simp [*]; done)), (by first | rfl | (simp; done) | (simp [*]; done)), H', ⟨by have := HK1.out; have := HK2.out; have := HJ28.out; have := HK4.out; omega⟩, by repeat (first | exact Drawn0.refl _ | apply Drawn0.step)⟩
                                                      · rw [if_neg c38] at H
                                                        exact absurd H (by simp)
                                          · rw [if_neg c28] at H
                                            exact absurd H (by simp)
                                        · rw [if_neg c27] at H
                                          exact absurd H (by simp)
                                      · rw [if_neg c26] at H
                                        exact absurd H (by simp)
                                    · rw [if_neg c25] at H
                                      exact absurd H (by simp)
                                  · rw [if_neg c23] at H
                                    exact absurd H (by simp)
                                · rw [if_neg c22] at H
                                  exact absurd H (by simp)
                              · rw [if_neg c21] at H
                                exact absurd H (by simp)
                            · rw [if_neg c20] at H
                              exact absurd H (by simp)
                          · rw [if_neg c18] at H
                            exact absurd H (by simp)
                        · rw [if_neg c17] at H
                          exact absurd H (by simp)
                      · rw [if_neg c16] at H
                        exact absurd H (by simp)
                    · rw [if_neg c15] at H
                      exact absurd H (by simp)
                  · rw [if_neg c13] at H
                    exact absurd H (by simp)
                · rw [if_neg c12] at H
                  exact absurd H (by simp)
              · rw [if_neg c11] at H
                exact absurd H (by simp)
      · rw [if_neg c5] at H
        have c5b0 : decide (x9_1 < (l0.length : Int)) = false := decide_eq_false c5
        clear c5
        obtain rfl := Option.some.inj H
        go_wp2
        repeat (go_quiet (fail); try go_wp2)
        go_ret
        exact ⟨by first | rfl | (simp; done) | (simp [*]; done), by repeat (first | exact Drawn0.refl _ | apply Drawn0.step)⟩

/-! ### monikerlaw34_Base64Encodes: function 3 -/
def monikerlaw34_Base64Encodes.f (k : Nat) (l0 : List Int) (a1 : Bool) (a2 : Bool) : Option (Bool) := if (l0.length : Int) > 200 then ((monikerlaw34_awake.f k).bind fun t129 => (some t129)) else ((base64_Encode.f k l0 a1 a2).bind fun t130 => ((base64_Decode.f k t130 a1 a2).bind fun bt131 => ((monikerref34_Encode.f k l0 a1 a2).bind fun t135 => (if t130.toList = t135.toList then ((base64_Size.f (l0.length : Int) a2).bind fun t136 => (if (t130.size : Int) = t136 then (if bt131.2 = 0 then (if (strOfNums bt131.1).toList = (strOfNums l0).toList then ((monikerlaw34_awake.f k).bind fun t137 => (some t137)) else (some false)) else (some false)) else (some false))) else (some false)))))
theorem monikerlaw34_Base64Encodes.mono : ∀ a0 a1 a2 k, LeO (monikerlaw34_Base64Encodes.f k a0 a1 a2) (monikerlaw34_Base64Encodes.f (k + 1) a0 a1 a2) := by
  intro a0 a1 a2 k
  unfold monikerlaw34_Base64Encodes.f
  repeat' first
      | (with_reducible exact base64_Decode.mono _ _ _ _)
      | (with_reducible exact base64_Encode.mono _ _ _ _)
      | (with_reducible exact monikerlaw34_awake.mono _)
      | (with_reducible exact monikerref34_Encode.mono _ _ _ _)
      | (with_reducible exact LeO.refl _)
      | (with_reducible exact LeO.none _)
      | (with_reducible refine LeO.ite ?_ ?_)
      | (with_reducible refine LeO.bind ?_ (fun _ => ?_))
      | exact base64_Decode.mono _ _ _ _
      | exact base64_Encode.mono _ _ _ _
      | exact monikerlaw34_awake.mono _
      | exact monikerref34_Encode.mono _ _ _ _
      | exact LeO.none _
      | refine LeO.ite ?_ ?_
      | refine LeO.bind ?_ (fun _ => ?_)
set_option maxHeartbeats 8000000 in
set_option maxRecDepth 100000 in
theorem monikerlaw34_Base64Encodes.calls (k : Nat) (A0 : Option Addr) (c0 : Nat) (l0 : List Int) (a1 : Bool) (a2 : Bool) (r : Bool) (w : World) (hr0 : Kd.C (Kd.int .u8) w A0 l0.length l0) (hc0 : l0.length ≤ c0) (h : monikerlaw34_Base64Encodes.f k l0 a1 a2 = some r) :
    Calls Tryd.prog 3 #[.slice A0 l0.length c0, .bool a1, .bool a2] w fun e w' => e = .returned (.bool r) ∧ Below w.heap.size w w' := by
  have HR0 := Aside0.mk hr0
  have HC0 := Aside0.mk hc0
  clear hr0 hc0
  have HB := Aside0.mk (Below.refl w.heap.size w)
  have H : (if (l0.length : Int) > 200 then ((monikerlaw34_awake.f k).bind fun t129 => (some t129)) else ((base64_Encode.f k l0 a1 a2).bind fun t130 => ((base64_Decode.f k t130 a1 a2).bind fun bt131 => ((monikerref34_Encode.f k l0 a1 a2).bind fun t135 => (if t130.toList = t135.toList then ((base64_Size.f (l0.length : Int) a2).bind fun t136 => (if (t130.size : Int) = t136 then (if bt131.2 = 0 then (if (strOfNums bt131.1).toList = (strOfNums l0).toList then ((monikerlaw34_awake.f k).bind fun t137 => (some t137)) else (some false)) else (some false)) else (some false))) else (some false)))))) = some r := h
  clear h
  by_cases c4 : (l0.length : Int) > 200
  · rw [if_pos c4] at H
    have c4b0 : decide (200 < (l0.length : Int)) = true := decide_eq_true c4
    have c4b1 : decide (200 < l0.length) = true := decide_eq_true (by omega)
    clear c4
    replace H := Option.bind_eq_some_iff.mp H
    obtain ⟨t129, A50, H⟩ := H
    replace H : (some t129) = some r := H
    have A5 := Aside0.mk A50
    clear A50
    obtain rfl := Option.some.inj H
    go_enter Tryd.func3, Tryd.ntmps3
    go_wp2_with (first | ((with_reducible refine gate_callee (f := 6) rfl ?_); refine goesL_ (some 13) rfl rfl Tryd.func6 (by kernel_rfl) rfl #[] rfl (by (try simp only [List.map_toArray, List.map_cons, List.map_nil]); first | done | rfl | (simp only [List.length_drop, List.length_take]; rfl)) ?_; (with_reducible refine (monikerlaw34_awake.calls k  t129 _ A5.out).mono ?_); rintro e w6 ⟨rfl, hb⟩; refine ⟨_, rfl, ?_⟩; have n0_ := Aside0.mk (below_step (by repeat (first | (with_reducible first | exact HB.out | apply below_alloc | apply pw_below_drewN | apply below_drew1) | exact HB.out)) hb); clear HB; have HB := n0_; clear n0_; (try clear hb); (try clear hb2); (try clear hk); (try clear hi)))
    go_ret
    exact ⟨by first | rfl | (simp [errW_none, errW_some] <;> rfl) | (simp [*, errW_none, errW_some] <;> rfl), by repeat (first | (with_reducible first | exact HB.out | apply below_alloc | apply pw_below_drewN | apply below_drew1) | exact HB.out)⟩
  · rw [if_neg c4] at H
    have c4b0 : decide (200 < (l0.length : Int)) = false := decide_eq_false c4
    have c4b1 : decide (200 < l0.length) = false := decide_eq_false (by omega)
    clear c4
    replace H := Option.bind_eq_some_iff.mp H
    obtain ⟨t130, A70, H⟩ := H
    replace H : ((base64_Decode.f k t130 a1 a2).bind fun bt131 => ((monikerref34_Encode.f k l0 a1 a2).bind fun t135 => (if t130.toList = t135.toList then ((base64_Size.f (l0.length : Int) a2).bind fun t136 => (if (t130.size : Int) = t136 then (if bt131.2 = 0 then (if (strOfNums bt131.1).toList = (strOfNums l0).toList then ((monikerlaw34_awake.f k).bind fun t137 => (some t137)) else (some false)) else (some false)) else (some false))) else (some false)))) = some r := H
    have A7 := Aside0.mk A70
    clear A70
    replace H := Option.bind_eq_some_iff.mp H
    obtain ⟨⟨t131, t132⟩, A80, H⟩ := H
    replace H : ((monikerref34_Encode.f k l0 a1 a2).bind fun t135 => (if t130.toList = t135.toList then ((base64_Size.f (l0.length : Int) a2).bind fun t136 => (if (t130.size : Int) = t136 then (if t132 = 0 then (if (strOfNums t131).toList = (strOfNums l0).toList then ((monikerlaw34_awake.f k).bind fun t137 => (some t137)) else (some false)) else (some false)) else (some false))) else (some false))) = some r := H
    have A8 := Aside0.mk A80
    clear A80
    replace H := Option.bind_eq_some_iff.mp H
    obtain ⟨t135, A90, H⟩ := H
    replace H : (if t130.toList = t135.toList then ((base64_Size.f (l0.length : Int) a2).bind fun t136 => (if (t130.size : Int) = t136 then (if t132 = 0 then (if (strOfNums t131).toList = (strOfNums l0).toList then ((monikerlaw34_awake.f k).bind fun t137 => (some t137)) else (some false)) else (some false)) else (some false))) else (some false)) = some r := H
    have A9 := Aside0.mk A90
    clear A90
    by_cases c10 : t130.toList = t135.toList
    · rw [if_pos c10] at H
      have c10b0 : (t130.toList == t135.toList) = true := beq_iff_eq.mpr c10
      have c10b1 : (t130.toList != t135.toList) = false := bne_eq_false_iff_eq.mpr c10
      clear c10
      replace H := Option.bind_eq_some_iff.mp H
      obtain ⟨t136, A110, H⟩ := H
      replace H : (if (t130.size : Int) = t136 then (if t132 = 0 then (if (strOfNums t131).toList = (strOfNums l0).toList then ((monikerlaw34_awake.f k).bind fun t137 => (some t137)) else (some false)) else (some false)) else (some false)) = some r := H
      have A11 := Aside0.mk A110
      clear A110
      by_cases c12 : (t130.size : Int) = t136
      · rw [if_pos c12] at H
        have c12b0 : ((t130.size : Int) == t136) = true := beq_iff_eq.mpr c12
        have c12b1 : ((t130.size : Int) != t136) = false := bne_eq_false_iff_eq.mpr c12
        clear c12
        by_cases c13 : t132 = 0
        · rw [if_pos c13] at H
          have c13b0 : (t132 == 0) = true := beq_iff_eq.mpr c13
          have c13b1 : (t132 != 0) = false := bne_eq_false_iff_eq.mpr c13
          clear c13
          by_cases c14 : (strOfNums t131).toList = (strOfNums l0).toList
          · rw [if_pos c14] at H
            have c14b0 : ((strOfNums t131).toList == (strOfNums l0).toList) = true := beq_iff_eq.mpr c14
            have c14b1 : ((strOfNums t131).toList != (strOfNums l0).toList) = false := bne_eq_false_iff_eq.mpr c14
            clear c14
            replace H := Option.bind_eq_some_iff.mp H
            obtain ⟨t137, A150, H⟩ := H
            replace H : (some t137) = some r := H
            have A15 := Aside0.mk A150
            clear A150
            obtain rfl := Option.some.inj H
            go_enter Tryd.func3, Tryd.ntmps3
            go_wp2_with (first | ((with_reducible refine gate_callee (f := 7) rfl ?_); refine goesL_ (some 17) rfl rfl Tryd.func7 (by kernel_rfl) rfl #[.slice A0 l0.length c0, .bool a1, .bool a2] rfl (by (try simp only [List.map_toArray, List.map_cons, List.map_nil]); first | done | rfl | (simp only [List.length_drop, List.length_take]; rfl)) ?_; (with_reducible refine (base64_Encode.calls k _ _ l0 a1 a2 t130 _ ?side1 ?side2 A7.out).mono ?_); (case side1 => repeat (first | exact HR0.out | (with_reducible refine Kd.C_alloc ?_ _) | (with_reducible refine Kd.C_drewN ?_ _) | (with_reducible refine Kd.C_drew ?_))); (case side2 => exact HC0.out); rintro e w16 ⟨rfl, hb⟩; refine ⟨_, rfl, ?_⟩; have n0_ := Aside0.mk (below_step (by repeat (first | (with_reducible first | exact HB.out | apply below_alloc | apply pw_below_drewN | apply below_drew1) | exact HB.out)) hb); clear HB; have HB := n0_; clear n0_; (try clear hb); (try clear hb2); (try clear hk); (try clear hi)) | ((with_reducible refine gate_callee (f := 8) rfl ?_); refine goesL_ (some 22) rfl rfl Tryd.func8 (by kernel_rfl) rfl #[.string t130, .bool a1, .bool a2] rfl (by (try simp only [List.map_toArray, List.map_cons, List.map_nil]); first | done | rfl | (simp only [List.length_drop, List.length_take]; rfl)) ?_; (with_reducible refine (base64_Decode.calls k t130 a1 a2 t131 t132 _ A8.out).mono ?_); rintro e w17 ⟨v133, rfl, ho0, hb⟩; refine ⟨_, rfl, ?_⟩; have n0_ := Aside0.mk (Kd.R_lower ho0 (below_size (by repeat (first | (with_reducible first | exact HB.out | apply below_alloc | apply pw_below_drewN | apply below_drew1) | exact HB.out)))); have n1_ := Aside0.mk (below_step (by repeat (first | (with_reducible first | exact HB.out | apply below_alloc | apply pw_below_drewN | apply below_drew1) | exact HB.out)) hb); clear HB; have HO134 := n0_; have HB := n1_; clear n0_ n1_; (try clear hb); (try clear hb2); (try clear hk); (try clear hi); (try clear ho0)) | ((with_reducible refine gate_callee (f := 9) rfl ?_); refine goesL_ (some 29) rfl rfl Tryd.func9 (by kernel_rfl) rfl #[.slice A0 l0.length c0, .bool a1, .bool a2] rfl (by (try simp only [List.map_toArray, List.map_cons, List.map_nil]); first | done | rfl | (simp only [List.length_drop, List.length_take]; rfl)) ?_; (with_reducible refine (monikerref34_Encode.calls k _ _ l0 a1 a2 t135 _ ?side1 ?side2 A9.out).mono ?_); (case side1 => repeat (first | exact (Kd.C_below HR0.out HB.out) | (with_reducible refine Kd.C_alloc ?_ _) | (with_reducible refine Kd.C_drewN ?_ _) | (with_reducible refine Kd.C_drew ?_))); (case side2 => exact HC0.out); rintro e w' ⟨rfl, ⟨nd, rfl⟩⟩; refine ⟨_, rfl, ?_⟩) | (go_at_call 10; (with_reducible refine (base64_Size.calls (l0.length : Int) a2 t136 _ A11.out).mono ?_); rintro e w' ⟨rfl, ⟨nd, rfl⟩⟩; have hcv18 := own_string (P := Tryd.prog) Tryd.underlying22 Tryd.underlying5 Tryd.underlying9 (Kd.own_of_R HO134.out); have hcv18n := fun m_ : Nat => own_string (P := Tryd.prog) Tryd.underlying22 Tryd.underlying5 Tryd.underlying9 (Kd.own_of_R (Kd.R_drewN HO134.out m_)); have hcv19 := Kd.C_string (P := Tryd.prog) (A := A0) (c := c0) Tryd.underlying22 Tryd.underlying5 Tryd.underlying9 (Kd.C_below HR0.out HB.out); have hcv19n := fun m_ : Nat => Kd.C_string (P := Tryd.prog) (A := A0) (c := c0) Tryd.underlying22 Tryd.underlying5 Tryd.underlying9 (Kd.C_below HR0.out (pw_below_drewN HB.out m_))) | (go_at_call 6; (with_reducible refine (monikerlaw34_awake.calls k  t137 _ A15.out).mono ?_); rintro e w20 ⟨rfl, hb⟩; have n0_ := Aside0.mk (Kd.R_below (by (with_reducible repeat (first | apply Kd.R_alloc | apply Kd.R_drewN | apply Kd.R_drew)); exact HO134.out) hb); have n1_ := Aside0.mk (below_step (by repeat (first | (with_reducible first | exact HB.out | apply below_alloc | apply pw_below_drewN | apply below_drew1) | exact HB.out)) hb); clear HO134; clear HB; have HO134 := n0_; have HB := n1_; clear n0_ n1_; (try clear hb); (try clear hb2); (try clear hk); (try clear hi)))
            go_ret
            exact ⟨by first | rfl | (simp [errW_none, errW_some] <;> rfl) | (simp [*, errW_none, errW_some] <;> rfl), by repeat (first | (with_reducible first | exact HB.out | apply below_alloc | apply pw_below_drewN | apply below_drew1) | exact HB.out)⟩
          · rw [if_neg c14] at H
            have c14b0 : ((strOfNums t131).toList == (strOfNums l0).toList) = false := beq_eq_false_iff_ne.mpr c14
            have c14b1 : ((strOfNums t131).toList != (strOfNums l0).toList) = true := bne_iff_ne.mpr c14
            obtain rfl := Option.some.inj H
            go_enter Tryd.func3, Tryd.ntmps3
            go_wp2_with (first | ((with_reducible refine gate_callee (f := 7) rfl ?_); refine goesL_ (some 17) rfl rfl Tryd.func7 (by kernel_rfl) rfl #[.slice A0 l0.length c0, .bool a1, .bool a2] rfl (by (try simp only [List.map_toArray, List.map_cons, List.map_nil]); first | done | rfl | (simp only [List.length_drop, List.length_take]; rfl)) ?_; (with_reducible refine (base64_Encode.calls k _ _ l0 a1 a2 t130 _ ?side1 ?side2 A7.out).mono ?_); (case side1 => repeat (first | exact HR0.out | (with_reducible refine Kd.C_alloc ?_ _) | (with_reducible refine Kd.C_drewN ?_ _) | (with_reducible refine Kd.C_drew ?_))); (case side2 => exact HC0.out); rintro e w21 ⟨rfl, hb⟩; refine ⟨_, rfl, ?_⟩; have n0_ := Aside0.mk (below_step (by repeat (first | (with_reducible first | exact HB.out | apply below_alloc | apply pw_below_drewN | apply below_drew1) | exact HB.out)) hb); clear HB; have HB := n0_; clear n0_; (try clear hb); (try clear hb2); (try clear hk); (try clear hi)) | ((with_reducible refine gate_callee (f := 8) rfl ?_); refine goesL_ (some 22) rfl rfl Tryd.func8 (by kernel_rfl) rfl #[.string t130, .bool a1, .bool a2] rfl (by (try simp only [List.map_toArray, List.map_cons, List.map_nil]); first | done | rfl | (simp only [List.length_drop, List.length_take]; rfl)) ?_; (with_reducible refine (base64_Decode.calls k t130 a1 a2 t131 t132 _ A8.out).mono ?_); rintro e w22 ⟨v133, rfl, ho0, hb⟩; refine ⟨_, rfl, ?_⟩; have n0_ := Aside0.mk (Kd.R_lower ho0 (below_size (by repeat (first | (with_reducible first | exact HB.out | apply below_alloc | apply pw_below_drewN | apply below_drew1) | exact HB.out)))); have n1_ := Aside0.mk (below_step (by repeat (first | (with_reducible first | exact HB.out | apply below_alloc | apply pw_below_drewN | apply below_drew1) | exact HB.out)) hb); clear HB; have HO134 := n0_; have HB := n1_; clear n0_ n1_; (try clear hb); (try clear hb2); (try clear hk); (try clear hi); (try clear ho0)) | ((with_reducible refine gate_callee (f := 9) rfl ?_); refine goesL_ (some 29) rfl rfl Tryd.func9 (by kernel_rfl) rfl #[.slice A0 l0.length c0, .bool a1, .bool a2] rfl (by (try simp only [List.map_toArray, List.map_cons, List.map_nil]); first | done | rfl | (simp only [List.length_drop, List.length_take]; rfl)) ?_; (with_reducible refine (monikerref34_Encode.calls k _ _ l0 a1 a2 t135 _ ?side1 ?side2 A9.out).mono ?_); (case side1 => repeat (first | exact (Kd.C_below HR0.out HB.out) | (with_reducible refine Kd.C_alloc ?_ _) | (with_reducible refine Kd.C_drewN ?_ _) | (with_reducible refine Kd.C_drew ?_))); (case side2 => exact HC0.out); rintro e w' ⟨rfl, ⟨nd, rfl⟩⟩; refine ⟨_, rfl, ?_⟩) | (go_at_call 10; (with_reducible refine (base64_Size.calls (l0.length : Int) a2 t136 _ A11.out).mono ?_); rintro e w' ⟨rfl, ⟨nd, rfl⟩⟩; have hcv23 := own_string (P := Tryd.prog) Tryd.underlying22 Tryd.underlying5 Tryd.underlying9 (Kd.own_of_R HO134.out); have hcv23n := fun m_ : Nat => own_string (P := Tryd.prog) Tryd.underlying22 Tryd.underlying5 Tryd.underlying9 (Kd.own_of_R (Kd.R_drewN HO134.out m_)); have hcv24 := Kd.C_string (P := Tryd.prog) (A := A0) (c := c0) Tryd.underlying22 Tryd.underlying5 Tryd.underlying9 (Kd.C_below HR0.out HB.out); have hcv24n := fun m_ : Nat => Kd.C_string (P := Tryd.prog) (A := A0) (c := c0) Tryd.underlying22 Tryd.underlying5 Tryd.underlying9 (Kd.C_below HR0.out (pw_below_drewN HB.out m_))))
            go_ret
            exact ⟨by first | rfl | (simp [errW_none, errW_some] <;> rfl) | (simp [*, errW_none, errW_some] <;> rfl), by repeat (first | (with_reducible first | exact HB.out | apply below_alloc | apply pw_below_drewN | apply below_drew1) | exact HB.out)⟩
        · rw [if_neg c13] at H
          have c13b0 : (t132 == 0) = false := beq_eq_false_iff_ne.mpr c13
          have c13b1 : (t132 != 0) = true := bne_iff_ne.mpr c13
          obtain rfl := Option.some.inj H
          go_enter Tryd.func3, Tryd.ntmps3
          go_wp2_with (first | ((with_reducible refine gate_callee (f := 7) rfl ?_); refine goesL_ (some 17) rfl rfl Tryd.func7 (by kernel_rfl) rfl #[.slice A0 l0.length c0, .bool a1, .bool a2] rfl (by (try simp only [List.map_toArray, List.map_cons, List.map_nil]); first | done | rfl | (simp only [List.length_drop, List.length_take]; rfl)) ?_; (with_reducible refine (base64_Encode.calls k _ _ l0 a1 a2 t130 _ ?side1 ?side2 A7.out).mono ?_); (case side1 => repeat (first | exact HR0.out | (with_reducible refine Kd.C_alloc ?_ _) | (with_reducible refine Kd.C_drewN ?_ _) | (with_reducible refine Kd.C_drew ?_))); (case side2 => exact HC0.out); rintro e w25 ⟨rfl, hb⟩; refine ⟨_, rfl, ?_⟩; have n0_ := Aside0.mk (below_step (by repeat (first | (with_reducible first | exact HB.out | apply below_alloc | apply pw_below_drewN | apply below_drew1) | exact HB.out)) hb); clear HB; have HB := n0_; clear n0_; (try clear hb); (try clear hb2); (try clear hk); (try clear hi)) | ((with_reducible refine gate_callee (f := 8) rfl ?_); refine goesL_ (some 22) rfl rfl Tryd.func8 (by kernel_rfl) rfl #[.string t130, .bool a1, .bool a2] rfl (by (try simp only [List.map_toArray, List.map_cons, List.map_nil]); first | done | rfl | (simp only [List.length_drop, List.length_take]; rfl)) ?_; (with_reducible refine (base64_Decode.calls k t130 a1 a2 t131 t132 _ A8.out).mono ?_); rintro e w26 ⟨v133, rfl, ho0, hb⟩; refine ⟨_, rfl, ?_⟩; have n0_ := Aside0.mk (Kd.R_lower ho0 (below_size (by repeat (first | (with_reducible first | exact HB.out | apply below_alloc | apply pw_below_drewN | apply below_drew1) | exact HB.out)))); have n1_ := Aside0.mk (below_step (by repeat (first | (with_reducible first | exact HB.out | apply below_alloc | apply pw_below_drewN | apply below_drew1) | exact HB.out)) hb); clear HB; have HO134 := n0_; have HB := n1_; clear n0_ n1_; (try clear hb); (try clear hb2); (try clear hk); (try clear hi); (try clear ho0)) | ((with_reducible refine gate_callee (f := 9) rfl ?_); refine goesL_ (some 29) rfl rfl Tryd.func9 (by kernel_rfl) rfl #[.slice A0 l0.length c0, .bool a1, .bool a2] rfl (by (try simp only [List.map_toArray, List.map_cons, List.map_nil]); first | done | rfl | (simp only [List.length_drop, List.length_take]; rfl)) ?_; (with_reducible refine (monikerref34_Encode.calls k _ _ l0 a1 a2 t135 _ ?side1 ?side2 A9.out).mono ?_); (case side1 => repeat (first | exact (Kd.C_below HR0.out HB.out) | (with_reducible refine Kd.C_alloc ?_ _) | (with_reducible refine Kd.C_drewN ?_ _) | (with_reducible refine Kd.C_drew ?_))); (case side2 => exact HC0.out); rintro e w' ⟨rfl, ⟨nd, rfl⟩⟩; refine ⟨_, rfl, ?_⟩) | (go_at_call 10; (with_reducible refine (base64_Size.calls (l0.length : Int) a2 t136 _ A11.out).mono ?_); rintro e w' ⟨rfl, ⟨nd, rfl⟩⟩))
          go_ret
          exact ⟨by first | rfl | (simp [errW_none, errW_some] <;> rfl) | (simp [*, errW_none, errW_some] <;> rfl), by repeat (first | (with_reducible first | exact HB.out | apply below_alloc | apply pw_below_drewN | apply below_drew1) | exact HB.out)⟩
      · rw [if_neg c12] at H
        have c12b0 : ((t130.size : Int) == t136) = false := beq_eq_false_iff_ne.mpr c12
        have c12b1 : ((t130.size : Int) != t136) = true := bne_iff_ne.mpr c12
        obtain rfl := Option.some.inj H
        go_enter Tryd.func3, Tryd.ntmps3
        go_wp2_with (first | ((with_reducible refine gate_callee (f := 7) rfl ?_); refine goesL_ (some 17) rfl rfl Tryd.func7 (by kernel_rfl) rfl #[.slice A0 l0.length c0, .bool a1, .bool a2] rfl (by (try simp only [List.map_toArray, List.map_cons, List.map_nil]); first | done | rfl | (simp only [List.length_drop, List.length_take]; rfl)) ?_; (with_reducible refine (base64_Encode.calls k _ _ l0 a1 a2 t130 _ ?side1 ?side2 A7.out).mono ?_); (case side1 => repeat (first | exact HR0.out | (with_reducible refine Kd.C_alloc ?_ _) | (with_reducible refine Kd.C_drewN ?_ _) | (with_reducible refine Kd.C_drew ?_))); (case side2 => exact HC0.out); rintro e w27 ⟨rfl, hb⟩; refine ⟨_, rfl, ?_⟩; have n0_ := Aside0.mk (below_step (by repeat (first | (with_reducible first | exact HB.out | apply below_alloc | apply pw_below_drewN | apply below_drew1) | exact HB.out)) hb); clear HB; have HB := n0_; clear n0_; (try clear hb); (try clear hb2); (try clear hk); (try clear hi)) | ((with_reducible refine gate_callee (f := 8) rfl ?_); refine goesL_ (some 22) rfl rfl Tryd.func8 (by kernel_rfl) rfl #[.string t130, .bool a1, .bool a2] rfl (by (try simp only [List.map_toArray, List.map_cons, List.map_nil]); first | done | rfl | (simp only [List.length_drop, List.length_take]; rfl)) ?_; (with_reducible refine (base64_Decode.calls k t130 a1 a2 t131 t132 _ A8.out).mono ?_); rintro e w28 ⟨v133, rfl, ho0, hb⟩; refine ⟨_, rfl, ?_⟩; have n0_ := Aside0.mk (Kd.R_lower ho0 (below_size (by repeat (first | (with_reducible first | exact HB.out | apply below_alloc | apply pw_below_drewN | apply below_drew1) | exact HB.out)))); have n1_ := Aside0.mk (below_step (by repeat (first | (with_reducible first | exact HB.out | apply below_alloc | apply pw_below_drewN | apply below_drew1) | exact HB.out)) hb); clear HB; have HO134 := n0_; have HB := n1_; clear n0_ n1_; (try clear hb); (try clear hb2); (try clear hk); (try clear hi); (try clear ho0)) | ((with_reducible refine gate_callee (f := 9) rfl ?_); refine goesL_ (some 29) rfl rfl Tryd.func9 (by kernel_rfl) rfl #[.slice A0 l0.length c0, .bool a1, .bool a2] rfl (by (try simp only [List.map_toArray, List.map_cons, List.map_nil]); first | done | rfl | (simp only [List.length_drop, List.length_take]; rfl)) ?_; (with_reducible refine (monikerref34_Encode.calls k _ _ l0 a1 a2 t135 _ ?side1 ?side2 A9.out).mono ?_); (case side1 => repeat (first | exact (Kd.C_below HR0.out HB.out) | (with_reducible refine Kd.C_alloc ?_ _) | (with_reducible refine Kd.C_drewN ?_ _) | (with_reducible refine Kd.C_drew ?_))); (case side2 => exact HC0.out); rintro e w' ⟨rfl, ⟨nd, rfl⟩⟩; refine ⟨_, rfl, ?_⟩) | (go_at_call 10; (with_reducible refine (base64_Size.calls (l0.length : Int) a2 t136 _ A11.out).mono ?_); rintro e w' ⟨rfl, ⟨nd, rfl⟩⟩))
        go_ret
        exact ⟨by first | rfl | (simp [errW_none, errW_some] <;> rfl) | (simp [*, errW_none, errW_some] <;> rfl), by repeat (first | (with_reducible first | exact HB.out | apply below_alloc | apply pw_below_drewN | apply below_drew1) | exact HB.out)⟩
    · rw [if_neg c10] at H
      have c10b0 : (t130.toList == t135.toList) = false := beq_eq_false_iff_ne.mpr c10
      have c10b1 : (t130.toList != t135.toList) = true := bne_iff_ne.mpr c10
      obtain rfl := Option.some.inj H
      go_enter Tryd.func3, Tryd.ntmps3
      go_wp2_with (first | ((with_reducible refine gate_callee (f := 7) rfl ?_); refine goesL_ (some 17) rfl rfl Tryd.func7 (by kernel_rfl) rfl #[.slice A0 l0.length c0, .bool a1, .bool a2] rfl (by (try simp only [List.map_toArray, List.map_cons, List.map_nil]); first | done | rfl | (simp only [List.length_drop, List.length_take]; rfl)) ?_; (with_reducible refine (base64_Encode.calls k _ _ l0 a1 a2 t130 _ ?side1 ?side2 A7.out).mono ?_); (case side1 => repeat (first | exact HR0.out | (with_reducible refine Kd.C_alloc ?_ _) | (with_reducible refine Kd.C_drewN ?_ _) | (with_reducible refine Kd.C_drew ?_))); (case side2 => exact HC0.out); rintro e w29 ⟨rfl, hb⟩; refine ⟨_, rfl, ?_⟩; have n0_ := Aside0.mk (below_step (by repeat (first | (with_reducible first | exact HB.out | apply below_alloc | apply pw_below_drewN | apply below_drew1) | exact HB.out)) hb); clear HB; have HB := n0_; clear n0_; (try clear hb); (try clear hb2); (try clear hk); (try clear hi)) | ((with_reducible refine gate_callee (f := 8) rfl ?_); refine goesL_ (some 22) rfl rfl Tryd.func8 (by kernel_rfl) rfl #[.string t130, .bool a1, .bool a2] rfl (by (try simp only [List.map_toArray, List.map_cons, List.map_nil]); first | done | rfl | (simp only [List.length_drop, List.length_take]; rfl)) ?_; (with_reducible refine (base64_Decode.calls k t130 a1 a2 t131 t132 _ A8.out).mono ?_); rintro e w30 ⟨v133, rfl, ho0, hb⟩; refine ⟨_, rfl, ?_⟩; have n0_ := Aside0.mk (Kd.R_lower ho0 (below_size (by repeat (first | (with_reducible first | exact HB.out | apply below_alloc | apply pw_below_drewN | apply below_drew1) | exact HB.out)))); have n1_ := Aside0.mk (below_step (by repeat (first | (with_reducible first | exact HB.out | apply below_alloc | apply pw_below_drewN | apply below_drew1) | exact HB.out)) hb); clear HB; have HO134 := n0_; have HB := n1_; clear n0_ n1_; (try clear hb); (try clear hb2); (try clear hk); (try clear hi); (try clear ho0)) | ((with_reducible refine gate_callee (f := 9) rfl ?_); refine goesL_ (some 29) rfl rfl Tryd.func9 (by kernel_rfl) rfl #[.slice A0 l0.length c0, .bool a1, .bool a2] rfl (by (try simp only [List.map_toArray, List.map_cons, List.map_nil]); first | done | rfl | (simp only [List.length_drop, List.length_take]; rfl)) ?_; (with_reducible refine (monikerref34_Encode.calls k _ _ l0 a1 a2 t135 _ ?side1 ?side2 A9.out).mono ?_); (case side1 => repeat (first | exact (Kd.C_below HR0.out HB.out) | (with_reducible refine Kd.C_alloc ?_ _) | (with_reducible refine Kd.C_drewN ?_ _) | (with_reducible refine Kd.C_drew ?_))); (case side2 => exact HC0.out); rintro e w' ⟨rfl, ⟨nd, rfl⟩⟩; refine ⟨_, rfl, ?_⟩))
      go_ret
      exact ⟨by first | rfl | (simp [errW_none, errW_some] <;> rfl) | (simp [*, errW_none, errW_some] <;> rfl), by repeat (first | (with_reducible first | exact HB.out | apply below_alloc | apply pw_below_drewN | apply below_drew1) | exact HB.out)⟩

/-- THE ONE PURE STATEMENT of monikerlaw34_Base64Encodes: yours. -/
def monikerlaw34_Base64Encodes.Pure : Prop := ∀ (l0 : List Int) (a1 : Bool) (a2 : Bool), l0.length ≤ maxLen → l0.length * 1 ≤ 140737488351232 → (∀ x ∈ l0, (Lit.int .u8 x).wf = true) → ∃ k, monikerlaw34_Base64Encodes.f k l0 a1 a2 = some true
theorem monikerlaw34_Base64Encodes.walk (P : monikerlaw34_Base64Encodes.Pure) (a0 : Option Addr) (len0 cap0 : Nat) (z0 : List Int) (a1 : Bool) (a2 : Bool) (w : World) (w0 : (a0 = none ∧ len0 = 0 ∧ cap0 = 0 ∧ z0 = []) ∨ ∃ x, a0 = some x ∧ len0 ≤ cap0 ∧ cap0 ≤ maxLen ∧ z0.length = cap0 ∧ (∀ i, i < z0.length → w.cell? (x.add i) = some (.int .u8 (z0.getD i 0))) ∧ ∀ n ∈ z0, (Lit.int .u8 n).wf = true) (y0 : len0 * 1 ≤ 140737488351232) :
    Calls Tryd.prog 3 #[.slice a0 len0 cap0, .bool a1, .bool a2] w fun e w' => e = .returned (.bool true) ∧ Below w.heap.size w w' := by
  obtain ⟨l0, rfl, hr0, hm0, hw0, hc0⟩ := ReadsInt.ofRowC w0
  obtain ⟨k, h⟩ := P l0 a1 a2 hm0 y0 hw0
  refine (monikerlaw34_Base64Encodes.calls k _ _ l0 a1 a2 true w (Kd.C_of_reads (d := (0 : Int)) (h1 := fun _ => rfl) hr0) hc0 h).mono ?_
  rintro e w' ⟨rfl, hd⟩
  exact ⟨rfl, hd⟩

end Go.Proofs.YtfjoigkgpdgnbaaDoor.PAll
