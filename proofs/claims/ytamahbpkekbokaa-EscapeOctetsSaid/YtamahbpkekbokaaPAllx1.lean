-- SPLICED by sprint.py: out of the kit's printer, with some functions by this session's own texts. No printed file. Lean checks it.
import Derived.Test.YtamahbpkekbokaaPAllx0
namespace Go.Proofs.Ytamahbpkekbokaa.PAll
open Go.RowKit Go.Proofs.YtamahbpkekbokaaW.PrintWords Go.Proofs.YtamahbpkekbokaaW.PrintLast Go.Proofs.YtamahbpkekbokaaW.PrintMore
attribute [local go_sem] max2_int min2_int max_two min_two max_three min_three max_four min_four   -- for this text's walks alone
set_option linter.unusedVariables false
set_option linter.unusedSimpArgs false

/-- The digit of a number below sixteen. -/
def hexD (d : Nat) : Int := if d < 10 then 48 + d else 55 + d
def hexS : ByteArray := ⟨#[48, 49, 50, 51, 52, 53, 54, 55, 56, 57, 65, 66, 67, 68, 69, 70]⟩
theorem hexS_cut : ∀ d : Nat, d < 16 → hexS.extract d (d + 1) = strOfNums [hexD d] := by decide
theorem of_cat (x y : Int) : ((⟨#[37]⟩ : ByteArray) ++ strOfNums [x]) ++ strOfNums [y] = strOfNums [37, x, y] := rfl

/-! ### octet_Nibble: function 26 -/
def octet_Nibble.j0 : Nat → Int → Bool → Option (Int × Bool)
  | 0, _, _ => none
  | k + 1, x0, x4 => if x4 = true then (some (0, false)) else (if x0 < 10 then (some ((wrap64 (48 + x0)) % 256, true)) else (some ((wrap64 ((wrap64 (65 + x0)) - 10)) % 256, true)))
def octet_Nibble.f (k : Nat) (a0 : Int) : Option (Int × Bool) := if a0 < 0 then (octet_Nibble.j0 k a0 true) else (octet_Nibble.j0 k a0 (decide (a0 > 15)))
theorem octet_Nibble.mono_l : ∀ k, (∀ y0 y1, LeO (octet_Nibble.j0 k y0 y1) (octet_Nibble.j0 (k + 1) y0 y1))
  | 0 => fun _ _ r h => by simp [octet_Nibble.j0] at h
  | k + 1 => by
    have ih0 := octet_Nibble.mono_l k
    · intro y0 y1
      unfold octet_Nibble.j0
      repeat' first
      | (with_reducible exact ih0 _ _)
      | (with_reducible exact LeO.refl _)
      | (with_reducible exact LeO.none _)
      | (with_reducible refine LeO.ite ?_ ?_)
      | (with_reducible refine LeO.bind ?_ (fun _ => ?_))
      | exact ih0 _ _
      | exact LeO.none _
      | refine LeO.ite ?_ ?_
      | refine LeO.bind ?_ (fun _ => ?_)
theorem octet_Nibble.mono : ∀ a0 k, LeO (octet_Nibble.f k a0) (octet_Nibble.f (k + 1) a0) := by
  intro a0 k
  have ih0 := octet_Nibble.mono_l k
  unfold octet_Nibble.f
  repeat' first
      | (with_reducible exact ih0 _ _)
      | (with_reducible exact LeO.refl _)
      | (with_reducible exact LeO.none _)
      | (with_reducible refine LeO.ite ?_ ?_)
      | (with_reducible refine LeO.bind ?_ (fun _ => ?_))
      | exact ih0 _ _
      | exact LeO.none _
      | refine LeO.ite ?_ ?_
      | refine LeO.bind ?_ (fun _ => ?_)
set_option maxHeartbeats 8000000 in
set_option maxRecDepth 100000 in
theorem octet_Nibble.calls (k : Nat) (a0 : Int) (r1 : Int) (r2 : Bool) (w : World) (h : octet_Nibble.f k a0 = some (r1, r2)) :
    Calls Try.prog 26 #[.int .i64 a0] w fun e w' => e = .returned (.tuple #[.int .u8 r1, .bool r2]) ∧ Drawn0 w w' := by
  have H : (if a0 < 0 then (octet_Nibble.j0 k a0 true) else (octet_Nibble.j0 k a0 (decide (a0 > 15)))) = some (r1, r2) := h
  clear h
  have HC2 := Aside0.mk H
  clear H
  go_enter Try.func26, Try.ntmps26
  go_upto_region 1 with (fail)
  go_cut [4] (fun v4 wc => ∃ (kq : Nat) (x4_1 : Bool), v4 = .bool x4_1 ∧ Aside0 (octet_Nibble.j0 kq a0 x4_1 = some (r1, r2)) ∧ Aside0 (kq ≤ k) ∧ Drawn0 w wc)
  case first =>
    have H := HC2.out
    clear HC2
    by_cases c3 : a0 < 0
    · rw [if_pos c3] at H
      have c3b0 : decide (a0 < 0) = true := decide_eq_true c3
      clear c3
      (first | rw [c3b0] | (simp only [i64_w, i32_w]; rw [c3b0]) | skip)
      have H' := Aside0.mk H
      clear H
      go_wp2
      go_meet
      case rel => exact ⟨_, (true), (by first | rfl | (simp; done) | (simp [*]; done)), H', ⟨by first | omega | exact Nat.le_refl _⟩, by repeat (first | exact Drawn0.refl _ | apply Drawn0.step)⟩
    · rw [if_neg c3] at H
      have c3b0 : decide (a0 < 0) = false := decide_eq_false c3
      clear c3
      (first | rw [c3b0] | (simp only [i64_w, i32_w]; rw [c3b0]) | skip)
      have H' := Aside0.mk H
      clear H
      go_wp2
      go_meet
      case rel => exact ⟨_, (decide (a0 > 15)), (by first | rfl | (simp; done) | (simp [*]; done)), H', ⟨by first | omega | exact Nat.le_refl _⟩, by repeat (first | exact Drawn0.refl _ | apply Drawn0.step)⟩
  case rest =>
    clear HC2
    try clear c2
    try clear p2
    try clear c3
    try clear c3b0
    obtain ⟨kq, x4_1, rfl, HA, HJ1, ⟨mc1, rfl⟩⟩ := hcut
    cases kq with
    | zero => exact absurd HA.out (by simp [octet_Nibble.j0])
    | succ kj1 =>
      have H := HA.out
      clear HA
      simp only [octet_Nibble.j0] at H
      by_cases c4 : x4_1 = true
      · subst c4
        have H1 : (some (0, false)) = some (r1, r2) := by rw [if_pos rfl] at H; exact H
        clear H
        have H := H1
        clear H1
        simp only [Option.some.injEq, Prod.mk.injEq] at H
        obtain ⟨rfl, rfl⟩ := H
        go_wp2
        go_ret2
        exact ⟨by first | rfl | (simp; done) | (simp [*]; done), by repeat (first | exact Drawn0.refl _ | apply Drawn0.step)⟩
      · replace c4 := Bool.eq_false_iff.mpr c4
        subst c4
        have H1 : (if a0 < 10 then (some ((wrap64 (48 + a0)) % 256, true)) else (some ((wrap64 ((wrap64 (65 + a0)) - 10)) % 256, true))) = some (r1, r2) := by rw [if_neg (show ¬ (false = true) by decide)] at H; exact H
        clear H
        have H := H1
        clear H1
        by_cases c5 : a0 < 10
        · rw [if_pos c5] at H
          have c5b0 : decide (a0 < 10) = true := decide_eq_true c5
          clear c5
          simp only [Option.some.injEq, Prod.mk.injEq] at H
          obtain ⟨rfl, rfl⟩ := H
          go_wp2
          go_ret2
          exact ⟨by first | rfl | (simp; done) | (simp [*]; done), by repeat (first | exact Drawn0.refl _ | apply Drawn0.step)⟩
        · rw [if_neg c5] at H
          have c5b0 : decide (a0 < 10) = false := decide_eq_false c5
          clear c5
          simp only [Option.some.injEq, Prod.mk.injEq] at H
          obtain ⟨rfl, rfl⟩ := H
          go_wp2
          go_ret2
          exact ⟨by first | rfl | (simp; done) | (simp [*]; done), by repeat (first | exact Drawn0.refl _ | apply Drawn0.step)⟩

/-! ### escape_Of: function 11 -/
def escape_Of.f (k : Nat) (a0 : Int) : Option (ByteArray) := (octet_Nibble.f k (wrap64 (a0 / 16))).bind fun bt101 => ((octet_Nibble.f k (wrap64 (Go.bits .and .u8 a0 15))).bind fun bt103 => (some (strOfNums (([37, bt101.1, bt103.1] : List Int)))))
theorem escape_Of.mono : ∀ a0 k, LeO (escape_Of.f k a0) (escape_Of.f (k + 1) a0) := by
  intro a0 k
  unfold escape_Of.f
  repeat' first
      | (with_reducible exact octet_Nibble.mono _ _)
      | (with_reducible exact LeO.refl _)
      | (with_reducible exact LeO.none _)
      | (with_reducible refine LeO.ite ?_ ?_)
      | (with_reducible refine LeO.bind ?_ (fun _ => ?_))
      | exact octet_Nibble.mono _ _
      | exact LeO.none _
      | refine LeO.ite ?_ ?_
      | refine LeO.bind ?_ (fun _ => ?_)
set_option maxHeartbeats 8000000 in
set_option maxRecDepth 100000 in
theorem escape_Of.calls (k : Nat) (a0 : Int) (r : ByteArray) (w : World) (h : escape_Of.f k a0 = some r) :
    Calls Try.prog 11 #[.int .u8 a0] w fun e w' => e = .returned (.string r) ∧ Below w.heap.size w w' := by
  have HB := Aside0.mk (Below.refl w.heap.size w)
  have H : ((octet_Nibble.f k (wrap64 (a0 / 16))).bind fun bt101 => ((octet_Nibble.f k (wrap64 (Go.bits .and .u8 a0 15))).bind fun bt103 => (some (strOfNums (([37, bt101.1, bt103.1] : List Int)))))) = some r := h
  clear h
  replace H := Option.bind_eq_some_iff.mp H
  obtain ⟨⟨t101, t102⟩, A20, H⟩ := H
  replace H : ((octet_Nibble.f k (wrap64 (Go.bits .and .u8 a0 15))).bind fun bt103 => (some (strOfNums (([37, t101, bt103.1] : List Int))))) = some r := H
  have A2 := Aside0.mk A20
  clear A20
  replace H := Option.bind_eq_some_iff.mp H
  obtain ⟨⟨t103, t104⟩, A30, H⟩ := H
  replace H : (some (strOfNums (([37, t101, t103] : List Int)))) = some r := H
  have A3 := Aside0.mk A30
  clear A30
  obtain ⟨y105, hy105⟩ : ∃ y_ : List Int, y_ = (([37, t101, t103] : List Int)) := ⟨_, rfl⟩
  replace H : (some (strOfNums y105)) = some r := by first | (rw [hy105]; with_reducible exact H) | (have H2_ := (Option.bind_some _ _).symm.trans H; rw [hy105]; with_reducible exact H2_) | (have H2_ := (Option.bind_some _ _).symm.trans H; with_reducible exact H2_) | with_reducible exact H | (rw [hy105]; exact H) | exact H
  have Ny105 := Aside0.mk hy105
  clear hy105
  obtain rfl := Option.some.inj H
  go_enter Try.func11, Try.ntmps11
  go_wp2_with (first | ((with_reducible refine gate_callee (f := 26) rfl ?_); refine goesL_ (some 11) rfl rfl Try.func26 (by kernel_rfl) rfl #[.int .i64 (wrap64 (a0 / 16))] rfl (by (try simp only [List.map_toArray, List.map_cons, List.map_nil]); first | done | rfl | (simp only [List.length_drop, List.length_take]; rfl)) ?_; (with_reducible refine (octet_Nibble.calls k (wrap64 (a0 / 16)) t101 t102 _ A2.out).mono ?_); rintro e w' ⟨rfl, ⟨nd, rfl⟩⟩; refine ⟨_, rfl, ?_⟩) | ((with_reducible refine gate_callee (f := 26) rfl ?_); refine goesL_ (some 18) rfl rfl Try.func26 (by kernel_rfl) rfl #[.int .i64 (wrap64 (Go.bits .and .u8 a0 15))] rfl (by (try simp only [List.map_toArray, List.map_cons, List.map_nil]); first | done | rfl | (simp only [List.length_drop, List.length_take]; rfl)) ?_; (with_reducible refine (octet_Nibble.calls k (wrap64 (Go.bits .and .u8 a0 15)) t103 t104 _ A3.out).mono ?_); rintro e w' ⟨rfl, ⟨nd, rfl⟩⟩; refine ⟨_, rfl, ?_⟩) | ((with_reducible refine gate_dst (N := 23) rfl ?_); refine Kd.R_lit (Kd.int .u8) _ 5 ?hg (N := 23) ?hd (xs := ([37, t101, t103] : List Int)) (inner := [.int .u8 37, .int .u8 t101, .int .u8 t103]) (ok := fun _ => True) (okp := fun _ => True) ?hr ?hp (fun _ hk => hk) trivial (Below.refl _ _) (Nat.le_refl _) (by simp) ?_; (case hd => rfl); (case hg => rfl); (case hr => first | (go_simp; done) | (go_simp; rfl)); (case hp => exact (Reps.one (show Kd.M (Kd.int .u8) _ _ _ 37 [.int .u8 37] from rfl) (Reps.one (show Kd.M (Kd.int .u8) _ _ _ t101 [.int .u8 t101] from rfl) (Reps.one (show Kd.M (Kd.int .u8) _ _ _ t103 [.int .u8 t103] from rfl) (Reps.none _ _))))); intro v106 w4 ho5 hb hg_ hnew_; clear hg_ hnew_; (first | rw [← Ny105.out] at ho5 | (simp only [Int.reduceToNat] at ho5; rw [← Ny105.out] at ho5)); have n0_ := Aside0.mk (Kd.R_lower ho5 (below_size (by repeat (first | (with_reducible first | exact HB.out | apply below_alloc | apply pw_below_drewN | apply below_drew1) | exact HB.out)))); have n1_ := Aside0.mk (below_step (by repeat (first | (with_reducible first | exact HB.out | apply below_alloc | apply pw_below_drewN | apply below_drew1) | exact HB.out)) hb); clear HB; have HO107 := n0_; have HB := n1_; clear n0_ n1_; clear hb ho5; have hcv6 := own_string (P := Try.prog) Try.underlying36 Try.underlying5 Try.underlying9 (Kd.own_of_R HO107.out)))
  go_ret
  exact ⟨by first | rfl | (simp [errW_none, errW_some] <;> rfl) | (simp [*, errW_none, errW_some] <;> rfl), by repeat (first | (with_reducible first | exact HB.out | apply below_alloc | apply pw_below_drewN | apply below_drew1) | exact HB.out)⟩

/-! ### octet_sign: function 36 -/
mutual
def octet_sign.j0 : Nat → Int → Bool → Option (Int)
  | 0, _, _ => none
  | k + 1, x3, x4 => if x4 = true then (some 4) else (if x3 = 33 then (octet_sign.j1 k x3 (x3 == 33)) else (if x3 = 36 then (octet_sign.j1 k x3 (x3 == 36)) else (if x3 = 38 then (octet_sign.j1 k x3 (x3 == 38)) else (if x3 = 39 then (octet_sign.j1 k x3 (x3 == 39)) else (if x3 = 40 then (octet_sign.j1 k x3 (x3 == 40)) else (if x3 = 41 then (octet_sign.j1 k x3 (x3 == 41)) else (if x3 = 42 then (octet_sign.j1 k x3 (x3 == 42)) else (if x3 = 43 then (octet_sign.j1 k x3 (x3 == 43)) else (if x3 = 44 then (octet_sign.j1 k x3 (x3 == 44)) else (if x3 = 59 then (octet_sign.j1 k x3 (x3 == 59)) else (octet_sign.j1 k x3 (x3 == 61))))))))))))
def octet_sign.j1 : Nat → Int → Bool → Option (Int)
  | 0, _, _ => none
  | k + 1, x3, x9 => if x9 = true then (some 8) else (if x3 = 58 then (some 16) else (if x3 = 47 then (some 16) else (if x3 = 63 then (some 16) else (if x3 = 35 then (some 16) else (if x3 = 91 then (some 16) else (if x3 = 93 then (some 16) else (if x3 = 64 then (some 16) else (some 0))))))))
end
def octet_sign.f (k : Nat) (a0 : Int) : Option (Int) := if a0 = 45 then (octet_sign.j0 k a0 (a0 == 45)) else (if a0 = 46 then (octet_sign.j0 k a0 (a0 == 46)) else (if a0 = 95 then (octet_sign.j0 k a0 (a0 == 95)) else (octet_sign.j0 k a0 (a0 == 126))))
theorem octet_sign.mono_l : ∀ k, (∀ y0 y1, LeO (octet_sign.j0 k y0 y1) (octet_sign.j0 (k + 1) y0 y1)) ∧ (∀ y0 y1, LeO (octet_sign.j1 k y0 y1) (octet_sign.j1 (k + 1) y0 y1))
  | 0 => ⟨fun _ _ r h => by simp [octet_sign.j0] at h, fun _ _ r h => by simp [octet_sign.j1] at h⟩
  | k + 1 => by
    obtain ⟨ih0, ih1⟩ := octet_sign.mono_l k
    refine ⟨?_, ?_⟩
    · intro y0 y1
      unfold octet_sign.j0
      repeat' first
      | (with_reducible exact ih0 _ _)
      | (with_reducible exact ih1 _ _)
      | (with_reducible exact LeO.refl _)
      | (with_reducible exact LeO.none _)
      | (with_reducible refine LeO.ite ?_ ?_)
      | (with_reducible refine LeO.bind ?_ (fun _ => ?_))
      | exact ih0 _ _
      | exact ih1 _ _
      | exact LeO.none _
      | refine LeO.ite ?_ ?_
      | refine LeO.bind ?_ (fun _ => ?_)
    · intro y0 y1
      unfold octet_sign.j1
      repeat' first
      | (with_reducible exact ih0 _ _)
      | (with_reducible exact ih1 _ _)
      | (with_reducible exact LeO.refl _)
      | (with_reducible exact LeO.none _)
      | (with_reducible refine LeO.ite ?_ ?_)
      | (with_reducible refine LeO.bind ?_ (fun _ => ?_))
      | exact ih0 _ _
      | exact ih1 _ _
      | exact LeO.none _
      | refine LeO.ite ?_ ?_
      | refine LeO.bind ?_ (fun _ => ?_)
theorem octet_sign.mono : ∀ a0 k, LeO (octet_sign.f k a0) (octet_sign.f (k + 1) a0) := by
  intro a0 k
  obtain ⟨ih0, ih1⟩ := octet_sign.mono_l k
  unfold octet_sign.f
  repeat' first
      | (with_reducible exact ih0 _ _)
      | (with_reducible exact ih1 _ _)
      | (with_reducible exact LeO.refl _)
      | (with_reducible exact LeO.none _)
      | (with_reducible refine LeO.ite ?_ ?_)
      | (with_reducible refine LeO.bind ?_ (fun _ => ?_))
      | exact ih0 _ _
      | exact ih1 _ _
      | exact LeO.none _
      | refine LeO.ite ?_ ?_
      | refine LeO.bind ?_ (fun _ => ?_)
set_option maxHeartbeats 8000000 in
set_option maxRecDepth 100000 in
theorem octet_sign.calls (k : Nat) (a0 : Int) (r : Int) (w : World) (h : octet_sign.f k a0 = some r) :
    Calls Try.prog 36 #[.int .u8 a0] w fun e w' => e = .returned (.int .i64 r) ∧ Drawn0 w w' := by
  have H : (if a0 = 45 then (octet_sign.j0 k a0 (a0 == 45)) else (if a0 = 46 then (octet_sign.j0 k a0 (a0 == 46)) else (if a0 = 95 then (octet_sign.j0 k a0 (a0 == 95)) else (octet_sign.j0 k a0 (a0 == 126))))) = some r := h
  clear h
  have HC2 := Aside0.mk H
  clear H
  go_enter Try.func36, Try.ntmps36
  go_upto_if 4 with (fail)
  go_cut [4] (fun v4 wc => ∃ (kq : Nat) (x4_1 : Bool), v4 = .bool x4_1 ∧ Aside0 (octet_sign.j0 kq a0 x4_1 = some r) ∧ Aside0 (kq ≤ k) ∧ Drawn0 w wc)
  case first =>
    have H := HC2.out
    clear HC2
    by_cases c3 : a0 = 45
    · rw [if_pos c3] at H
      have c3b0 : (a0 == 45) = true := beq_iff_eq.mpr c3
      have c3b1 : (a0 != 45) = false := bne_eq_false_iff_eq.mpr c3
      clear c3
      (first | rw [c3b0] | (simp only [i64_w, i32_w]; rw [c3b0]) | skip)
      have H' := Aside0.mk H
      clear H
      go_wp2
      go_meet
      case rel => exact ⟨_, ((a0 == 45)), (by first | rfl | (simp; done) | (simp [*]; done)), H', ⟨by first | omega | exact Nat.le_refl _⟩, by repeat (first | exact Drawn0.refl _ | apply Drawn0.step)⟩
    · rw [if_neg c3] at H
      have c3b0 : (a0 == 45) = false := beq_eq_false_iff_ne.mpr c3
      have c3b1 : (a0 != 45) = true := bne_iff_ne.mpr c3
      (first | rw [c3b0] | (simp only [i64_w, i32_w]; rw [c3b0]) | skip)
      by_cases c4 : a0 = 46
      · rw [if_pos c4] at H
        have c4b0 : (a0 == 46) = true := beq_iff_eq.mpr c4
        have c4b1 : (a0 != 46) = false := bne_eq_false_iff_eq.mpr c4
        clear c4
        have H' := Aside0.mk H
        clear H
        go_wp2
        go_meet
        case rel => exact ⟨_, ((a0 == 46)), (by first | rfl | (simp; done) | (simp [*]; done)), H', ⟨by first | omega | exact Nat.le_refl _⟩, by repeat (first | exact Drawn0.refl _ | apply Drawn0.step)⟩
      · rw [if_neg c4] at H
        have c4b0 : (a0 == 46) = false := beq_eq_false_iff_ne.mpr c4
        have c4b1 : (a0 != 46) = true := bne_iff_ne.mpr c4
        by_cases c5 : a0 = 95
        · rw [if_pos c5] at H
          have c5b0 : (a0 == 95) = true := beq_iff_eq.mpr c5
          have c5b1 : (a0 != 95) = false := bne_eq_false_iff_eq.mpr c5
          clear c5
          have H' := Aside0.mk H
          clear H
          go_wp2
          go_meet
          case rel => exact ⟨_, ((a0 == 95)), (by first | rfl | (simp; done) | (simp [*]; done)), H', ⟨by first | omega | exact Nat.le_refl _⟩, by repeat (first | exact Drawn0.refl _ | apply Drawn0.step)⟩
        · rw [if_neg c5] at H
          have c5b0 : (a0 == 95) = false := beq_eq_false_iff_ne.mpr c5
          have c5b1 : (a0 != 95) = true := bne_iff_ne.mpr c5
          have H' := Aside0.mk H
          clear H
          go_wp2
          go_meet
          case rel => exact ⟨_, ((a0 == 126)), (by first | rfl | (simp; done) | (simp [*]; done)), H', ⟨by first | omega | exact Nat.le_refl _⟩, by repeat (first | exact Drawn0.refl _ | apply Drawn0.step)⟩
  case rest =>
    clear HC2
    try clear p2
    try clear c3
    try clear c3b0
    try clear c3b1
    try clear c4
    try clear c4b0
    try clear c4b1
    try clear c5
    try clear c5b0
    try clear c5b1
    obtain ⟨kq, x4_1, rfl, HA, HJ1, ⟨mc1, rfl⟩⟩ := hcut
    cases kq with
    | zero => exact absurd HA.out (by simp [octet_sign.j0])
    | succ kj1 =>
      have H := HA.out
      clear HA
      simp only [octet_sign.j0] at H
      by_cases c6 : x4_1 = true
      · subst c6
        have H1 : (some 4) = some r := by rw [if_pos rfl] at H; exact H
        clear H
        have H := H1
        clear H1
        obtain rfl := Option.some.inj H
        go_wp2
        go_ret
        exact ⟨by first | rfl | (simp; done) | (simp [*]; done), by repeat (first | exact Drawn0.refl _ | apply Drawn0.step)⟩
      · replace c6 := Bool.eq_false_iff.mpr c6
        subst c6
        have H1 : (if a0 = 33 then (octet_sign.j1 kj1 a0 (a0 == 33)) else (if a0 = 36 then (octet_sign.j1 kj1 a0 (a0 == 36)) else (if a0 = 38 then (octet_sign.j1 kj1 a0 (a0 == 38)) else (if a0 = 39 then (octet_sign.j1 kj1 a0 (a0 == 39)) else (if a0 = 40 then (octet_sign.j1 kj1 a0 (a0 == 40)) else (if a0 = 41 then (octet_sign.j1 kj1 a0 (a0 == 41)) else (if a0 = 42 then (octet_sign.j1 kj1 a0 (a0 == 42)) else (if a0 = 43 then (octet_sign.j1 kj1 a0 (a0 == 43)) else (if a0 = 44 then (octet_sign.j1 kj1 a0 (a0 == 44)) else (if a0 = 59 then (octet_sign.j1 kj1 a0 (a0 == 59)) else (octet_sign.j1 kj1 a0 (a0 == 61)))))))))))) = some r := by rw [if_neg (show ¬ (false = true) by decide)] at H; exact H
        clear H
        have H := H1
        clear H1
        have HC7 := Aside0.mk H
        clear H
        go_upto_if 9 with (fail)
        go_cut [9] (fun v9 wc => ∃ (kq : Nat) (x9_6 : Bool), v9 = .bool x9_6 ∧ Aside0 (octet_sign.j1 kq a0 x9_6 = some r) ∧ Aside0 (kq ≤ kj1) ∧ Drawn0 w wc)
        case first =>
          have H := HC7.out
          clear HC7
          by_cases c8 : a0 = 33
          · rw [if_pos c8] at H
            have c8b0 : (a0 == 33) = true := beq_iff_eq.mpr c8
            have c8b1 : (a0 != 33) = false := bne_eq_false_iff_eq.mpr c8
            clear c8
            (first | rw [c8b0] | (simp only [i64_w, i32_w]; rw [c8b0]) | skip)
            have H' := Aside0.mk H
            clear H
            go_wp2
            go_meet
            case rel => exact ⟨_, ((a0 == 33)), (by first | rfl | (simp; done) | (simp [*]; done)), H', ⟨by have := HJ1.out; first | omega | exact Nat.le_refl _⟩, by repeat (first | exact Drawn0.refl _ | apply Drawn0.step)⟩
          · rw [if_neg c8] at H
            have c8b0 : (a0 == 33) = false := beq_eq_false_iff_ne.mpr c8
            have c8b1 : (a0 != 33) = true := bne_iff_ne.mpr c8
            (first | rw [c8b0] | (simp only [i64_w, i32_w]; rw [c8b0]) | skip)
            by_cases c9 : a0 = 36
            · rw [if_pos c9] at H
              have c9b0 : (a0 == 36) = true := beq_iff_eq.mpr c9
              have c9b1 : (a0 != 36) = false := bne_eq_false_iff_eq.mpr c9
              clear c9
              have H' := Aside0.mk H
              clear H
              go_wp2
              go_meet
              case rel => exact ⟨_, ((a0 == 36)), (by first | rfl | (simp; done) | (simp [*]; done)), H', ⟨by have := HJ1.out; first | omega | exact Nat.le_refl _⟩, by repeat (first | exact Drawn0.refl _ | apply Drawn0.step)⟩
            · rw [if_neg c9] at H
              have c9b0 : (a0 == 36) = false := beq_eq_false_iff_ne.mpr c9
              have c9b1 : (a0 != 36) = true := bne_iff_ne.mpr c9
              by_cases c10 : a0 = 38
              · rw [if_pos c10] at H
                have c10b0 : (a0 == 38) = true := beq_iff_eq.mpr c10
                have c10b1 : (a0 != 38) = false := bne_eq_false_iff_eq.mpr c10
                clear c10
                have H' := Aside0.mk H
                clear H
                go_wp2
                go_meet
                case rel => exact ⟨_, ((a0 == 38)), (by first | rfl | (simp; done) | (simp [*]; done)), H', ⟨by have := HJ1.out; first | omega | exact Nat.le_refl _⟩, by repeat (first | exact Drawn0.refl _ | apply Drawn0.step)⟩
              · rw [if_neg c10] at H
                have c10b0 : (a0 == 38) = false := beq_eq_false_iff_ne.mpr c10
                have c10b1 : (a0 != 38) = true := bne_iff_ne.mpr c10
                by_cases c11 : a0 = 39
                · rw [if_pos c11] at H
                  have c11b0 : (a0 == 39) = true := beq_iff_eq.mpr c11
                  have c11b1 : (a0 != 39) = false := bne_eq_false_iff_eq.mpr c11
                  clear c11
                  have H' := Aside0.mk H
                  clear H
                  go_wp2
                  go_meet
                  case rel => exact ⟨_, ((a0 == 39)), (by first | rfl | (simp; done) | (simp [*]; done)), H', ⟨by have := HJ1.out; first | omega | exact Nat.le_refl _⟩, by repeat (first | exact Drawn0.refl _ | apply Drawn0.step)⟩
                · rw [if_neg c11] at H
                  have c11b0 : (a0 == 39) = false := beq_eq_false_iff_ne.mpr c11
                  have c11b1 : (a0 != 39) = true := bne_iff_ne.mpr c11
                  by_cases c12 : a0 = 40
                  · rw [if_pos c12] at H
                    have c12b0 : (a0 == 40) = true := beq_iff_eq.mpr c12
                    have c12b1 : (a0 != 40) = false := bne_eq_false_iff_eq.mpr c12
                    clear c12
                    have H' := Aside0.mk H
                    clear H
                    go_wp2
                    go_meet
                    case rel => exact ⟨_, ((a0 == 40)), (by first | rfl | (simp; done) | (simp [*]; done)), H', ⟨by have := HJ1.out; first | omega | exact Nat.le_refl _⟩, by repeat (first | exact Drawn0.refl _ | apply Drawn0.step)⟩
                  · rw [if_neg c12] at H
                    have c12b0 : (a0 == 40) = false := beq_eq_false_iff_ne.mpr c12
                    have c12b1 : (a0 != 40) = true := bne_iff_ne.mpr c12
                    by_cases c13 : a0 = 41
                    · rw [if_pos c13] at H
                      have c13b0 : (a0 == 41) = true := beq_iff_eq.mpr c13
                      have c13b1 : (a0 != 41) = false := bne_eq_false_iff_eq.mpr c13
                      clear c13
                      have H' := Aside0.mk H
                      clear H
                      go_wp2
                      go_meet
                      case rel => exact ⟨_, ((a0 == 41)), (by first | rfl | (simp; done) | (simp [*]; done)), H', ⟨by have := HJ1.out; first | omega | exact Nat.le_refl _⟩, by repeat (first | exact Drawn0.refl _ | apply Drawn0.step)⟩
                    · rw [if_neg c13] at H
                      have c13b0 : (a0 == 41) = false := beq_eq_false_iff_ne.mpr c13
                      have c13b1 : (a0 != 41) = true := bne_iff_ne.mpr c13
                      by_cases c14 : a0 = 42
                      · rw [if_pos c14] at H
                        have c14b0 : (a0 == 42) = true := beq_iff_eq.mpr c14
                        have c14b1 : (a0 != 42) = false := bne_eq_false_iff_eq.mpr c14
                        clear c14
                        have H' := Aside0.mk H
                        clear H
                        go_wp2
                        go_meet
                        case rel => exact ⟨_, ((a0 == 42)), (by first | rfl | (simp; done) | (simp [*]; done)), H', ⟨by have := HJ1.out; first | omega | exact Nat.le_refl _⟩, by repeat (first | exact Drawn0.refl _ | apply Drawn0.step)⟩
                      · rw [if_neg c14] at H
                        have c14b0 : (a0 == 42) = false := beq_eq_false_iff_ne.mpr c14
                        have c14b1 : (a0 != 42) = true := bne_iff_ne.mpr c14
                        by_cases c15 : a0 = 43
                        · rw [if_pos c15] at H
                          have c15b0 : (a0 == 43) = true := beq_iff_eq.mpr c15
                          have c15b1 : (a0 != 43) = false := bne_eq_false_iff_eq.mpr c15
                          clear c15
                          have H' := Aside0.mk H
                          clear H
                          go_wp2
                          go_meet
                          case rel => exact ⟨_, ((a0 == 43)), (by first | rfl | (simp; done) | (simp [*]; done)), H', ⟨by have := HJ1.out; first | omega | exact Nat.le_refl _⟩, by repeat (first | exact Drawn0.refl _ | apply Drawn0.step)⟩
                        · rw [if_neg c15] at H
                          have c15b0 : (a0 == 43) = false := beq_eq_false_iff_ne.mpr c15
                          have c15b1 : (a0 != 43) = true := bne_iff_ne.mpr c15
                          by_cases c16 : a0 = 44
                          · rw [if_pos c16] at H
                            have c16b0 : (a0 == 44) = true := beq_iff_eq.mpr c16
                            have c16b1 : (a0 != 44) = false := bne_eq_false_iff_eq.mpr c16
                            clear c16
                            have H' := Aside0.mk H
                            clear H
                            go_wp2
                            go_meet
                            case rel => exact ⟨_, ((a0 == 44)), (by first | rfl | (simp; done) | (simp [*]; done)), H', ⟨by have := HJ1.out; first | omega | exact Nat.le_refl _⟩, by repeat (first | exact Drawn0.refl _ | apply Drawn0.step)⟩
                          · rw [if_neg c16] at H
                            have c16b0 : (a0 == 44) = false := beq_eq_false_iff_ne.mpr c16
                            have c16b1 : (a0 != 44) = true := bne_iff_ne.mpr c16
                            by_cases c17 : a0 = 59
                            · rw [if_pos c17] at H
                              have c17b0 : (a0 == 59) = true := beq_iff_eq.mpr c17
                              have c17b1 : (a0 != 59) = false := bne_eq_false_iff_eq.mpr c17
                              clear c17
                              have H' := Aside0.mk H
                              clear H
                              go_wp2
                              go_meet
                              case rel => exact ⟨_, ((a0 == 59)), (by first | rfl | (simp; done) | (simp [*]; done)), H', ⟨by have := HJ1.out; first | omega | exact Nat.le_refl _⟩, by repeat (first | exact Drawn0.refl _ | apply Drawn0.step)⟩
                            · rw [if_neg c17] at H
                              have c17b0 : (a0 == 59) = false := beq_eq_false_iff_ne.mpr c17
                              have c17b1 : (a0 != 59) = true := bne_iff_ne.mpr c17
                              have H' := Aside0.mk H
                              clear H
                              go_wp2
                              go_meet
                              case rel => exact ⟨_, ((a0 == 61)), (by first | rfl | (simp; done) | (simp [*]; done)), H', ⟨by have := HJ1.out; first | omega | exact Nat.le_refl _⟩, by repeat (first | exact Drawn0.refl _ | apply Drawn0.step)⟩
        case rest =>
          clear HC7
          try clear c1
          try clear p2
          try clear c3
          try clear c3b0
          try clear c3b1
          try clear c4
          try clear c4b0
          try clear c4b1
          try clear c5
          try clear c5b0
          try clear c5b1
          try clear c6
          try clear c8
          try clear c8b0
          try clear c8b1
          try clear c9
          try clear c9b0
          try clear c9b1
          try clear c10
          try clear c10b0
          try clear c10b1
          try clear c11
          try clear c11b0
          try clear c11b1
          try clear c12
          try clear c12b0
          try clear c12b1
          try clear c13
          try clear c13b0
          try clear c13b1
          try clear c14
          try clear c14b0
          try clear c14b1
          try clear c15
          try clear c15b0
          try clear c15b1
          try clear c16
          try clear c16b0
          try clear c16b1
          try clear c17
          try clear c17b0
          try clear c17b1
          try clear p2
          obtain ⟨kq, x9_6, rfl, HA, HJ6, ⟨mc6, rfl⟩⟩ := hcut
          cases kq with
          | zero => exact absurd HA.out (by simp [octet_sign.j1])
          | succ kj6 =>
            have H := HA.out
            clear HA
            simp only [octet_sign.j1] at H
            by_cases c18 : x9_6 = true
            · subst c18
              have H1 : (some 8) = some r := by rw [if_pos rfl] at H; exact H
              clear H
              have H := H1
              clear H1
              obtain rfl := Option.some.inj H
              go_wp2
              go_ret
              exact ⟨by first | rfl | (simp; done) | (simp [*]; done), by repeat (first | exact Drawn0.refl _ | apply Drawn0.step)⟩
            · replace c18 := Bool.eq_false_iff.mpr c18
              subst c18
              have H1 : (if a0 = 58 then (some 16) else (if a0 = 47 then (some 16) else (if a0 = 63 then (some 16) else (if a0 = 35 then (some 16) else (if a0 = 91 then (some 16) else (if a0 = 93 then (some 16) else (if a0 = 64 then (some 16) else (some 0)))))))) = some r := by rw [if_neg (show ¬ (false = true) by decide)] at H; exact H
              clear H
              have H := H1
              clear H1
              by_cases c19 : a0 = 58
              · rw [if_pos c19] at H
                have c19b0 : (a0 == 58) = true := beq_iff_eq.mpr c19
                have c19b1 : (a0 != 58) = false := bne_eq_false_iff_eq.mpr c19
                clear c19
                obtain rfl := Option.some.inj H
                go_wp2
                go_ret
                exact ⟨by first | rfl | (simp; done) | (simp [*]; done), by repeat (first | exact Drawn0.refl _ | apply Drawn0.step)⟩
              · rw [if_neg c19] at H
                have c19b0 : (a0 == 58) = false := beq_eq_false_iff_ne.mpr c19
                have c19b1 : (a0 != 58) = true := bne_iff_ne.mpr c19
                by_cases c20 : a0 = 47
                · rw [if_pos c20] at H
                  have c20b0 : (a0 == 47) = true := beq_iff_eq.mpr c20
                  have c20b1 : (a0 != 47) = false := bne_eq_false_iff_eq.mpr c20
                  clear c20
                  obtain rfl := Option.some.inj H
                  go_wp2
                  go_ret
                  exact ⟨by first | rfl | (simp; done) | (simp [*]; done), by repeat (first | exact Drawn0.refl _ | apply Drawn0.step)⟩
                · rw [if_neg c20] at H
                  have c20b0 : (a0 == 47) = false := beq_eq_false_iff_ne.mpr c20
                  have c20b1 : (a0 != 47) = true := bne_iff_ne.mpr c20
                  by_cases c21 : a0 = 63
                  · rw [if_pos c21] at H
                    have c21b0 : (a0 == 63) = true := beq_iff_eq.mpr c21
                    have c21b1 : (a0 != 63) = false := bne_eq_false_iff_eq.mpr c21
                    clear c21
                    obtain rfl := Option.some.inj H
                    go_wp2
                    go_ret
                    exact ⟨by first | rfl | (simp; done) | (simp [*]; done), by repeat (first | exact Drawn0.refl _ | apply Drawn0.step)⟩
                  · rw [if_neg c21] at H
                    have c21b0 : (a0 == 63) = false := beq_eq_false_iff_ne.mpr c21
                    have c21b1 : (a0 != 63) = true := bne_iff_ne.mpr c21
                    by_cases c22 : a0 = 35
                    · rw [if_pos c22] at H
                      have c22b0 : (a0 == 35) = true := beq_iff_eq.mpr c22
                      have c22b1 : (a0 != 35) = false := bne_eq_false_iff_eq.mpr c22
                      clear c22
                      obtain rfl := Option.some.inj H
                      go_wp2
                      go_ret
                      exact ⟨by first | rfl | (simp; done) | (simp [*]; done), by repeat (first | exact Drawn0.refl _ | apply Drawn0.step)⟩
                    · rw [if_neg c22] at H
                      have c22b0 : (a0 == 35) = false := beq_eq_false_iff_ne.mpr c22
                      have c22b1 : (a0 != 35) = true := bne_iff_ne.mpr c22
                      by_cases c23 : a0 = 91
                      · rw [if_pos c23] at H
                        have c23b0 : (a0 == 91) = true := beq_iff_eq.mpr c23
                        have c23b1 : (a0 != 91) = false := bne_eq_false_iff_eq.mpr c23
                        clear c23
                        obtain rfl := Option.some.inj H
                        go_wp2
                        go_ret
                        exact ⟨by first | rfl | (simp; done) | (simp [*]; done), by repeat (first | exact Drawn0.refl _ | apply Drawn0.step)⟩
                      · rw [if_neg c23] at H
                        have c23b0 : (a0 == 91) = false := beq_eq_false_iff_ne.mpr c23
                        have c23b1 : (a0 != 91) = true := bne_iff_ne.mpr c23
                        by_cases c24 : a0 = 93
                        · rw [if_pos c24] at H
                          have c24b0 : (a0 == 93) = true := beq_iff_eq.mpr c24
                          have c24b1 : (a0 != 93) = false := bne_eq_false_iff_eq.mpr c24
                          clear c24
                          obtain rfl := Option.some.inj H
                          go_wp2
                          go_ret
                          exact ⟨by first | rfl | (simp; done) | (simp [*]; done), by repeat (first | exact Drawn0.refl _ | apply Drawn0.step)⟩
                        · rw [if_neg c24] at H
                          have c24b0 : (a0 == 93) = false := beq_eq_false_iff_ne.mpr c24
                          have c24b1 : (a0 != 93) = true := bne_iff_ne.mpr c24
                          by_cases c25 : a0 = 64
                          · rw [if_pos c25] at H
                            have c25b0 : (a0 == 64) = true := beq_iff_eq.mpr c25
                            have c25b1 : (a0 != 64) = false := bne_eq_false_iff_eq.mpr c25
                            clear c25
                            obtain rfl := Option.some.inj H
                            go_wp2
                            go_ret
                            exact ⟨by first | rfl | (simp; done) | (simp [*]; done), by repeat (first | exact Drawn0.refl _ | apply Drawn0.step)⟩
                          · rw [if_neg c25] at H
                            have c25b0 : (a0 == 64) = false := beq_eq_false_iff_ne.mpr c25
                            have c25b1 : (a0 != 64) = true := bne_iff_ne.mpr c25
                            obtain rfl := Option.some.inj H
                            go_wp2
                            go_ret
                            exact ⟨by first | rfl | (simp; done) | (simp [*]; done), by repeat (first | exact Drawn0.refl _ | apply Drawn0.step)⟩

end Go.Proofs.Ytamahbpkekbokaa.PAll
