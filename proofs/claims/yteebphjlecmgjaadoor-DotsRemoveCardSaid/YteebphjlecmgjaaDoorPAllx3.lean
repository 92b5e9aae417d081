-- SPLICED by sprint.py: out of the kit's printer, with some functions by this session's own texts. No printed file. Lean checks it.
import Derived.Test.YteebphjlecmgjaaDoorPAllx0
import Derived.Test.YteebphjlecmgjaaDoorPAllx2
namespace Go.Proofs.YteebphjlecmgjaaDoor.PAll
open Go.RowKit Go.Proofs.YteebphjlecmgjaaDoorW.PrintWords Go.Proofs.YteebphjlecmgjaaDoorW.PrintLast Go.Proofs.YteebphjlecmgjaaDoorW.PrintMore
attribute [local go_sem] max2_int min2_int max_two min_two max_three min_three max_four min_four   -- for this text's walks alone
set_option linter.unusedVariables false
set_option linter.unusedSimpArgs false

/-! ### monikerref23_Remove: function 6 -/
mutual
def monikerref23_Remove.l0 : Nat → ByteArray → ByteArray → Option (ByteArray)
  | 0, _, _ => none
  | k + 1, x3, x4 => if x3.toList = ([] : List UInt8) then (some x4) else ((monikerref23_begins.f x3 (⟨#[46, 46, 47]⟩ : ByteArray)).bind fun t114 => (if t114 = true then (if 3 ≤ (x3.size : Int) then (monikerref23_Remove.l0 k (x3.extract 3 x3.size) x4) else (none)) else ((monikerref23_begins.f x3 (⟨#[46, 47]⟩ : ByteArray)).bind fun t115 => (if t115 = true then (if 2 ≤ (x3.size : Int) then (monikerref23_Remove.l0 k (x3.extract 2 x3.size) x4) else (none)) else ((monikerref23_begins.f x3 (⟨#[47, 46, 47]⟩ : ByteArray)).bind fun t116 => (if t116 = true then (if 2 ≤ (x3.size : Int) then (monikerref23_Remove.l0 k (x3.extract 2 x3.size) x4) else (none)) else (if x3.toList = ([47, 46] : List UInt8) then (monikerref23_Remove.l0 k (⟨#[47]⟩ : ByteArray) x4) else ((monikerref23_begins.f x3 (⟨#[47, 46, 46, 47]⟩ : ByteArray)).bind fun t117 => (if t117 = true then (if 3 ≤ (x3.size : Int) then ((monikerref23_cut.f k x4).bind fun t118 => (monikerref23_Remove.l0 k (x3.extract 3 x3.size) t118)) else (none)) else (if x3.toList = ([47, 46, 46] : List UInt8) then ((monikerref23_cut.f k x4).bind fun t119 => (monikerref23_Remove.l0 k (⟨#[47]⟩ : ByteArray) t119)) else (if x3.toList = ([46] : List UInt8) then (monikerref23_Remove.j1 k x3 x4 true) else (monikerref23_Remove.j1 k x3 x4 (x3.toList == ([46, 46] : List UInt8))))))))))))))
def monikerref23_Remove.j1 : Nat → ByteArray → ByteArray → Bool → Option (ByteArray)
  | 0, _, _, _ => none
  | k + 1, x3, x4, x38 => if x38 = true then (monikerref23_Remove.l0 k (⟨#[]⟩ : ByteArray) x4) else (monikerref23_Remove.l1 k x3 x4 1)
def monikerref23_Remove.l1 : Nat → ByteArray → ByteArray → Int → Option (ByteArray)
  | 0, _, _, _ => none
  | k + 1, x3, x4, x5 => if x5 < (x3.size : Int) then (if 0 ≤ x5 then (if (bt x3 x5) = 47 then (if x5 ≤ (x3.size : Int) then (if x4.size + (x3.extract 0 (x5 : Int).toNat).size ≤ 9223372036854775807 then (monikerref23_Remove.l0 k (x3.extract (x5 : Int).toNat x3.size) (x4 ++ (x3.extract 0 (x5 : Int).toNat))) else (none)) else (none)) else (monikerref23_Remove.l1 k x3 x4 (wrap64 (x5 + 1)))) else (none)) else (if 0 ≤ x5 then (if x5 ≤ (x3.size : Int) then (if x4.size + (x3.extract 0 (x5 : Int).toNat).size ≤ 9223372036854775807 then (monikerref23_Remove.l0 k (x3.extract (x5 : Int).toNat x3.size) (x4 ++ (x3.extract 0 (x5 : Int).toNat))) else (none)) else (none)) else (none))
end
def monikerref23_Remove.f (k : Nat) (a0 : ByteArray) : Option (ByteArray) := monikerref23_Remove.l0 k a0 (⟨#[]⟩ : ByteArray)
theorem monikerref23_Remove.mono_l : ∀ k, (∀ y0 y1, LeO (monikerref23_Remove.l0 k y0 y1) (monikerref23_Remove.l0 (k + 1) y0 y1)) ∧ (∀ y0 y1 y2, LeO (monikerref23_Remove.j1 k y0 y1 y2) (monikerref23_Remove.j1 (k + 1) y0 y1 y2)) ∧ (∀ y0 y1 y2, LeO (monikerref23_Remove.l1 k y0 y1 y2) (monikerref23_Remove.l1 (k + 1) y0 y1 y2))
  | 0 => ⟨fun _ _ r h => by simp [monikerref23_Remove.l0] at h, fun _ _ _ r h => by simp [monikerref23_Remove.j1] at h, fun _ _ _ r h => by simp [monikerref23_Remove.l1] at h⟩
  | k + 1 => by
    obtain ⟨ih0, ih1, ih2⟩ := monikerref23_Remove.mono_l k
    refine ⟨?_, ?_, ?_⟩
    · intro y0 y1
      unfold monikerref23_Remove.l0
      repeat' first
      | (with_reducible exact ih0 _ _)
      | (with_reducible exact ih1 _ _ _)
      | (with_reducible exact ih2 _ _ _)
      | (with_reducible exact monikerref23_cut.mono _ _)
      | (with_reducible exact LeO.refl _)
      | (with_reducible exact LeO.none _)
      | (with_reducible refine LeO.ite ?_ ?_)
      | (with_reducible refine LeO.bind ?_ (fun _ => ?_))
      | exact ih0 _ _
      | exact ih1 _ _ _
      | exact ih2 _ _ _
      | exact monikerref23_cut.mono _ _
      | exact LeO.none _
      | refine LeO.ite ?_ ?_
      | refine LeO.bind ?_ (fun _ => ?_)
    · intro y0 y1 y2
      unfold monikerref23_Remove.j1
      repeat' first
      | (with_reducible exact ih0 _ _)
      | (with_reducible exact ih1 _ _ _)
      | (with_reducible exact ih2 _ _ _)
      | (with_reducible exact monikerref23_cut.mono _ _)
      | (with_reducible exact LeO.refl _)
      | (with_reducible exact LeO.none _)
      | (with_reducible refine LeO.ite ?_ ?_)
      | (with_reducible refine LeO.bind ?_ (fun _ => ?_))
      | exact ih0 _ _
      | exact ih1 _ _ _
      | exact ih2 _ _ _
      | exact monikerref23_cut.mono _ _
      | exact LeO.none _
      | refine LeO.ite ?_ ?_
      | refine LeO.bind ?_ (fun _ => ?_)
    · intro y0 y1 y2
      unfold monikerref23_Remove.l1
      repeat' first
      | (with_reducible exact ih0 _ _)
      | (with_reducible exact ih1 _ _ _)
      | (with_reducible exact ih2 _ _ _)
      | (with_reducible exact monikerref23_cut.mono _ _)
      | (with_reducible exact LeO.refl _)
      | (with_reducible exact LeO.none _)
      | (with_reducible refine LeO.ite ?_ ?_)
      | (with_reducible refine LeO.bind ?_ (fun _ => ?_))
      | exact ih0 _ _
      | exact ih1 _ _ _
      | exact ih2 _ _ _
      | exact monikerref23_cut.mono _ _
      | exact LeO.none _
      | refine LeO.ite ?_ ?_
      | refine LeO.bind ?_ (fun _ => ?_)
theorem monikerref23_Remove.mono : ∀ a0 k, LeO (monikerref23_Remove.f k a0) (monikerref23_Remove.f (k + 1) a0) := by
  intro a0 k
  obtain ⟨ih0, ih1, ih2⟩ := monikerref23_Remove.mono_l k
  unfold monikerref23_Remove.f
  repeat' first
      | (with_reducible exact ih0 _ _)
      | (with_reducible exact ih1 _ _ _)
      | (with_reducible exact ih2 _ _ _)
      | (with_reducible exact monikerref23_cut.mono _ _)
      | (with_reducible exact LeO.refl _)
      | (with_reducible exact LeO.none _)
      | (with_reducible refine LeO.ite ?_ ?_)
      | (with_reducible refine LeO.bind ?_ (fun _ => ?_))
      | exact ih0 _ _
      | exact ih1 _ _ _
      | exact ih2 _ _ _
      | exact monikerref23_cut.mono _ _
      | exact LeO.none _
      | refine LeO.ite ?_ ?_
      | refine LeO.bind ?_ (fun _ => ?_)
set_option maxHeartbeats 8000000 in
set_option maxRecDepth 100000 in
theorem monikerref23_Remove.calls (k : Nat) (a0 : ByteArray) (r : ByteArray) (w : World) (h : monikerref23_Remove.f k a0 = some r) :
    Calls Tryd.prog 6 #[.string a0] w fun e w' => e = .returned (.string r) ∧ Drawn0 w w' := by
  have H : (monikerref23_Remove.l0 k a0 (⟨#[]⟩ : ByteArray)) = some r := h
  clear h
  have H' := Aside0.mk H
  clear H
  go_enter Tryd.func6, Tryd.ntmps6
  go_wp2
  go_loopg [3, 4] k (fun kq v3 v4 w' => ∃ (x3_1 : ByteArray) (x4_1 : ByteArray), v3 = .string x3_1 ∧ v4 = .string x4_1 ∧ Aside0 (monikerref23_Remove.l0 kq x3_1 x4_1 = some r) ∧ Aside0 (kq ≤ k) ∧ Drawn0 w w')
  case atStart => exact ⟨(a0), ((⟨#[]⟩ : ByteArray)), (by first | rfl | (simp; done) | (simp [*]; done)), (by first | rfl | (simp; done) | (simp [*]; done)), H', ⟨Nat.le_refl _⟩, by repeat (first | exact Drawn0.refl _ | apply Drawn0.step)⟩
  case round =>
    clear H'
    obtain ⟨x3_1, x4_1, rfl, rfl, HA, HK1, ⟨m1, rfl⟩⟩ := hrel
    cases gk with
    | zero => exact absurd HA.out (by simp [monikerref23_Remove.l0])
    | succ k1 =>
      have H := HA.out
      clear HA
      simp only [monikerref23_Remove.l0] at H
      by_cases c2 : x3_1.toList = ([] : List UInt8)
      · rw [if_pos c2] at H
        have c2b0 : (x3_1.toList == ([] : List UInt8)) = true := beq_iff_eq.mpr c2
        have c2b1 : (x3_1.toList != ([] : List UInt8)) = false := bne_eq_false_iff_eq.mpr c2
        clear c2
        obtain rfl := Option.some.inj H
        go_wp2
        go_ret
        exact ⟨by first | rfl | (simp; done) | (simp [*]; done), by repeat (first | exact Drawn0.refl _ | apply Drawn0.step)⟩
      · rw [if_neg c2] at H
        have c2b0 : (x3_1.toList == ([] : List UInt8)) = false := beq_eq_false_iff_ne.mpr c2
        have c2b1 : (x3_1.toList != ([] : List UInt8)) = true := bne_iff_ne.mpr c2
        replace H := Option.bind_eq_some_iff.mp H
        obtain ⟨t114, A30, H⟩ := H
        replace H : (if t114 = true then (if 3 ≤ (x3_1.size : Int) then (monikerref23_Remove.l0 k1 (x3_1.extract 3 x3_1.size) x4_1) else (none)) else ((monikerref23_begins.f x3_1 (⟨#[46, 47]⟩ : ByteArray)).bind fun t115 => (if t115 = true then (if 2 ≤ (x3_1.size : Int) then (monikerref23_Remove.l0 k1 (x3_1.extract 2 x3_1.size) x4_1) else (none)) else ((monikerref23_begins.f x3_1 (⟨#[47, 46, 47]⟩ : ByteArray)).bind fun t116 => (if t116 = true then (if 2 ≤ (x3_1.size : Int) then (monikerref23_Remove.l0 k1 (x3_1.extract 2 x3_1.size) x4_1) else (none)) else (if x3_1.toList = ([47, 46] : List UInt8) then (monikerref23_Remove.l0 k1 (⟨#[47]⟩ : ByteArray) x4_1) else ((monikerref23_begins.f x3_1 (⟨#[47, 46, 46, 47]⟩ : ByteArray)).bind fun t117 => (if t117 = true then (if 3 ≤ (x3_1.size : Int) then ((monikerref23_cut.f k1 x4_1).bind fun t118 => (monikerref23_Remove.l0 k1 (x3_1.extract 3 x3_1.size) t118)) else (none)) else (if x3_1.toList = ([47, 46, 46] : List UInt8) then ((monikerref23_cut.f k1 x4_1).bind fun t119 => (monikerref23_Remove.l0 k1 (⟨#[47]⟩ : ByteArray) t119)) else (if x3_1.toList = ([46] : List UInt8) then (monikerref23_Remove.j1 k1 x3_1 x4_1 true) else (monikerref23_Remove.j1 k1 x3_1 x4_1 (x3_1.toList == ([46, 46] : List UInt8))))))))))))) = some r := H
        have A3 := Aside0.mk A30
        clear A30
        by_cases c4 : t114 = true
        · subst c4
          have H1 : (if 3 ≤ (x3_1.size : Int) then (monikerref23_Remove.l0 k1 (x3_1.extract 3 x3_1.size) x4_1) else (none)) = some r := by rw [if_pos rfl] at H; exact H
          clear H
          have H := H1
          clear H1
          by_cases c5 : 3 ≤ (x3_1.size : Int)
          · rw [if_pos c5] at H
            have c5b0 := eq_true c5
            have c5b1 : decide (3 ≤ (x3_1.size : Int)) = true := decide_eq_true c5
            clear c5
            have H' := Aside0.mk H
            clear H
            go_wp2_with (first | ((with_reducible refine gate_callee (f := 12) rfl ?_); refine goesL_ (some 10) rfl rfl Tryd.func12 (by kernel_rfl) rfl #[.string x3_1, .string (⟨#[46, 46, 47]⟩ : ByteArray)] rfl (by (try simp only [List.map_toArray, List.map_cons, List.map_nil]); first | done | rfl | (simp only [List.length_drop, List.length_take]; rfl)) ?_; (with_reducible refine (monikerref23_begins.calls x3_1 (⟨#[46, 46, 47]⟩ : ByteArray) true _ A3.out).mono ?_); rintro e w' ⟨rfl, ⟨nd, rfl⟩⟩; refine ⟨_, rfl, ?_⟩))
            go_roundg k1
            case measure => have := HK1.out; omega
            case rel => exact ⟨(x3_1.extract 3 x3_1.size), (x4_1), (by first | rfl | (simp; done) | (simp [*]; done)), (by first | rfl | (simp; done) | (simp [*]; done)), H', ⟨by have := HK1.out; omega⟩, by repeat (first | exact Drawn0.refl _ | apply Drawn0.step)⟩
          · rw [if_neg c5] at H
            exact absurd H (by simp)
        · replace c4 := Bool.eq_false_iff.mpr c4
          subst c4
          have H1 : ((monikerref23_begins.f x3_1 (⟨#[46, 47]⟩ : ByteArray)).bind fun t115 => (if t115 = true then (if 2 ≤ (x3_1.size : Int) then (monikerref23_Remove.l0 k1 (x3_1.extract 2 x3_1.size) x4_1) else (none)) else ((monikerref23_begins.f x3_1 (⟨#[47, 46, 47]⟩ : ByteArray)).bind fun t116 => (if t116 = true then (if 2 ≤ (x3_1.size : Int) then (monikerref23_Remove.l0 k1 (x3_1.extract 2 x3_1.size) x4_1) else (none)) else (if x3_1.toList = ([47, 46] : List UInt8) then (monikerref23_Remove.l0 k1 (⟨#[47]⟩ : ByteArray) x4_1) else ((monikerref23_begins.f x3_1 (⟨#[47, 46, 46, 47]⟩ : ByteArray)).bind fun t117 => (if t117 = true then (if 3 ≤ (x3_1.size : Int) then ((monikerref23_cut.f k1 x4_1).bind fun t118 => (monikerref23_Remove.l0 k1 (x3_1.extract 3 x3_1.size) t118)) else (none)) else (if x3_1.toList = ([47, 46, 46] : List UInt8) then ((monikerref23_cut.f k1 x4_1).bind fun t119 => (monikerref23_Remove.l0 k1 (⟨#[47]⟩ : ByteArray) t119)) else (if x3_1.toList = ([46] : List UInt8) then (monikerref23_Remove.j1 k1 x3_1 x4_1 true) else (monikerref23_Remove.j1 k1 x3_1 x4_1 (x3_1.toList == ([46, 46] : List UInt8)))))))))))) = some r := by rw [if_neg (show ¬ (false = true) by decide)] at H; exact H
          clear H
          have H := H1
          clear H1
          replace H := Option.bind_eq_some_iff.mp H
          obtain ⟨t115, A60, H⟩ := H
          replace H : (if t115 = true then (if 2 ≤ (x3_1.size : Int) then (monikerref23_Remove.l0 k1 (x3_1.extract 2 x3_1.size) x4_1) else (none)) else ((monikerref23_begins.f x3_1 (⟨#[47, 46, 47]⟩ : ByteArray)).bind fun t116 => (if t116 = true then (if 2 ≤ (x3_1.size : Int) then (monikerref23_Remove.l0 k1 (x3_1.extract 2 x3_1.size) x4_1) else (none)) else (if x3_1.toList = ([47, 46] : List UInt8) then (monikerref23_Remove.l0 k1 (⟨#[47]⟩ : ByteArray) x4_1) else ((monikerref23_begins.f x3_1 (⟨#[47, 46, 46, 47]⟩ : ByteArray)).bind fun t117 => (if t117 = true then (if 3 ≤ (x3_1.size : Int) then ((monikerref23_cut.f k1 x4_1).bind fun t118 => (monikerref23_Remove.l0 k1 (x3_1.extract 3 x3_1.size) t118)) else (none)) else (if x3_1.toList = ([47, 46, 46] : List UInt8) then ((monikerref23_cut.f k1 x4_1).bind fun t119 => (monikerref23_Remove.l0 k1 (⟨#[47]⟩ : ByteArray) t119)) else (if x3_1.toList = ([46] : List UInt8) then (monikerref23_Remove.j1 k1 x3_1 x4_1 true) else (monikerref23_Remove.j1 k1 x3_1 x4_1 (x3_1.toList == ([46, 46] : List UInt8))))))))))) = some r := H
          have A6 := Aside0.mk A60
          clear A60
          by_cases c7 : t115 = true
          · subst c7
            have H1 : (if 2 ≤ (x3_1.size : Int) then (monikerref23_Remove.l0 k1 (x3_1.extract 2 x3_1.size) x4_1) else (none)) = some r := by rw [if_pos rfl] at H; exact H
            clear H
            have H := H1
            clear H1
            by_cases c8 : 2 ≤ (x3_1.size : Int)
            · rw [if_pos c8] at H
              have c8b0 := eq_true c8
              have c8b1 : decide (2 ≤ (x3_1.size : Int)) = true := decide_eq_true c8
              clear c8
              have H' := Aside0.mk H
              clear H
              go_wp2_with (first | ((with_reducible refine gate_callee (f := 12) rfl ?_); refine goesL_ (some 10) rfl rfl Tryd.func12 (by kernel_rfl) rfl #[.string x3_1, .string (⟨#[46, 46, 47]⟩ : ByteArray)] rfl (by (try simp only [List.map_toArray, List.map_cons, List.map_nil]); first | done | rfl | (simp only [List.length_drop, List.length_take]; rfl)) ?_; (with_reducible refine (monikerref23_begins.calls x3_1 (⟨#[46, 46, 47]⟩ : ByteArray) false _ A3.out).mono ?_); rintro e w' ⟨rfl, ⟨nd, rfl⟩⟩; refine ⟨_, rfl, ?_⟩) | ((with_reducible refine gate_callee (f := 12) rfl ?_); refine goesL_ (some 14) rfl rfl Tryd.func12 (by kernel_rfl) rfl #[.string x3_1, .string (⟨#[46, 47]⟩ : ByteArray)] rfl (by (try simp only [List.map_toArray, List.map_cons, List.map_nil]); first | done | rfl | (simp only [List.length_drop, List.length_take]; rfl)) ?_; (with_reducible refine (monikerref23_begins.calls x3_1 (⟨#[46, 47]⟩ : ByteArray) true _ A6.out).mono ?_); rintro e w' ⟨rfl, ⟨nd, rfl⟩⟩; refine ⟨_, rfl, ?_⟩))
              go_roundg k1
              case measure => have := HK1.out; omega
              case rel => exact ⟨(x3_1.extract 2 x3_1.size), (x4_1), (by first | rfl | (simp; done) | (simp [*]; done)), (by first | rfl | (simp; done) | (simp [*]; done)), H', ⟨by have := HK1.out; omega⟩, by repeat (first | exact Drawn0.refl _ | apply Drawn0.step)⟩
            · rw [if_neg c8] at H
              exact absurd H (by simp)
          · replace c7 := Bool.eq_false_iff.mpr c7
            subst c7
            have H1 : ((monikerref23_begins.f x3_1 (⟨#[47, 46, 47]⟩ : ByteArray)).bind fun t116 => (if t116 = true then (if 2 ≤ (x3_1.size : Int) then (monikerref23_Remove.l0 k1 (x3_1.extract 2 x3_1.size) x4_1) else (none)) else (if x3_1.toList = ([47, 46] : List UInt8) then (monikerref23_Remove.l0 k1 (⟨#[47]⟩ : ByteArray) x4_1) else ((monikerref23_begins.f x3_1 (⟨#[47, 46, 46, 47]⟩ : ByteArray)).bind fun t117 => (if t117 = true then (if 3 ≤ (x3_1.size : Int) then ((monikerref23_cut.f k1 x4_1).bind fun t118 => (monikerref23_Remove.l0 k1 (x3_1.extract 3 x3_1.size) t118)) else (none)) else (if x3_1.toList = ([47, 46, 46] : List UInt8) then ((monikerref23_cut.f k1 x4_1).bind fun t119 => (monikerref23_Remove.l0 k1 (⟨#[47]⟩ : ByteArray) t119)) else (if x3_1.toList = ([46] : List UInt8) then (monikerref23_Remove.j1 k1 x3_1 x4_1 true) else (monikerref23_Remove.j1 k1 x3_1 x4_1 (x3_1.toList == ([46, 46] : List UInt8)))))))))) = some r := by rw [if_neg (show ¬ (false = true) by decide)] at H; exact H
            clear H
            have H := H1
            clear H1
            replace H := Option.bind_eq_some_iff.mp H
            obtain ⟨t116, A90, H⟩ := H
            replace H : (if t116 = true then (if 2 ≤ (x3_1.size : Int) then (monikerref23_Remove.l0 k1 (x3_1.extract 2 x3_1.size) x4_1) else (none)) else (if x3_1.toList = ([47, 46] : List UInt8) then (monikerref23_Remove.l0 k1 (⟨#[47]⟩ : ByteArray) x4_1) else ((monikerref23_begins.f x3_1 (⟨#[47, 46, 46, 47]⟩ : ByteArray)).bind fun t117 => (if t117 = true then (if 3 ≤ (x3_1.size : Int) then ((monikerref23_cut.f k1 x4_1).bind fun t118 => (monikerref23_Remove.l0 k1 (x3_1.extract 3 x3_1.size) t118)) else (none)) else (if x3_1.toList = ([47, 46, 46] : List UInt8) then ((monikerref23_cut.f k1 x4_1).bind fun t119 => (monikerref23_Remove.l0 k1 (⟨#[47]⟩ : ByteArray) t119)) else (if x3_1.toList = ([46] : List UInt8) then (monikerref23_Remove.j1 k1 x3_1 x4_1 true) else (monikerref23_Remove.j1 k1 x3_1 x4_1 (x3_1.toList == ([46, 46] : List UInt8))))))))) = some r := H
            have A9 := Aside0.mk A90
            clear A90
            by_cases c10 : t116 = true
            · subst c10
              have H1 : (if 2 ≤ (x3_1.size : Int) then (monikerref23_Remove.l0 k1 (x3_1.extract 2 x3_1.size) x4_1) else (none)) = some r := by rw [if_pos rfl] at H; exact H
              clear H
              have H := H1
              clear H1
              by_cases c11 : 2 ≤ (x3_1.size : Int)
              · rw [if_pos c11] at H
                have c11b0 := eq_true c11
                have c11b1 : decide (2 ≤ (x3_1.size : Int)) = true := decide_eq_true c11
                clear c11
                have H' := Aside0.mk H
                clear H
                go_wp2_with (first | ((with_reducible refine gate_callee (f := 12) rfl ?_); refine goesL_ (some 10) rfl rfl Tryd.func12 (by kernel_rfl) rfl #[.string x3_1, .string (⟨#[46, 46, 47]⟩ : ByteArray)] rfl (by (try simp only [List.map_toArray, List.map_cons, List.map_nil]); first | done | rfl | (simp only [List.length_drop, List.length_take]; rfl)) ?_; (with_reducible refine (monikerref23_begins.calls x3_1 (⟨#[46, 46, 47]⟩ : ByteArray) false _ A3.out).mono ?_); rintro e w' ⟨rfl, ⟨nd, rfl⟩⟩; refine ⟨_, rfl, ?_⟩) | ((with_reducible refine gate_callee (f := 12) rfl ?_); refine goesL_ (some 14) rfl rfl Tryd.func12 (by kernel_rfl) rfl #[.string x3_1, .string (⟨#[46, 47]⟩ : ByteArray)] rfl (by (try simp only [List.map_toArray, List.map_cons, List.map_nil]); first | done | rfl | (simp only [List.length_drop, List.length_take]; rfl)) ?_; (with_reducible refine (monikerref23_begins.calls x3_1 (⟨#[46, 47]⟩ : ByteArray) false _ A6.out).mono ?_); rintro e w' ⟨rfl, ⟨nd, rfl⟩⟩; refine ⟨_, rfl, ?_⟩) | ((with_reducible refine gate_callee (f := 12) rfl ?_); refine goesL_ (some 18) rfl rfl Tryd.func12 (by kernel_rfl) rfl #[.string x3_1, .string (⟨#[47, 46, 47]⟩ : ByteArray)] rfl (by (try simp only [List.map_toArray, List.map_cons, List.map_nil]); first | done | rfl | (simp only [List.length_drop, List.length_take]; rfl)) ?_; (with_reducible refine (monikerref23_begins.calls x3_1 (⟨#[47, 46, 47]⟩ : ByteArray) true _ A9.out).mono ?_); rintro e w' ⟨rfl, ⟨nd, rfl⟩⟩; refine ⟨_, rfl, ?_⟩))
                go_roundg k1
                case measure => have := HK1.out; omega
                case rel => exact ⟨(x3_1.extract 2 x3_1.size), (x4_1), (by first | rfl | (simp; done) | (simp [*]; done)), (by first | rfl | (simp; done) | (simp [*]; done)), H', ⟨by have := HK1.out; omega⟩, by repeat (first | exact Drawn0.refl _ | apply Drawn0.step)⟩
              · rw [if_neg c11] at H
                exact absurd H (by simp)
            · replace c10 := Bool.eq_false_iff.mpr c10
              subst c10
              have H1 : (if x3_1.toList = ([47, 46] : List UInt8) then (monikerref23_Remove.l0 k1 (⟨#[47]⟩ : ByteArray) x4_1) else ((monikerref23_begins.f x3_1 (⟨#[47, 46, 46, 47]⟩ : ByteArray)).bind fun t117 => (if t117 = true then (if 3 ≤ (x3_1.size : Int) then ((monikerref23_cut.f k1 x4_1).bind fun t118 => (monikerref23_Remove.l0 k1 (x3_1.extract 3 x3_1.size) t118)) else (none)) else (if x3_1.toList = ([47, 46, 46] : List UInt8) then ((monikerref23_cut.f k1 x4_1).bind fun t119 => (monikerref23_Remove.l0 k1 (⟨#[47]⟩ : ByteArray) t119)) else (if x3_1.toList = ([46] : List UInt8) then (monikerref23_Remove.j1 k1 x3_1 x4_1 true) else (monikerref23_Remove.j1 k1 x3_1 x4_1 (x3_1.toList == ([46, 46] : List UInt8)))))))) = some r := by rw [if_neg (show ¬ (false = true) by decide)] at H; exact H
              clear H
              have H := H1
              clear H1
              by_cases c12 : x3_1.toList = ([47, 46] : List UInt8)
              · rw [if_pos c12] at H
                have c12b0 : (x3_1.toList == ([47, 46] : List UInt8)) = true := beq_iff_eq.mpr c12
                have c12b1 : (x3_1.toList != ([47, 46] : List UInt8)) = false := bne_eq_false_iff_eq.mpr c12
                clear c12
                have H' := Aside0.mk H
                clear H
                go_wp2_with (first | ((with_reducible refine gate_callee (f := 12) rfl ?_); refine goesL_ (some 10) rfl rfl Tryd.func12 (by kernel_rfl) rfl #[.string x3_1, .string (⟨#[46, 46, 47]⟩ : ByteArray)] rfl (by (try simp only [List.map_toArray, List.map_cons, List.map_nil]); first | done | rfl | (simp only [List.length_drop, List.length_take]; rfl)) ?_; (with_reducible refine (monikerref23_begins.calls x3_1 (⟨#[46, 46, 47]⟩ : ByteArray) false _ A3.out).mono ?_); rintro e w' ⟨rfl, ⟨nd, rfl⟩⟩; refine ⟨_, rfl, ?_⟩) | ((with_reducible refine gate_callee (f := 12) rfl ?_); refine goesL_ (some 14) rfl rfl Tryd.func12 (by kernel_rfl) rfl #[.string x3_1, .string (⟨#[46, 47]⟩ : ByteArray)] rfl (by (try simp only [List.map_toArray, List.map_cons, List.map_nil]); first | done | rfl | (simp only [List.length_drop, List.length_take]; rfl)) ?_; (with_reducible refine (monikerref23_begins.calls x3_1 (⟨#[46, 47]⟩ : ByteArray) false _ A6.out).mono ?_); rintro e w' ⟨rfl, ⟨nd, rfl⟩⟩; refine ⟨_, rfl, ?_⟩) | ((with_reducible refine gate_callee (f := 12) rfl ?_); refine goesL_ (some 18) rfl rfl Tryd.func12 (by kernel_rfl) rfl #[.string x3_1, .string (⟨#[47, 46, 47]⟩ : ByteArray)] rfl (by (try simp only [List.map_toArray, List.map_cons, List.map_nil]); first | done | rfl | (simp only [List.length_drop, List.length_take]; rfl)) ?_; (with_reducible refine (monikerref23_begins.calls x3_1 (⟨#[47, 46, 47]⟩ : ByteArray) false _ A9.out).mono ?_); rintro e w' ⟨rfl, ⟨nd, rfl⟩⟩; refine ⟨_, rfl, ?_⟩))
                go_roundg k1
                case measure => have := HK1.out; omega
                case rel => exact ⟨((⟨#[47]⟩ : ByteArray)), (x4_1), (by first | rfl | (simp; done) | (simp [*]; done)), (by first | rfl | (simp; done) | (simp [*]; done)), H', ⟨by have := HK1.out; omega⟩, by repeat (first | exact Drawn0.refl _ | apply Drawn0.step)⟩
              · rw [if_neg c12] at H
                have c12b0 : (x3_1.toList == ([47, 46] : List UInt8)) = false := beq_eq_false_iff_ne.mpr c12
                have c12b1 : (x3_1.toList != ([47, 46] : List UInt8)) = true := bne_iff_ne.mpr c12
                replace H := Option.bind_eq_some_iff.mp H
                obtain ⟨t117, A130, H⟩ := H
                replace H : (if t117 = true then (if 3 ≤ (x3_1.size : Int) then ((monikerref23_cut.f k1 x4_1).bind fun t118 => (monikerref23_Remove.l0 k1 (x3_1.extract 3 x3_1.size) t118)) else (none)) else (if x3_1.toList = ([47, 46, 46] : List UInt8) then ((monikerref23_cut.f k1 x4_1).bind fun t119 => (monikerref23_Remove.l0 k1 (⟨#[47]⟩ : ByteArray) t119)) else (if x3_1.toList = ([46] : List UInt8) then (monikerref23_Remove.j1 k1 x3_1 x4_1 true) else (monikerref23_Remove.j1 k1 x3_1 x4_1 (x3_1.toList == ([46, 46] : List UInt8)))))) = some r := H
                have A13 := Aside0.mk A130
                clear A130
                by_cases c14 : t117 = true
                · subst c14
                  have H1 : (if 3 ≤ (x3_1.size : Int) then ((monikerref23_cut.f k1 x4_1).bind fun t118 => (monikerref23_Remove.l0 k1 (x3_1.extract 3 x3_1.size) t118)) else (none)) = some r := by rw [if_pos rfl] at H; exact H
                  clear H
                  have H := H1
                  clear H1
                  by_cases c15 : 3 ≤ (x3_1.size : Int)
                  · rw [if_pos c15] at H
                    have c15b0 := eq_true c15
                    have c15b1 : decide (3 ≤ (x3_1.size : Int)) = true := decide_eq_true c15
                    clear c15
                    replace H := Option.bind_eq_some_iff.mp H
                    obtain ⟨t118, A160, H⟩ := H
                    replace H : (monikerref23_Remove.l0 k1 (x3_1.extract 3 x3_1.size) t118) = some r := H
                    have A16 := Aside0.mk A160
                    clear A160
                    have H' := Aside0.mk H
                    clear H
                    go_wp2_with (first | ((with_reducible refine gate_callee (f := 12) rfl ?_); refine goesL_ (some 10) rfl rfl Tryd.func12 (by kernel_rfl) rfl #[.string x3_1, .string (⟨#[46, 46, 47]⟩ : ByteArray)] rfl (by (try simp only [List.map_toArray, List.map_cons, List.map_nil]); first | done | rfl | (simp only [List.length_drop, List.length_take]; rfl)) ?_; (with_reducible refine (monikerref23_begins.calls x3_1 (⟨#[46, 46, 47]⟩ : ByteArray) false _ A3.out).mono ?_); rintro e w' ⟨rfl, ⟨nd, rfl⟩⟩; refine ⟨_, rfl, ?_⟩) | ((with_reducible refine gate_callee (f := 12) rfl ?_); refine goesL_ (some 14) rfl rfl Tryd.func12 (by kernel_rfl) rfl #[.string x3_1, .string (⟨#[46, 47]⟩ : ByteArray)] rfl (by (try simp only [List.map_toArray, List.map_cons, List.map_nil]); first | done | rfl | (simp only [List.length_drop, List.length_take]; rfl)) ?_; (with_reducible refine (monikerref23_begins.calls x3_1 (⟨#[46, 47]⟩ : ByteArray) false _ A6.out).mono ?_); rintro e w' ⟨rfl, ⟨nd, rfl⟩⟩; refine ⟨_, rfl, ?_⟩) | ((with_reducible refine gate_callee (f := 12) rfl ?_); refine goesL_ (some 18) rfl rfl Tryd.func12 (by kernel_rfl) rfl #[.string x3_1, .string (⟨#[47, 46, 47]⟩ : ByteArray)] rfl (by (try simp only [List.map_toArray, List.map_cons, List.map_nil]); first | done | rfl | (simp only [List.length_drop, List.length_take]; rfl)) ?_; (with_reducible refine (monikerref23_begins.calls x3_1 (⟨#[47, 46, 47]⟩ : ByteArray) false _ A9.out).mono ?_); rintro e w' ⟨rfl, ⟨nd, rfl⟩⟩; refine ⟨_, rfl, ?_⟩) | ((with_reducible refine gate_callee (f := 12) rfl ?_); refine goesL_ (some 24) rfl rfl Tryd.func12 (by kernel_rfl) rfl #[.string x3_1, .string (⟨#[47, 46, 46, 47]⟩ : ByteArray)] rfl (by (try simp only [List.map_toArray, List.map_cons, List.map_nil]); first | done | rfl | (simp only [List.length_drop, List.length_take]; rfl)) ?_; (with_reducible refine (monikerref23_begins.calls x3_1 (⟨#[47, 46, 46, 47]⟩ : ByteArray) true _ A13.out).mono ?_); rintro e w' ⟨rfl, ⟨nd, rfl⟩⟩; refine ⟨_, rfl, ?_⟩) | ((with_reducible refine gate_callee (f := 13) rfl ?_); refine goesL_ (some 28) rfl rfl Tryd.func13 (by kernel_rfl) rfl #[.string x4_1] rfl (by (try simp only [List.map_toArray, List.map_cons, List.map_nil]); first | done | rfl | (simp only [List.length_drop, List.length_take]; rfl)) ?_; (with_reducible refine (monikerref23_cut.calls k1 x4_1 t118 _ A16.out).mono ?_); rintro e w' ⟨rfl, ⟨nd, rfl⟩⟩; refine ⟨_, rfl, ?_⟩))
                    go_roundg k1
                    case measure => have := HK1.out; omega
                    case rel => exact ⟨(x3_1.extract 3 x3_1.size), (t118), (by first | rfl | (simp; done) | (simp [*]; done)), (by first | rfl | (simp; done) | (simp [*]; done)), H', ⟨by have := HK1.out; omega⟩, by repeat (first | exact Drawn0.refl _ | apply Drawn0.step)⟩
                  · rw [if_neg c15] at H
                    exact absurd H (by simp)
                · replace c14 := Bool.eq_false_iff.mpr c14
                  subst c14
                  have H1 : (if x3_1.toList = ([47, 46, 46] : List UInt8) then ((monikerref23_cut.f k1 x4_1).bind fun t119 => (monikerref23_Remove.l0 k1 (⟨#[47]⟩ : ByteArray) t119)) else (if x3_1.toList = ([46] : List UInt8) then (monikerref23_Remove.j1 k1 x3_1 x4_1 true) else (monikerref23_Remove.j1 k1 x3_1 x4_1 (x3_1.toList == ([46, 46] : List UInt8))))) = some r := by rw [if_neg (show ¬ (false = true) by decide)] at H; exact H
                  clear H
                  have H := H1
                  clear H1
                  by_cases c17 : x3_1.toList = ([47, 46, 46] : List UInt8)
                  · rw [if_pos c17] at H
                    have c17b0 : (x3_1.toList == ([47, 46, 46] : List UInt8)) = true := beq_iff_eq.mpr c17
                    have c17b1 : (x3_1.toList != ([47, 46, 46] : List UInt8)) = false := bne_eq_false_iff_eq.mpr c17
                    clear c17
                    replace H := Option.bind_eq_some_iff.mp H
                    obtain ⟨t119, A180, H⟩ := H
                    replace H : (monikerref23_Remove.l0 k1 (⟨#[47]⟩ : ByteArray) t119) = some r := H
                    have A18 := Aside0.mk A180
                    clear A180
                    have H' := Aside0.mk H
                    clear H
                    go_wp2_with (first | ((with_reducible refine gate_callee (f := 12) rfl ?_); refine goesL_ (some 10) rfl rfl Tryd.func12 (by kernel_rfl) rfl #[.string x3_1, .string (⟨#[46, 46, 47]⟩ : ByteArray)] rfl (by (try simp only [List.map_toArray, List.map_cons, List.map_nil]); first | done | rfl | (simp only [List.length_drop, List.length_take]; rfl)) ?_; (with_reducible refine (monikerref23_begins.calls x3_1 (⟨#[46, 46, 47]⟩ : ByteArray) false _ A3.out).mono ?_); rintro e w' ⟨rfl, ⟨nd, rfl⟩⟩; refine ⟨_, rfl, ?_⟩) | ((with_reducible refine gate_callee (f := 12) rfl ?_); refine goesL_ (some 14) rfl rfl Tryd.func12 (by kernel_rfl) rfl #[.string x3_1, .string (⟨#[46, 47]⟩ : ByteArray)] rfl (by (try simp only [List.map_toArray, List.map_cons, List.map_nil]); first | done | rfl | (simp only [List.length_drop, List.length_take]; rfl)) ?_; (with_reducible refine (monikerref23_begins.calls x3_1 (⟨#[46, 47]⟩ : ByteArray) false _ A6.out).mono ?_); rintro e w' ⟨rfl, ⟨nd, rfl⟩⟩; refine ⟨_, rfl, ?_⟩) | ((with_reducible refine gate_callee (f := 12) rfl ?_); refine goesL_ (some 18) rfl rfl Tryd.func12 (by kernel_rfl) rfl #[.string x3_1, .string (⟨#[47, 46, 47]⟩ : ByteArray)] rfl (by (try simp only [List.map_toArray, List.map_cons, List.map_nil]); first | done | rfl | (simp only [List.length_drop, List.length_take]; rfl)) ?_; (with_reducible refine (monikerref23_begins.calls x3_1 (⟨#[47, 46, 47]⟩ : ByteArray) false _ A9.out).mono ?_); rintro e w' ⟨rfl, ⟨nd, rfl⟩⟩; refine ⟨_, rfl, ?_⟩) | ((with_reducible refine gate_callee (f := 12) rfl ?_); refine goesL_ (some 24) rfl rfl Tryd.func12 (by kernel_rfl) rfl #[.string x3_1, .string (⟨#[47, 46, 46, 47]⟩ : ByteArray)] rfl (by (try simp only [List.map_toArray, List.map_cons, List.map_nil]); first | done | rfl | (simp only [List.length_drop, List.length_take]; rfl)) ?_; (with_reducible refine (monikerref23_begins.calls x3_1 (⟨#[47, 46, 46, 47]⟩ : ByteArray) false _ A13.out).mono ?_); rintro e w' ⟨rfl, ⟨nd, rfl⟩⟩; refine ⟨_, rfl, ?_⟩) | ((with_reducible refine gate_callee (f := 13) rfl ?_); refine goesL_ (some 32) rfl rfl Tryd.func13 (by kernel_rfl) rfl #[.string x4_1] rfl (by (try simp only [List.map_toArray, List.map_cons, List.map_nil]); first | done | rfl | (simp only [List.length_drop, List.length_take]; rfl)) ?_; (with_reducible refine (monikerref23_cut.calls k1 x4_1 t119 _ A18.out).mono ?_); rintro e w' ⟨rfl, ⟨nd, rfl⟩⟩; refine ⟨_, rfl, ?_⟩))
                    go_roundg k1
                    case measure => have := HK1.out; omega
                    case rel => exact ⟨((⟨#[47]⟩ : ByteArray)), (t119), (by first | rfl | (simp; done) | (simp [*]; done)), (by first | rfl | (simp; done) | (simp [*]; done)), H', ⟨by have := HK1.out; omega⟩, by repeat (first | exact Drawn0.refl _ | apply Drawn0.step)⟩
                  · rw [if_neg c17] at H
                    have c17b0 : (x3_1.toList == ([47, 46, 46] : List UInt8)) = false := beq_eq_false_iff_ne.mpr c17
                    have c17b1 : (x3_1.toList != ([47, 46, 46] : List UInt8)) = true := bne_iff_ne.mpr c17
                    have HC19 := Aside0.mk H
                    clear H
                    go_upto_region 17 with (first | ((with_reducible refine gate_callee (f := 12) rfl ?_); refine goesL_ (some 10) rfl rfl Tryd.func12 (by kernel_rfl) rfl #[.string x3_1, .string (⟨#[46, 46, 47]⟩ : ByteArray)] rfl (by (try simp only [List.map_toArray, List.map_cons, List.map_nil]); first | done | rfl | (simp only [List.length_drop, List.length_take]; rfl)) ?_; (with_reducible refine (monikerref23_begins.calls x3_1 (⟨#[46, 46, 47]⟩ : ByteArray) false _ A3.out).mono ?_); rintro e w' ⟨rfl, ⟨nd, rfl⟩⟩; refine ⟨_, rfl, ?_⟩) | ((with_reducible refine gate_callee (f := 12) rfl ?_); refine goesL_ (some 14) rfl rfl Tryd.func12 (by kernel_rfl) rfl #[.string x3_1, .string (⟨#[46, 47]⟩ : ByteArray)] rfl (by (try simp only [List.map_toArray, List.map_cons, List.map_nil]); first | done | rfl | (simp only [List.length_drop, List.length_take]; rfl)) ?_; (with_reducible refine (monikerref23_begins.calls x3_1 (⟨#[46, 47]⟩ : ByteArray) false _ A6.out).mono ?_); rintro e w' ⟨rfl, ⟨nd, rfl⟩⟩; refine ⟨_, rfl, ?_⟩) | ((with_reducible refine gate_callee (f := 12) rfl ?_); refine goesL_ (some 18) rfl rfl Tryd.func12 (by kernel_rfl) rfl #[.string x3_1, .string (⟨#[47, 46, 47]⟩ : ByteArray)] rfl (by (try simp only [List.map_toArray, List.map_cons, List.map_nil]); first | done | rfl | (simp only [List.length_drop, List.length_take]; rfl)) ?_; (with_reducible refine (monikerref23_begins.calls x3_1 (⟨#[47, 46, 47]⟩ : ByteArray) false _ A9.out).mono ?_); rintro e w' ⟨rfl, ⟨nd, rfl⟩⟩; refine ⟨_, rfl, ?_⟩) | ((with_reducible refine gate_callee (f := 12) rfl ?_); refine goesL_ (some 24) rfl rfl Tryd.func12 (by kernel_rfl) rfl #[.string x3_1, .string (⟨#[47, 46, 46, 47]⟩ : ByteArray)] rfl (by (try simp only [List.map_toArray, List.map_cons, List.map_nil]); first | done | rfl | (simp only [List.length_drop, List.length_take]; rfl)) ?_; (with_reducible refine (monikerref23_begins.calls x3_1 (⟨#[47, 46, 46, 47]⟩ : ByteArray) false _ A13.out).mono ?_); rintro e w' ⟨rfl, ⟨nd, rfl⟩⟩; refine ⟨_, rfl, ?_⟩))
                    (try simp only [Act.put, List.setIfInBounds_toArray, List.set_cons_zero, List.set_cons_succ])
                    go_cut [38] (fun v38 wc => ∃ (kq : Nat) (x38_18 : Bool), v38 = .bool x38_18 ∧ Aside0 (monikerref23_Remove.j1 kq x3_1 x4_1 x38_18 = some r) ∧ Aside0 (kq ≤ k1) ∧ Drawn0 w wc)
                    case first =>
                      have H := HC19.out
                      clear HC19
                      by_cases c20 : x3_1.toList = ([46] : List UInt8)
                      · rw [if_pos c20] at H
                        have c20b0 : (x3_1.toList == ([46] : List UInt8)) = true := beq_iff_eq.mpr c20
                        have c20b1 : (x3_1.toList != ([46] : List UInt8)) = false := bne_eq_false_iff_eq.mpr c20
                        clear c20
                        (first | rw [c20b0] | (simp only [i64_w, i32_w]; rw [c20b0]) | skip)
                        have H' := Aside0.mk H
                        clear H
                        go_wp2
                        go_meet
                        case rel => exact ⟨_, (true), (by first | rfl | (simp; done) | (simp [*]; done)), H', ⟨by have := HK1.out; first | omega | exact Nat.le_refl _⟩, by repeat (first | exact Drawn0.refl _ | apply Drawn0.step)⟩
                      · rw [if_neg c20] at H
                        have c20b0 : (x3_1.toList == ([46] : List UInt8)) = false := beq_eq_false_iff_ne.mpr c20
                        have c20b1 : (x3_1.toList != ([46] : List UInt8)) = true := bne_iff_ne.mpr c20
                        (first | rw [c20b0] | (simp only [i64_w, i32_w]; rw [c20b0]) | skip)
                        have H' := Aside0.mk H
                        clear H
                        go_wp2
                        go_meet
                        case rel => exact ⟨_, ((x3_1.toList == ([46, 46] : List UInt8))), (by first | rfl | (simp; done) | (simp [*]; done)), H', ⟨by have := HK1.out; first | omega | exact Nat.le_refl _⟩, by repeat (first | exact Drawn0.refl _ | apply Drawn0.step)⟩
                    case rest =>
                      clear HC19
                      try clear c1
                      try clear c2
                      try clear c2b0
                      try clear c2b1
                      try clear p2
                      try clear c4
                      try clear c5
                      try clear c5b0
                      try clear c5b1
                      try clear c6
                      try clear c7
                      try clear c8
                      try clear c8b0
                      try clear c8b1
                      try clear c10
                      try clear c11
                      try clear c11b0
                      try clear c11b1
                      try clear c12
                      try clear c12b0
                      try clear c12b1
                      try clear c13
                      try clear c14
                      try clear c15
                      try clear c15b0
                      try clear c15b1
                      try clear c17
                      try clear c17b0
                      try clear c17b1
                      try clear c20
                      try clear c20b0
                      try clear c20b1
                      obtain ⟨kq, x38_18, rfl, HA, HJ18, ⟨mc18, rfl⟩⟩ := hcut
                      cases kq with
                      | zero => exact absurd HA.out (by simp [monikerref23_Remove.j1])
                      | succ kj18 =>
                        have H := HA.out
                        clear HA
                        simp only [monikerref23_Remove.j1] at H
                        by_cases c21 : x38_18 = true
                        · subst c21
                          have H1 : (monikerref23_Remove.l0 kj18 (⟨#[]⟩ : ByteArray) x4_1) = some r := by rw [if_pos rfl] at H; exact H
                          clear H
                          have H := H1
                          clear H1
                          have H' := Aside0.mk H
                          clear H
                          go_wp2
                          go_roundg kj18
                          case measure => have := HK1.out; have := HJ18.out; omega
                          case rel => exact ⟨((⟨#[]⟩ : ByteArray)), (x4_1), (by first | rfl | (simp; done) | (simp [*]; done)), (by first | rfl | (simp; done) | (simp [*]; done)), H', ⟨by have := HK1.out; have := HJ18.out; omega⟩, by repeat (first | exact Drawn0.refl _ | apply Drawn0.step)⟩
                        · replace c21 := Bool.eq_false_iff.mpr c21
                          subst c21
                          have H1 : (monikerref23_Remove.l1 kj18 x3_1 x4_1 1) = some r := by rw [if_neg (show ¬ (false = true) by decide)] at H; exact H
                          clear H
                          have H := H1
                          clear H1
                          have H' := Aside0.mk H
                          clear H
                          go_wp2
                          go_loopg [5] kj18 (fun kq v5 w' => ∃ (x5_3 : Int), v5 = .int .i64 x5_3 ∧ Aside0 (monikerref23_Remove.l1 kq x3_1 x4_1 x5_3 = some r) ∧ Aside0 (kq ≤ kj18) ∧ Drawn0 w w')
                          case atStart => exact ⟨(1), (by first | rfl | (simp; done) | (simp [*]; done)), H', ⟨Nat.le_refl _⟩, by repeat (first | exact Drawn0.refl _ | apply Drawn0.step)⟩
                          case round =>
                            clear H'
                            try clear c1
                            try clear c2
                            try clear c2b0
                            try clear c2b1
                            try clear p2
                            try clear c4
                            try clear c5
                            try clear c5b0
                            try clear c5b1
                            try clear c6
                            try clear c7
                            try clear c8
                            try clear c8b0
                            try clear c8b1
                            try clear c10
                            try clear c11
                            try clear c11b0
                            try clear c11b1
                            try clear c12
                            try clear c12b0
                            try clear c12b1
                            try clear c13
                            try clear c14
                            try clear c15
                            try clear c15b0
                            try clear c15b1
                            try clear c17
                            try clear c17b0
                            try clear c17b1
                            try clear c18
                            try clear c20
                            try clear c20b0
                            try clear c20b1
                            try clear c21
                            try clear p2
                            obtain ⟨x5_3, rfl, HA, HK3, ⟨m3, rfl⟩⟩ := hrel
                            cases gk with
                            | zero => exact absurd HA.out (by simp [monikerref23_Remove.l1])
                            | succ k3 =>
                              have H := HA.out
                              clear HA
                              simp only [monikerref23_Remove.l1] at H
                              by_cases c22 : x5_3 < (x3_1.size : Int)
                              · rw [if_pos c22] at H
                                have c22b0 : decide (x5_3 < (x3_1.size : Int)) = true := decide_eq_true c22
                                clear c22
                                by_cases c23 : 0 ≤ x5_3
                                · rw [if_pos c23] at H
                                  have c23b0 : decide (0 ≤ x5_3) = true := decide_eq_true c23
                                  clear c23
                                  by_cases c25 : (bt x3_1 x5_3) = 47
                                  · rw [if_pos c25] at H
                                    have c25b0 : ((bt x3_1 x5_3) == 47) = true := beq_iff_eq.mpr c25
                                    have c25b1 : ((bt x3_1 x5_3) != 47) = false := bne_eq_false_iff_eq.mpr c25
                                    clear c25
                                    have c26b0 := eq_true (of_decide_eq_true (by first | (with_reducible assumption) | assumption) : 0 ≤ x5_3)
                                    by_cases c27 : x5_3 ≤ (x3_1.size : Int)
                                    · rw [if_pos c27] at H
                                      have c27b0 := eq_true c27
                                      have c27b1 : decide (x5_3 ≤ (x3_1.size : Int)) = true := decide_eq_true c27
                                      clear c27
                                      by_cases c28 : x4_1.size + (x3_1.extract 0 (x5_3 : Int).toNat).size ≤ 9223372036854775807
                                      · rw [if_pos c28] at H
                                        have c28b0 := eq_true c28
                                        have c28b1 : decide (x4_1.size + (x3_1.extract 0 (x5_3 : Int).toNat).size ≤ 9223372036854775807) = true := decide_eq_true c28
                                        try have c28b2 : (9223372036854775807 < x4_1.size + (x3_1.extract 0 (x5_3 : Int).toNat).size) = False := eq_false (Nat.not_lt.2 c28)
                                        have c29b0 := eq_true (of_decide_eq_true (by first | (with_reducible assumption) | assumption) : 0 ≤ x5_3)
                                        have c30b0 := eq_true (of_decide_eq_true (by first | (with_reducible assumption) | assumption) : x5_3 ≤ (x3_1.size : Int))
                                        have H' := Aside0.mk H
                                        clear H
                                        have p24 : 0 ≤ (x5_3 : Int) := of_decide_eq_true (by first | (with_reducible assumption) | assumption)
                                        have q24 : x5_3 < (x3_1.size : Int) := of_decide_eq_true (by first | (with_reducible assumption) | assumption)
                                        have hx24 := bt_at x3_1 x5_3
                                        replace p24 := eq_true p24
                                        replace q24 := eq_true q24
                                        go_wp2
                                        go_roundg k3
                                        case measure => have := HK1.out; have := HJ18.out; have := HK3.out; omega
                                        case rel => exact ⟨(x3_1.extract (x5_3 : Int).toNat x3_1.size), (x4_1 ++ (x3_1.extract 0 (x5_3 : Int).toNat)), (by first | rfl | (simp; done) | (simp [*]; done)), (by first | rfl | (simp; done) | (simp [*]; done)), H', ⟨by have := HK1.out; have := HJ18.out; have := HK3.out; omega⟩, by repeat (first | exact Drawn0.refl _ | apply Drawn0.step)⟩
                                      · rw [if_neg c28] at H
                                        exact absurd H (by simp)
                                    · rw [if_neg c27] at H
                                      exact absurd H (by simp)
                                  · rw [if_neg c25] at H
                                    have c25b0 : ((bt x3_1 x5_3) == 47) = false := beq_eq_false_iff_ne.mpr c25
                                    have c25b1 : ((bt x3_1 x5_3) != 47) = true := bne_iff_ne.mpr c25
                                    have H' := Aside0.mk H
                                    clear H
                                    have p24 : 0 ≤ (x5_3 : Int) := of_decide_eq_true (by first | (with_reducible assumption) | assumption)
                                    have q24 : x5_3 < (x3_1.size : Int) := of_decide_eq_true (by first | (with_reducible assumption) | assumption)
                                    have hx24 := bt_at x3_1 x5_3
                                    replace p24 := eq_true p24
                                    replace q24 := eq_true q24
                                    go_wp2
                                    go_roundg k3
                                    case measure => have := HK1.out; have := HJ18.out; have := HK3.out; omega
                                    case rel => exact ⟨(wrap64 (x5_3 + 1)), (by first | rfl | (simp; done) | (simp [*]; done)), H', ⟨by have := HK1.out; have := HJ18.out; have := HK3.out; omega⟩, by repeat (first | exact Drawn0.refl _ | apply Drawn0.step)⟩
                                · rw [if_neg c23] at H
                                  exact absurd H (by simp)
                              · rw [if_neg c22] at H
                                have c22b0 : decide (x5_3 < (x3_1.size : Int)) = false := decide_eq_false c22
                                clear c22
                                by_cases c31 : 0 ≤ x5_3
                                · rw [if_pos c31] at H
                                  have c31b0 := eq_true c31
                                  have c31b1 : decide (0 ≤ x5_3) = true := decide_eq_true c31
                                  clear c31
                                  by_cases c32 : x5_3 ≤ (x3_1.size : Int)
                                  · rw [if_pos c32] at H
                                    have c32b0 := eq_true c32
                                    have c32b1 : decide (x5_3 ≤ (x3_1.size : Int)) = true := decide_eq_true c32
                                    clear c32
                                    by_cases c33 : x4_1.size + (x3_1.extract 0 (x5_3 : Int).toNat).size ≤ 9223372036854775807
                                    · rw [if_pos c33] at H
                                      have c33b0 := eq_true c33
                                      have c33b1 : decide (x4_1.size + (x3_1.extract 0 (x5_3 : Int).toNat).size ≤ 9223372036854775807) = true := decide_eq_true c33
                                      try have c33b2 : (9223372036854775807 < x4_1.size + (x3_1.extract 0 (x5_3 : Int).toNat).size) = False := eq_false (Nat.not_lt.2 c33)
                                      have c34b0 := eq_true (of_decide_eq_true (by first | (with_reducible assumption) | assumption) : 0 ≤ x5_3)
                                      have c35b0 := eq_true (of_decide_eq_true (by first | (with_reducible assumption) | assumption) : x5_3 ≤ (x3_1.size : Int))
                                      have H' := Aside0.mk H
                                      clear H
                                      go_wp2
                                      go_roundg k3
                                      case measure => have := HK1.out; have := HJ18.out; have := HK3.out; omega
                                      case rel => exact ⟨(x3_1.extract (x5_3 : Int).toNat x3_1.size), (x4_1 ++ (x3_1.extract 0 (x5_3 : Int).toNat)), (by first | rfl | (simp; done) | (simp [*]; done)), (by first | rfl | (simp; done) | (simp [*]; done)), H', ⟨by have := HK1.out; have := HJ18.out; have := HK3.out; omega⟩, by repeat (first | exact Drawn0.refl _ | apply Drawn0.step)⟩
                                    · rw [if_neg c33] at H
                                      exact absurd H (by simp)
                                  · rw [if_neg c32] at H
                                    exact absurd H (by simp)
                                · rw [if_neg c31] at H
                                  exact absurd H (by simp)

-- NOT PRINTED: function 19 (utf8_RuneCountInString)

-- NOT PRINTED: function 20 (bytealg_CountString)

-- NOT PRINTED: function 32 (bytealg_IndexByteString)

-- NOT PRINTED: function 27 (stringslite_IndexByte)

-- NOT PRINTED: function 28 (bytealg_IndexString)

/-! ### bytealg_Cutover: function 29 -/
def bytealg_Cutover.f (a0 : Int) : Option (Int) := some (wrap64 (Int.tdiv (wrap64 (a0 + 16)) 8))
set_option maxHeartbeats 8000000 in
set_option maxRecDepth 100000 in
theorem bytealg_Cutover.calls (a0 : Int) (r : Int) (w : World) (h : bytealg_Cutover.f a0 = some r) :
    Calls Tryd.prog 29 #[.int .i64 a0] w fun e w' => e = .returned (.int .i64 r) ∧ Drawn0 w w' := by
  have H : (some (wrap64 (Int.tdiv (wrap64 (a0 + 16)) 8))) = some r := h
  clear h
  obtain rfl := Option.some.inj H
  go_enter Tryd.func29, Tryd.ntmps29
  go_wp2
  go_ret
  exact ⟨by first | rfl | (simp; done) | (simp [*]; done), by repeat (first | exact Drawn0.refl _ | apply Drawn0.step)⟩

end Go.Proofs.YteebphjlecmgjaaDoor.PAll
