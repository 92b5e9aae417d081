/- The law OctetHex answers true at every byte and number. No condition. -/
import Derived.Test.YtpkfabbapccdcaaPAllx5
import Derived.Test.YtpkfabbapccdcaaP01
import Derived.Test.YtpkfabbapccdcaaP01b
import Derived.OpenShut
namespace Go.Proofs.Ytpkfabbapccdcaa.Pure
open Go.RowKit Go.Proofs.Ytpkfabbapccdcaa.PAll Go.Proofs.YtpkfabbapccdcaaW.PrintWords Go.Proofs.YtpkfabbapccdcaaW.PrintLast
open Go.Proofs.Ytpkfabbapccdcaa.Oct Go.Proofs.Ytpkfabbapccdcaa.By Go.Proofs.Ytpkfabbapccdcaa.P01 Go.Proofs.Ytpkfabbapccdcaa.P01b

/-- A digit's value; -1: it is none. -/
def hexV (b : Int) : Int := if 48 ≤ b ∧ b ≤ 57 then b - 48 else if 65 ≤ b ∧ b ≤ 70 then b - 55 else if 97 ≤ b ∧ b ≤ 102 then b - 87 else -1
theorem Value_eq : ∀ n : Fin 256, octet_Value.f 12 ((n.val : Nat) : Int) = some (if hexV (n.val : Nat) < 0 then (0, false) else (hexV (n.val : Nat), true)) := by decide +kernel
theorem refValue_eq : ∀ n : Fin 256, monikerref01_Value.f 20 ((n.val : Nat) : Int) = some (hexV (n.val : Nat)) := by decide +kernel
theorem Value_ev (b : Int) (h : 0 ≤ b ∧ b ≤ 255) : Ev (fun k => octet_Value.f k b) (if hexV b < 0 then (0, false) else (hexV b, true)) := by
  have := Value_eq ⟨b.toNat, by omega⟩
  simp only at this
  rw [show ((b.toNat : Nat) : Int) = b by omega] at this
  exact Ev.of (fun k => octet_Value.mono b k) this
theorem refValue_ev (b : Int) (h : 0 ≤ b ∧ b ≤ 255) : Ev (fun k => monikerref01_Value.f k b) (hexV b) := by
  have := refValue_eq ⟨b.toNat, by omega⟩
  simp only at this
  rw [show ((b.toNat : Nat) : Int) = b by omega] at this
  exact Ev.of (fun k => monikerref01_Value.mono b k) this
theorem Nibble_eq : ∀ n : Fin 16, octet_Nibble.f 4 ((n.val : Nat) : Int) = some (bt (⟨#[48, 49, 50, 51, 52, 53, 54, 55, 56, 57, 65, 66, 67, 68, 69, 70]⟩ : ByteArray) ((n.val : Nat) : Int), true) := by decide +kernel
theorem Nibble_in (v : Int) (h : 0 ≤ v ∧ v ≤ 15) : Ev (fun k => octet_Nibble.f k v) (bt (⟨#[48, 49, 50, 51, 52, 53, 54, 55, 56, 57, 65, 66, 67, 68, 69, 70]⟩ : ByteArray) v, true) := by
  have := Nibble_eq ⟨v.toNat, by omega⟩
  simp only at this
  rw [show ((v.toNat : Nat) : Int) = v by omega] at this
  exact Ev.of (fun k => octet_Nibble.mono v k) this
theorem Nibble_out (v : Int) (h : ¬ (0 ≤ v ∧ v ≤ 15)) : Ev (fun k => octet_Nibble.f k v) (0, false) := by
  unfold octet_Nibble.f
  by_cases h0 : v < 0
  · simp only [h0, if_true]
    exact Ev.step (f := fun _ => some (0, false)) (fun k => by simp only [octet_Nibble.j0, if_true]) (Ev.now _)
  · have h1 : v > 15 := by omega
    simp only [h0, if_false, h1, decide_true]
    exact Ev.step (f := fun _ => some (0, false)) (fun k => by simp only [octet_Nibble.j0, if_true]) (Ev.now _)

theorem tail_ev (v : Int) : Ev (fun k => monikerlaw01_OctetHex.j0 k v false) true := by
  have aw := Ev.bind (f := fun _ t => some t) awake_ev (Ev.now _)
  refine Ev.step (f := fun k => (octet_Nibble.f k v).bind fun bt163 => (if v < 0 then (monikerlaw01_OctetHex.j1 k v bt163.1 bt163.2 true) else (monikerlaw01_OctetHex.j1 k v bt163.1 bt163.2 (decide (v > 15))))) (fun k => by simp only [monikerlaw01_OctetHex.j0, if_false, Bool.false_eq_true]) ?_
  by_cases h : 0 ≤ v ∧ v ≤ 15
  · refine Ev.bind (f := fun k bt163 => if v < 0 then (monikerlaw01_OctetHex.j1 k v bt163.1 bt163.2 true) else (monikerlaw01_OctetHex.j1 k v bt163.1 bt163.2 (decide (v > 15)))) (Nibble_in v h) ?_
    have h0 : ¬ v < 0 := by omega
    have h1 : ¬ v > 15 := by omega
    simp only [h0, if_false, h1, decide_false]
    refine Ev.step (fun k => ?_) aw
    simp only [monikerlaw01_OctetHex.j1, Bool.false_eq_true, if_false, if_true]
    rw [if_pos (by omega), if_pos (by omega)]
  · refine Ev.bind (f := fun k bt163 => if v < 0 then (monikerlaw01_OctetHex.j1 k v bt163.1 bt163.2 true) else (monikerlaw01_OctetHex.j1 k v bt163.1 bt163.2 (decide (v > 15)))) (Nibble_out v h) ?_
    by_cases h0 : v < 0
    · simp only [h0, if_true]
      refine Ev.step (fun k => ?_) aw
      simp only [monikerlaw01_OctetHex.j1, Bool.false_eq_true, if_false, if_true]
    · have h1 : v > 15 := by omega
      simp only [h0, if_false, h1, decide_true]
      refine Ev.step (fun k => ?_) aw
      simp only [monikerlaw01_OctetHex.j1, Bool.false_eq_true, if_false, if_true]

theorem OctetHex : monikerlaw01_OctetHex.Pure := by
  intro a v ha _
  have h := bounds_u8 ha
  apply Ev.rounds
  unfold monikerlaw01_OctetHex.f
  refine Ev.bind (f := fun k bt160 => (monikerref01_Value.f k a).bind fun t162 => (if (bt160.2 != (decide (t162 ≥ 0))) = true then (monikerlaw01_OctetHex.j0 k v true) else (if bt160.2 = true then (if bt160.1 = t162 then (monikerlaw01_OctetHex.j0 k v false) else (monikerlaw01_OctetHex.j0 k v true)) else (monikerlaw01_OctetHex.j0 k v (bt160.1 != 0))))) (Value_ev a h) ?_
  refine Ev.bind (f := fun k t162 => if ((if hexV a < 0 then ((0 : Int), false) else (hexV a, true)).2 != (decide (t162 ≥ 0))) = true then (monikerlaw01_OctetHex.j0 k v true) else (if (if hexV a < 0 then ((0 : Int), false) else (hexV a, true)).2 = true then (if (if hexV a < 0 then ((0 : Int), false) else (hexV a, true)).1 = t162 then (monikerlaw01_OctetHex.j0 k v false) else (monikerlaw01_OctetHex.j0 k v true)) else (monikerlaw01_OctetHex.j0 k v ((if hexV a < 0 then ((0 : Int), false) else (hexV a, true)).1 != 0)))) (refValue_ev a h) ?_
  by_cases h0 : hexV a < 0
  · have h1 : ¬ hexV a ≥ 0 := by omega
    simp only [h0, if_true, h1, decide_false, bne_self_eq_false, Bool.false_eq_true, if_false]
    exact tail_ev v
  · have h1 : hexV a ≥ 0 := by omega
    simp only [h0, if_false, h1, decide_true, bne_self_eq_false, Bool.false_eq_true, if_true]
    exact tail_ev v

end Go.Proofs.Ytpkfabbapccdcaa.Pure
