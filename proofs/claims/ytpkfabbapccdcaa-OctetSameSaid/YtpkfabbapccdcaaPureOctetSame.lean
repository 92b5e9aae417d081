/- The law OctetSame answers true at every two texts. No condition. -/
import Derived.Test.YtpkfabbapccdcaaPAllx4
import Derived.Test.YtpkfabbapccdcaaP01
import Derived.Test.YtpkfabbapccdcaaP01b
import Derived.OpenShut
namespace Go.Proofs.Ytpkfabbapccdcaa.Pure
open Go.RowKit Go.Proofs.Ytpkfabbapccdcaa.PAll Go.Proofs.YtpkfabbapccdcaaW.PrintWords Go.Proofs.YtpkfabbapccdcaaW.PrintLast
open Go.Proofs.Ytpkfabbapccdcaa.Oct Go.Proofs.Ytpkfabbapccdcaa.By Go.Proofs.Ytpkfabbapccdcaa.P01 Go.Proofs.Ytpkfabbapccdcaa.P01b

theorem Same_from (a b : ByteArray) (ha : a.size ≤ 140737488351232) (hab : a.size = b.size) : ∀ i : Nat, i ≤ a.size → Ev (fun k => octet_Same.l0 k a b (a.size : Int) (i : Int)) (decide (((bytesOf a).drop i).map lowI = ((bytesOf b).drop i).map lowI)) := by
  apply from_end
  · refine Ev.step (f := fun k => some true) (fun k => ?_) ?_
    · simp only [octet_Same.l0]; rw [if_neg (by omega)]
    · have e : (bytesOf b).drop a.size = [] := by rw [hab]; exact drop_end b
      rw [drop_end, e]; exact Ev.now _
  · intro i hi ih
    rw [drop_bytes a i hi, drop_bytes b i (by omega), List.map_cons, List.map_cons]
    by_cases h : lowI (bt a i) = lowI (bt b i)
    · refine Ev.step (f := fun k => octet_Same.l0 k a b (a.size : Int) ((i + 1 : Nat) : Int)) (fun k => ?_) ?_
      · simp only [octet_Same.l0]; rw [if_pos (by omega), if_pos (by omega), if_pos (by omega), low_some, low_some]; simp only [Option.bind_some]; rw [if_pos (by omega), if_pos h, w64 (by omega) (by omega)]; rfl
      · rw [h]; simpa using ih
    · refine Ev.step (f := fun k => some false) (fun k => ?_) ?_
      · simp only [octet_Same.l0]; rw [if_pos (by omega), if_pos (by omega), if_pos (by omega), low_some, low_some]; simp only [Option.bind_some]; rw [if_pos (by omega), if_neg h]
      · rw [decide_eq_false (by simp [h])]; exact Ev.now _
theorem Same_ev (a b : ByteArray) (ha : a.size ≤ 140737488351232) : Ev (fun k => octet_Same.f k a b) (decide ((bytesOf a).map lowI = (bytesOf b).map lowI)) := by
  unfold octet_Same.f
  by_cases h : a.size = b.size
  · have h' : (a.size : Int) = (b.size : Int) := by omega
    simp only [h', if_true]
    have := Same_from a b ha h 0 (Nat.zero_le _)
    rw [h'] at this
    simpa using this
  · have h' : ¬ (a.size : Int) = (b.size : Int) := by omega
    simp only [h', if_false]
    rw [decide_eq_false]
    · exact Ev.now _
    · intro e
      have := congrArg List.length e
      rw [List.length_map, List.length_map, bytesOf_length, bytesOf_length] at this
      exact h this
theorem low_high (l : List Int) : (l.map highI).map lowI = l.map lowI := by
  rw [List.map_map]
  refine List.map_congr_left fun b _ => ?_
  simp only [Function.comp, lowI, highI]
  repeat' split
  all_goals omega

theorem OctetSame : monikerlaw01_OctetSame.Pure := by
  intro a b ha hb
  apply Ev.rounds
  have aw := Ev.bind (f := fun _ t => some t) awake_ev (Ev.now _)
  unfold monikerlaw01_OctetSame.f
  by_cases h : (a.size : Int) > 300
  · simp only [h, if_true]
    exact Ev.step (fun k => by simp only [monikerlaw01_OctetSame.j0, if_true]) aw
  · simp only [h, if_false]
    by_cases h2 : (b.size : Int) > 300
    · simp only [h2, decide_true]
      exact Ev.step (fun k => by simp only [monikerlaw01_OctetSame.j0, if_true]) aw
    · simp only [h2, decide_false]
      refine Ev.step (f := fun k => (octet_Same.f k a b).bind fun t144 => ((monikerref01_Lower.f k a).bind fun t145 => ((monikerref01_Lower.f k b).bind fun t146 => (if (t144 == (t145.toList == t146.toList)) = true then ((monikerref01_Upper.f k a).bind fun t147 => ((octet_Same.f k a t147).bind fun t148 => (if t148 = true then ((monikerlaw01_awake.f k).bind fun t149 => (some t149)) else (some false)))) else (some false))))) (fun k => by simp only [monikerlaw01_OctetSame.j0, if_false, Bool.false_eq_true]) ?_
      refine Ev.bind (f := fun k t144 => (monikerref01_Lower.f k a).bind fun t145 => ((monikerref01_Lower.f k b).bind fun t146 => (if (t144 == (t145.toList == t146.toList)) = true then ((monikerref01_Upper.f k a).bind fun t147 => ((octet_Same.f k a t147).bind fun t148 => (if t148 = true then ((monikerlaw01_awake.f k).bind fun t149 => (some t149)) else (some false)))) else (some false)))) (Same_ev a b ha) ?_
      refine Ev.bind (f := fun k t145 => (monikerref01_Lower.f k b).bind fun t146 => (if (decide ((bytesOf a).map lowI = (bytesOf b).map lowI) == (t145.toList == t146.toList)) = true then ((monikerref01_Upper.f k a).bind fun t147 => ((octet_Same.f k a t147).bind fun t148 => (if t148 = true then ((monikerlaw01_awake.f k).bind fun t149 => (some t149)) else (some false)))) else (some false))) (refLower_ev a ha) ?_
      refine Ev.bind (f := fun k t146 => if (decide ((bytesOf a).map lowI = (bytesOf b).map lowI) == ((strOfNums ((bytesOf a).map lowI)).toList == t146.toList)) = true then ((monikerref01_Upper.f k a).bind fun t147 => ((octet_Same.f k a t147).bind fun t148 => (if t148 = true then ((monikerlaw01_awake.f k).bind fun t149 => (some t149)) else (some false)))) else (some false)) (refLower_ev b hb) ?_
      simp only [toList_beq, low_bytes, beq_self_eq_true, if_true]
      refine Ev.bind (f := fun k t147 => (octet_Same.f k a t147).bind fun t148 => (if t148 = true then ((monikerlaw01_awake.f k).bind fun t149 => (some t149)) else (some false))) (refUpper_ev a ha) ?_
      refine Ev.bind (f := fun k t148 => if t148 = true then ((monikerlaw01_awake.f k).bind fun t149 => (some t149)) else (some false)) (Same_ev a _ ha) ?_
      simp only [high_bytes, low_high, decide_true, if_true]
      exact aw

end Go.Proofs.Ytpkfabbapccdcaa.Pure
