/- The law OctetCases answers true at every text. No condition. -/
import Derived.Test.YtpkfabbapccdcaaPAllx4
import Derived.Test.YtpkfabbapccdcaaP01
import Derived.Test.YtpkfabbapccdcaaP01b
import Derived.OpenShut
namespace Go.Proofs.Ytpkfabbapccdcaa.Pure
open Go.RowKit Go.Proofs.Ytpkfabbapccdcaa.PAll Go.Proofs.YtpkfabbapccdcaaW.PrintWords Go.Proofs.YtpkfabbapccdcaaW.PrintLast
open Go.Proofs.Ytpkfabbapccdcaa.Oct Go.Proofs.Ytpkfabbapccdcaa.By Go.Proofs.Ytpkfabbapccdcaa.P01 Go.Proofs.Ytpkfabbapccdcaa.P01b

theorem low_high (l : List Int) : (l.map highI).map lowI = l.map lowI := by
  rw [List.map_map]
  refine List.map_congr_left fun b _ => ?_
  simp only [Function.comp, lowI, highI]
  repeat' split
  all_goals omega
theorem high_low (l : List Int) : (l.map lowI).map highI = l.map highI := by
  rw [List.map_map]
  refine List.map_congr_left fun b _ => ?_
  simp only [Function.comp, lowI, highI]
  repeat' split
  all_goals omega

theorem OctetCases : monikerlaw01_OctetCases.Pure := by
  intro s hs
  apply Ev.rounds
  have aw := Ev.bind (f := fun _ t => some t) awake_ev (Ev.now _)
  unfold monikerlaw01_OctetCases.f
  by_cases h : (s.size : Int) > 300
  · simp only [h, if_true]
    exact aw
  · simp only [h, if_false]
    have hl : (strOfNums ((bytesOf s).map lowI)).size ≤ 140737488355328 := by rw [str_size, List.length_map, bytesOf_length]; omega
    have hh : (strOfNums ((bytesOf s).map highI)).size ≤ 140737488355328 := by rw [str_size, List.length_map, bytesOf_length]; omega
    rw [Lower_eq s (by omega), Upper_eq s (by omega)]
    simp only [Option.bind_some]
    refine Ev.bind (f := fun k t153 => if (strOfNums ((bytesOf s).map lowI)).toList = t153.toList then ((monikerref01_Upper.f k s).bind fun t154 => (if (strOfNums ((bytesOf s).map highI)).toList = t154.toList then ((octet_Lower.f (strOfNums ((bytesOf s).map highI))).bind fun t155 => (if t155.toList = (strOfNums ((bytesOf s).map lowI)).toList then ((octet_Upper.f (strOfNums ((bytesOf s).map lowI))).bind fun t156 => (if t156.toList = (strOfNums ((bytesOf s).map highI)).toList then ((monikerlaw01_awake.f k).bind fun t157 => (some t157)) else (some false))) else (some false))) else (some false))) else (some false)) (refLower_ev s hs) ?_
    simp only [if_true]
    refine Ev.bind (f := fun k t154 => if (strOfNums ((bytesOf s).map highI)).toList = t154.toList then ((octet_Lower.f (strOfNums ((bytesOf s).map highI))).bind fun t155 => (if t155.toList = (strOfNums ((bytesOf s).map lowI)).toList then ((octet_Upper.f (strOfNums ((bytesOf s).map lowI))).bind fun t156 => (if t156.toList = (strOfNums ((bytesOf s).map highI)).toList then ((monikerlaw01_awake.f k).bind fun t157 => (some t157)) else (some false))) else (some false))) else (some false)) (refUpper_ev s hs) ?_
    simp only [if_true]
    rw [Lower_eq _ hh, Upper_eq _ hl, low_bytes, high_bytes, low_high, high_low]
    simp only [Option.bind_some, if_true]
    exact aw

end Go.Proofs.Ytpkfabbapccdcaa.Pure
