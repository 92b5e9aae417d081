import Derived.Test.YtedaalklakokkaaPAllx7
import Derived.Test.YtedaalklakokkaaP02e
namespace Go.Proofs.Ytedaalklakokkaa.Pure
open Go.RowKit Go.Proofs.Ytedaalklakokkaa.PAll Go.Proofs.Ytedaalklakokkaa.By Go.Proofs.Ytedaalklakokkaa.P02 Go.Proofs.YtedaalklakokkaaW.PrintWords Go.Proofs.YtedaalklakokkaaW.PrintLast

theorem UtfRepairs : monikerlaw02_UtfRepairs.Pure := by
  intro s hs
  refine Ev.rounds ?_
  unfold monikerlaw02_UtfRepairs.f
  by_cases c : (s.size : Int) > 300
  · simp only [c, if_true]
    exact Ev.bind awake_ev (Ev.now _)
  simp only [c, if_false]
  have hl := byt_of s
  have hr := rep_byt _ hl
  obtain ⟨t, ht⟩ : ∃ t, t = strOfNums (repL (bytesOf s)) := ⟨_, rfl⟩
  have hb : bytesOf t = repL (bytesOf s) := by rw [ht]; exact bytes_str _ hr
  have ht2 : t.size ≤ 2000 := by
    have := rep_len _ hl
    rw [← hb, bytesOf_length, bytesOf_length] at this
    omega
  have u1 := urep s (by omega)
  have u2 := rrep s (by omega)
  rw [← ht] at u1 u2
  have u3 := ucount s (by omega)
  have u4 := ucount t ht2
  have e4 : (pc (bytesOf t)).length = (pc (bytesOf s)).length := by rw [hb, rep_pc _ hl, List.length_map]
  rw [e4] at u4
  have u5 := uvalid t ht2
  rw [hb, decide_eq_true ((flt_ok _).2 (rep_ok _ hl))] at u5
  have u6 := uvalid s (by omega)
  have u7 := urep t ht2
  rw [hb, rep_rep _ hl, ← ht] at u7
  have e8 : ((t.toList == s.toList) == decide (flt (bytesOf s) < 0)) = true := by
    rw [toList_beq, hb, beq_iff_eq, decide_eq_decide]
    exact rep_same _ hl
  refine Ev.bind (f := fun k t179 => ((monikerref02_Repair.f k s).bind fun bt180 => (if t179.toList = bt180.1.toList then ((utf_Count.f k s).bind fun t182 => (if t182 = bt180.2 then ((utf_Count.f k t179).bind fun t183 => (if t183 = bt180.2 then ((utf_Valid.f t179).bind fun t184 => (if t184 = true then ((utf_Valid.f s).bind fun t185 => (if ((t179.toList == s.toList) == t185) = true then ((utf_Repair.f k t179).bind fun t186 => (if t186.toList = t179.toList then ((monikerlaw02_awake.f k).bind fun t187 => (some t187)) else (some false))) else (some false))) else (some false))) else (some false))) else (some false))) else (some false)))) u1 ?_
  refine Ev.bind (f := fun k bt180 => (if t.toList = bt180.1.toList then ((utf_Count.f k s).bind fun t182 => (if t182 = bt180.2 then ((utf_Count.f k t).bind fun t183 => (if t183 = bt180.2 then ((utf_Valid.f t).bind fun t184 => (if t184 = true then ((utf_Valid.f s).bind fun t185 => (if ((t.toList == s.toList) == t185) = true then ((utf_Repair.f k t).bind fun t186 => (if t186.toList = t.toList then ((monikerlaw02_awake.f k).bind fun t187 => (some t187)) else (some false))) else (some false))) else (some false))) else (some false))) else (some false))) else (some false))) u2 ?_
  simp only [if_true, u5, u6, Option.bind_some, e8]
  refine Ev.bind (f := fun k t182 => (if t182 = ((pc (bytesOf s)).length : Int) then ((utf_Count.f k t).bind fun t183 => (if t183 = ((pc (bytesOf s)).length : Int) then ((utf_Repair.f k t).bind fun t186 => (if t186.toList = t.toList then ((monikerlaw02_awake.f k).bind fun t187 => (some t187)) else (some false))) else (some false))) else (some false))) u3 ?_
  simp only [if_true]
  refine Ev.bind (f := fun k t183 => (if t183 = ((pc (bytesOf s)).length : Int) then ((utf_Repair.f k t).bind fun t186 => (if t186.toList = t.toList then ((monikerlaw02_awake.f k).bind fun t187 => (some t187)) else (some false))) else (some false))) u4 ?_
  simp only [if_true]
  refine Ev.bind (f := fun k t186 => (if t186.toList = t.toList then ((monikerlaw02_awake.f k).bind fun t187 => (some t187)) else (some false))) u7 ?_
  simp only [if_true]
  exact Ev.bind awake_ev (Ev.now _)

end Go.Proofs.Ytedaalklakokkaa.Pure
