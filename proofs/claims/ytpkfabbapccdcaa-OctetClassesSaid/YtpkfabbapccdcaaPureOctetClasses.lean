/- The law OctetClasses answers true at every byte and every number of classes. No condition. -/
import Derived.Test.YtpkfabbapccdcaaPAllx2
import Derived.Test.YtpkfabbapccdcaaP01
import Derived.OpenShut
namespace Go.Proofs.Ytpkfabbapccdcaa.Pure
open Go.RowKit Go.Proofs.Ytpkfabbapccdcaa.PAll Go.Proofs.YtpkfabbapccdcaaW.PrintWords Go.Proofs.YtpkfabbapccdcaaW.PrintLast
open Go.Proofs.Ytpkfabbapccdcaa.Oct Go.Proofs.Ytpkfabbapccdcaa.By Go.Proofs.Ytpkfabbapccdcaa.P01

theorem OctetClasses : monikerlaw01_OctetClasses.Pure := by
  intro a c ha _
  have h := bounds_u8 ha
  apply Ev.rounds
  unfold monikerlaw01_OctetClasses.f
  refine Ev.bind (f := fun k t115 => (monikerref01_Class.f k a).bind fun t116 => (if t115 = t116 then ((octet_Is.f k a c).bind fun t117 => ((monikerref01_Class.f k a).bind fun t118 => (if (t117 == ((Go.bits .and .i64 t118 c) != 0)) = true then ((monikerlaw01_awake.f k).bind fun t119 => (some t119)) else (some false)))) else (some false))) (Class_ev a h) ?_
  refine Ev.bind (f := fun k t116 => if cls a = t116 then ((octet_Is.f k a c).bind fun t117 => ((monikerref01_Class.f k a).bind fun t118 => (if (t117 == ((Go.bits .and .i64 t118 c) != 0)) = true then ((monikerlaw01_awake.f k).bind fun t119 => (some t119)) else (some false)))) else (some false)) (refClass_ev a) ?_
  simp only [if_true]
  refine Ev.bind (f := fun k t117 => (monikerref01_Class.f k a).bind fun t118 => (if (t117 == ((Go.bits .and .i64 t118 c) != 0)) = true then ((monikerlaw01_awake.f k).bind fun t119 => (some t119)) else (some false))) (Is_ev a c h) ?_
  refine Ev.bind (f := fun k t118 => if ((Go.bits .and .i64 (cls a) c != 0) == ((Go.bits .and .i64 t118 c) != 0)) = true then ((monikerlaw01_awake.f k).bind fun t119 => (some t119)) else (some false)) (refClass_ev a) ?_
  simp only [beq_self_eq_true, if_true]
  exact Ev.bind (f := fun _ t => some t) awake_ev (Ev.now _)

end Go.Proofs.Ytpkfabbapccdcaa.Pure
