/- The law OctetSpans answers true at every text, classes, place and set. No condition. -/
import Derived.Test.YtpkfabbapccdcaaPAllx3
import Derived.Test.YtpkfabbapccdcaaP01
import Derived.OpenShut
namespace Go.Proofs.Ytpkfabbapccdcaa.Pure
open Go.RowKit Go.Proofs.Ytpkfabbapccdcaa.PAll Go.Proofs.YtpkfabbapccdcaaW.PrintWords Go.Proofs.YtpkfabbapccdcaaW.PrintLast
open Go.Proofs.Ytpkfabbapccdcaa.Oct Go.Proofs.Ytpkfabbapccdcaa.By Go.Proofs.Ytpkfabbapccdcaa.P01

/-- What the law looks for, from a place on, when nothing is found yet. -/
def wnt (set : List Int) (from_ : Int) : List Int → Int → Int
  | [], _ => -1
  | b :: r, i => if from_ ≤ i ∧ b ∈ set then i else wnt set from_ r (i + 1)
theorem wnt_past (set : List Int) (from_ : Int) : ∀ (l : List Int) (i : Int), from_ ≤ i → wnt set from_ l i = fst set l i := by
  intro l
  induction l with
  | nil => intro i _; rfl
  | cons b r ih =>
    intro i hi
    unfold wnt fst
    by_cases h : b ∈ set
    · rw [if_pos ⟨hi, h⟩, if_pos h]
    · rw [if_neg (fun q => h q.2), if_neg h, ih _ (by omega)]
theorem wnt_all (set : List Int) (from_ : Int) : ∀ (l : List Int) (i : Nat), (i : Int) ≤ from_ → wnt set from_ l i = fst set (l.drop (from_.toNat - i)) (from_.toNat : Nat) := by
  intro l
  induction l with
  | nil => intro i _; simp [wnt, fst]
  | cons b r ih =>
    intro i hi
    by_cases h : (i : Int) = from_
    · rw [wnt_past _ _ _ _ (by omega)]
      rw [show from_.toNat - i = 0 by omega, show ((from_.toNat : Nat) : Int) = (i : Int) by omega]; rfl
    · unfold wnt
      rw [if_neg (fun q => h (by omega))]
      have := ih (i + 1) (by omega)
      rw [show ((i : Nat) : Int) + 1 = ((i + 1 : Nat) : Int) by omega, this]
      rw [show from_.toNat - i = (from_.toNat - (i + 1)) + 1 by omega, List.drop_succ_cons]

theorem rest_ev (s set : ByteArray) (c f w : Int) (hs : s.size ≤ 140737488355328) (hset : set.size ≤ 140737488355328) (hw : w = fst (bytesOf set) ((bytesOf s).drop f.toNat) (f.toNat : Nat)) :
    Ev (fun k => (octet_Span.f k s c).bind fun t123 => ((monikerref01_Span.f k s c).bind fun t124 => (if t123 = t124 then ((octet_Find.f k s f set).bind fun t125 => (if t125 = w then ((monikerlaw01_awake.f k).bind fun t126 => (some t126)) else (some false))) else (some false)))) true := by
  refine Ev.bind (f := fun k t123 => (monikerref01_Span.f k s c).bind fun t124 => (if t123 = t124 then ((octet_Find.f k s f set).bind fun t125 => (if t125 = w then ((monikerlaw01_awake.f k).bind fun t126 => (some t126)) else (some false))) else (some false))) (Span_ev s c hs) ?_
  refine Ev.bind (f := fun k t124 => if spn c (bytesOf s) 0 = t124 then ((octet_Find.f k s f set).bind fun t125 => (if t125 = w then ((monikerlaw01_awake.f k).bind fun t126 => (some t126)) else (some false))) else (some false)) (refSpan_ev s c hs) ?_
  simp only [if_true]
  refine Ev.bind (f := fun k t125 => if t125 = w then ((monikerlaw01_awake.f k).bind fun t126 => (some t126)) else (some false)) (Find_ev s set f hs hset) ?_
  simp only [hw, if_true]
  exact Ev.bind (f := fun _ t => some t) awake_ev (Ev.now _)

theorem found (s set : ByteArray) (c f w : Int) (hs : s.size ≤ 140737488355328) (hw : 0 ≤ w) (r : Ev (fun k => (octet_Span.f k s c).bind fun t123 => ((monikerref01_Span.f k s c).bind fun t124 => (if t123 = t124 then ((octet_Find.f k s f set).bind fun t125 => (if t125 = w then ((monikerlaw01_awake.f k).bind fun t126 => (some t126)) else (some false))) else (some false)))) true) :
    ∀ i : Nat, i ≤ s.size → Ev (fun k => monikerlaw01_OctetSpans.l0 k s c f set w (i : Int)) true := by
  apply from_end
  · refine Ev.step (fun k => ?_) r
    simp only [monikerlaw01_OctetSpans.l0]; rw [if_neg (by omega)]
  · intro i hi ih
    refine Ev.step (f := fun k => monikerlaw01_OctetSpans.l0 k s c f set w ((i + 1 : Nat) : Int)) (fun k => ?_) ih
    simp only [monikerlaw01_OctetSpans.l0]; rw [if_pos (by omega), w64 (by omega) (by omega)]
    by_cases h : (i : Int) ≥ f
    · rw [if_pos h, if_neg (by omega)]; rfl
    · rw [if_neg h]; rfl

theorem look (s set : ByteArray) (c f : Int) (hs : s.size ≤ 140737488355328) (hset : set.size ≤ 140737488355328) :
    ∀ i : Nat, i ≤ s.size → wnt (bytesOf set) f ((bytesOf s).drop i) i = fst (bytesOf set) ((bytesOf s).drop f.toNat) (f.toNat : Nat) → Ev (fun k => monikerlaw01_OctetSpans.l0 k s c f set (-1) (i : Int)) true := by
  apply from_end
  · intro hw
    rw [drop_end] at hw
    refine Ev.step (fun k => ?_) (rest_ev s set c f (-1) hs hset hw)
    simp only [monikerlaw01_OctetSpans.l0]; rw [if_neg (by omega)]
  · intro i hi ih hw
    rw [drop_bytes s i hi] at hw
    unfold wnt at hw
    by_cases h : (i : Int) ≥ f
    · refine Ev.step (f := fun k => (monikerref01_In.f k (bt s i) set).bind fun t122 => (if t122 = true then (monikerlaw01_OctetSpans.l0 k s c f set (i : Int) ((i + 1 : Nat) : Int)) else (monikerlaw01_OctetSpans.l0 k s c f set (-1) ((i + 1 : Nat) : Int)))) (fun k => ?_) ?_
      · simp only [monikerlaw01_OctetSpans.l0]; rw [if_pos (by omega), if_pos h, if_pos (by omega), if_pos (by omega), w64 (by omega) (by omega)]; rfl
      · refine Ev.bind (f := fun k t122 => if t122 = true then (monikerlaw01_OctetSpans.l0 k s c f set (i : Int) ((i + 1 : Nat) : Int)) else (monikerlaw01_OctetSpans.l0 k s c f set (-1) ((i + 1 : Nat) : Int))) (In_ev _ set hset) ?_
        by_cases m : bt s i ∈ bytesOf set
        · simp only [m, decide_true, if_true]
          rw [if_pos ⟨h, m⟩] at hw
          exact found s set c f _ hs (by omega) (rest_ev s set c f _ hs hset hw) (i + 1) (by omega)
        · simp only [m, decide_false, if_false, Bool.false_eq_true]
          rw [if_neg (fun q => m q.2)] at hw
          exact ih hw
    · refine Ev.step (f := fun k => monikerlaw01_OctetSpans.l0 k s c f set (-1) ((i + 1 : Nat) : Int)) (fun k => ?_) (ih ?_)
      · simp only [monikerlaw01_OctetSpans.l0]; rw [if_pos (by omega), if_neg h, w64 (by omega) (by omega)]; rfl
      · rw [if_neg (fun q => h q.1)] at hw
        exact hw

theorem OctetSpans : monikerlaw01_OctetSpans.Pure := by
  intro s c f set _ _ _ _
  apply Ev.rounds
  have aw := Ev.bind (f := fun _ t => some t) awake_ev (Ev.now _)
  unfold monikerlaw01_OctetSpans.f
  by_cases h : (s.size : Int) > 300
  · simp only [h, if_true]
    exact Ev.step (fun k => by simp only [monikerlaw01_OctetSpans.j0, if_true]) aw
  · simp only [h, if_false]
    by_cases h2 : (set.size : Int) > 50
    · simp only [h2, decide_true]
      exact Ev.step (fun k => by simp only [monikerlaw01_OctetSpans.j0, if_true]) aw
    · simp only [h2, decide_false]
      refine Ev.step (f := fun k => monikerlaw01_OctetSpans.l0 k s c f set (-1) ((0 : Nat) : Int)) (fun k => by simp only [monikerlaw01_OctetSpans.j0, if_false, Bool.false_eq_true]; rfl) ?_
      refine look s set c f (by omega) (by omega) 0 (Nat.zero_le _) ?_
      rw [List.drop_zero]
      by_cases hf : 0 ≤ f
      · have := wnt_all (bytesOf set) f (bytesOf s) 0 (by omega)
        simpa using this
      · have e : f.toNat = 0 := by omega
        rw [wnt_past _ _ _ _ (by omega), e]; rfl

end Go.Proofs.Ytpkfabbapccdcaa.Pure
