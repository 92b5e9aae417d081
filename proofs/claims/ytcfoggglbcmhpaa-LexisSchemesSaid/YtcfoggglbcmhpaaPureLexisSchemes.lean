import Derived.Test.YtcfoggglbcmhpaaP18
namespace Go.Proofs.Ytcfoggglbcmhpaa.Pure
open Go.RowKit Go.Proofs.Ytcfoggglbcmhpaa.PAll Go.Proofs.Ytcfoggglbcmhpaa.Oct Go.Proofs.Ytcfoggglbcmhpaa.By Go.Proofs.Ytcfoggglbcmhpaa.Find Go.Proofs.Ytcfoggglbcmhpaa.P18 Go.Proofs.YtcfoggglbcmhpaaW.PrintWords Go.Proofs.YtcfoggglbcmhpaaW.PrintLast

def sgn (b : Int) : Bool := (Go.bits .and .i64 (cls b) 3 != 0) || decide (b ∈ ([43, 45, 46] : List Int))
def sch (l : List Int) : Bool := match l with | [] => false | b :: t => (Go.bits .and .i64 (cls b) 1 != 0) && sgn b && t.all sgn
theorem and1 (x : Int) (h : 0 ≤ x ∧ x ≤ 63) : Go.bits .and .i64 x 1 = x % 2 :=
  bits_mask .i64 31 (by decide) (fun n a b => by rw [IntKind.wrap_i64]; omega) 1 (by decide) x h.1 (by omega)
theorem loop_ev (s : ByteArray) (hs : s.size ≤ 200) : ∀ i, i ≤ s.size → Ev (fun k => lexis_Scheme.l0 k s (s.size : Int) (i : Int)) (((bytesOf s).drop i).all sgn) := by
  apply from_end
  · refine Ev.step (f := fun _ => some true) (fun k => ?_) ?_
    · simp only [lexis_Scheme.l0]; rw [if_neg (by omega)]
    · rw [drop_end]; exact Ev.now _
  · intro i hi ih
    rw [drop_bytes s i hi, List.all_cons]
    have hw : wrap64 ((i : Int) + 1) = ((i + 1 : Nat) : Int) := by unfold wrap64; omega
    refine Ev.step (f := fun k => (octet_Is.f k (bt s i) 3).bind fun t119 => (if t119 = true then (lexis_Scheme.l0 k s (s.size : Int) ((i + 1 : Nat) : Int)) else ((octet_Find.f k (⟨#[43, 45, 46]⟩ : ByteArray) 0 (s.extract i (i + 1))).bind fun t120 => (if t120 < 0 then (some false) else (lexis_Scheme.l0 k s (s.size : Int) ((i + 1 : Nat) : Int)))))) (fun k => ?_) ?_
    · simp only [lexis_Scheme.l0, hw, Int.toNat_natCast]
      rw [if_pos (by omega), if_pos (by omega), if_pos (by omega), if_pos (show (i : Int) ≤ ((i + 1 : Nat) : Int) by omega), if_pos (show ((i + 1 : Nat) : Int) ≤ (s.size : Int) by omega)]
    · refine Ev.bind (Is_ev (bt s i) 3 (bt_range s i)) ?_
      unfold sgn at ih ⊢
      cases hc : (Go.bits .and .i64 (cls (bt s i)) 3 != 0) with
      | true => simp only [if_true, Bool.true_or, Bool.true_and]; exact ih
      | false =>
        simp only [Bool.false_eq_true, if_false, Bool.false_or]
        refine Ev.bind (Find_ev (⟨#[43, 45, 46]⟩ : ByteArray) (s.extract i (i + 1)) 0 (by decide) (by rw [ByteArray.size_extract]; omega)) ?_
        have e : bytesOf (s.extract i (i + 1)) = [bt s i] := by
          rw [bytes_extract, drop_bytes s i hi, Nat.add_sub_cancel_left]; rfl
        rw [e, Int.toNat_zero, List.drop_zero, show bytesOf (⟨#[43, 45, 46]⟩ : ByteArray) = [43, 45, 46] from rfl]
        have h := fst_mem [bt s i] [43, 45, 46] 0 (by omega)
        have e2 : (fst [bt s i] [43, 45, 46] ((0 : Nat) : Int) < 0) ↔ ¬ bt s i ∈ ([43, 45, 46] : List Int) := by
          rw [Int.ofNat_zero]
          have : (∃ x ∈ ([43, 45, 46] : List Int), x ∈ [bt s i]) ↔ bt s i ∈ ([43, 45, 46] : List Int) := by
            constructor
            · rintro ⟨x, hx, h2⟩; rw [List.mem_singleton] at h2; rw [← h2]; exact hx
            · intro hx; exact ⟨_, hx, by simp⟩
          rw [this] at h
          rw [← h]
          omega
        by_cases g : bt s i ∈ ([43, 45, 46] : List Int)
        · rw [decide_eq_true g, Bool.true_and]
          simp only [show ¬ fst [bt s i] [43, 45, 46] ((0 : Nat) : Int) < 0 from fun h => e2.1 h g, if_false]
          exact ih
        · rw [decide_eq_false g, Bool.false_and]
          simp only [e2.2 g, if_true]
          exact Ev.now _
theorem scheme_ev (s : ByteArray) (hs : s.size ≤ 200) : Ev (fun k => lexis_Scheme.f k s) (sch (bytesOf s)) := by
  unfold lexis_Scheme.f
  have ht : Ev (fun k => lexis_Scheme.j0 k s true) false := Ev.step (f := fun _ => some false) (fun k => by simp only [lexis_Scheme.j0, if_true]) (Ev.now _)
  by_cases h0 : s.size = 0
  · have e : s.toList = ([] : List UInt8) := by
      rw [Lib.toList_data]
      exact List.length_eq_zero_iff.1 (by rw [Array.length_toList, ByteArray.size_data]; exact h0)
    simp only [e, if_true]
    rw [bytes_empty.2 h0]
    exact ht
  · have e : ¬ s.toList = ([] : List UInt8) := by
      rw [Lib.toList_data]
      intro h
      exact h0 (by rw [← ByteArray.size_data, ← Array.length_toList, h]; rfl)
    simp only [e, show 0 < (s.size : Int) by omega, if_true, if_false]
    have hl := loop_ev s hs 0 (by omega)
    rw [drop_bytes s 0 (by omega), List.all_cons] at hl
    have hd := drop_bytes s 0 (by omega)
    rw [List.drop_zero] at hd
    rw [hd]
    refine Ev.bind (Is_ev (bt s 0) 1 (bt_range s 0)) ?_
    unfold sch
    simp only [Int.ofNat_zero] at hl ⊢
    cases hc : (Go.bits .and .i64 (cls (bt s 0)) 1 != 0) with
    | false => simp only [Bool.not_false, Bool.false_and]; exact ht
    | true =>
      simp only [Bool.not_true, Bool.true_and]
      exact Ev.step (f := fun k => lexis_Scheme.l0 k s (s.size : Int) 0) (fun k => by simp only [lexis_Scheme.j0, Bool.false_eq_true, if_false]) hl
theorem ref_round (s : ByteArray) (hs : s.size ≤ 200) (i : Nat) (hi : i < s.size) (r : Bool) (ih : Ev (fun k => monikerref18_Scheme.l0 k s ((i + 1 : Nat) : Int)) r) :
    Ev (fun k => monikerref18_Scheme.j1 k s (i : Int) (cls (bt s i)) false) (sgn (bt s i) && r) := by
  have hw : wrap64 ((i : Int) + 1) = ((i + 1 : Nat) : Int) := by unfold wrap64; omega
  unfold sgn
  by_cases c : Go.bits .and .i64 (cls (bt s i)) 3 = 0
  · rw [bne_eq_false_iff_eq.2 c, Bool.false_or]
    refine Ev.step (f := fun k => (monikerref01_In.f k (bt s i) (⟨#[43, 45, 46]⟩ : ByteArray)).bind fun t150 => (if t150 = true then (monikerref18_Scheme.l0 k s ((i + 1 : Nat) : Int)) else (some false))) (fun k => ?_) ?_
    · simp only [monikerref18_Scheme.j1, Bool.false_eq_true, if_false, hw]
      rw [if_pos c, if_pos (by omega), if_pos (by omega)]
    · refine Ev.bind (In_ev (bt s i) (⟨#[43, 45, 46]⟩ : ByteArray) (by decide)) ?_
      rw [show bytesOf (⟨#[43, 45, 46]⟩ : ByteArray) = [43, 45, 46] from rfl]
      by_cases g : bt s i ∈ ([43, 45, 46] : List Int)
      · simp only [g, decide_true, if_true, Bool.true_and]; exact ih
      · simp only [g, decide_false, Bool.false_eq_true, if_false, Bool.false_and]; exact Ev.now _
  · rw [bne_iff_ne.2 c, Bool.true_or, Bool.true_and]
    refine Ev.step (fun k => ?_) ih
    simp only [monikerref18_Scheme.j1, Bool.false_eq_true, if_false, hw]
    rw [if_neg c]
theorem ref_from (s : ByteArray) (hs : s.size ≤ 200) (h0 : 0 < s.size) : ∀ i, i ≤ s.size → 1 ≤ i → Ev (fun k => monikerref18_Scheme.l0 k s (i : Int)) (((bytesOf s).drop i).all sgn) := by
  apply from_end
  · intro _
    refine Ev.step (f := fun _ => some true) (fun k => ?_) ?_
    · simp only [monikerref18_Scheme.l0]; rw [if_neg (by omega), decide_eq_true (by omega)]
    · rw [drop_end]; exact Ev.now _
  · intro i hi ih h1
    rw [drop_bytes s i hi, List.all_cons]
    refine Ev.step (f := fun k => (monikerref01_Class.f k (bt s i)).bind fun t149 => monikerref18_Scheme.j1 k s (i : Int) t149 false) (fun k => ?_) (Ev.bind (refClass_ev _) (ref_round s hs i hi _ (ih (by omega))))
    simp only [monikerref18_Scheme.l0]
    rw [if_pos (by omega), if_pos (by omega)]
    simp only [show ¬ (i : Int) = 0 by omega, if_false]
theorem ref_ev (s : ByteArray) (hs : s.size ≤ 200) : Ev (fun k => monikerref18_Scheme.f k s) (sch (bytesOf s)) := by
  unfold monikerref18_Scheme.f
  by_cases h0 : s.size = 0
  · rw [bytes_empty.2 h0]
    refine Ev.step (f := fun _ => some false) (fun k => ?_) (Ev.now _)
    simp only [monikerref18_Scheme.l0]; rw [if_neg (by omega), decide_eq_false (by omega)]
  · have hd := drop_bytes s 0 (by omega)
    rw [List.drop_zero] at hd
    rw [hd]
    have hc := cls_bounds (bt s 0)
    have ha := and1 _ hc
    simp only [Int.ofNat_zero] at hd ⊢
    refine Ev.step (f := fun k => (monikerref01_Class.f k (bt s 0)).bind fun t149 => monikerref18_Scheme.j1 k s 0 t149 ((Int.tmod t149 2) == 0)) (fun k => ?_) (Ev.bind (refClass_ev _) ?_)
    · simp only [monikerref18_Scheme.l0]
      rw [if_pos (by omega), if_pos (by omega)]
      simp only [if_true]
    · have hm : Int.tmod (cls (bt s 0)) 2 = cls (bt s 0) % 2 := Int.tmod_eq_emod_of_nonneg hc.1
      unfold sch
      simp only [hm, ha]
      by_cases c : cls (bt s 0) % 2 = 0
      · rw [c]
        simp only [beq_self_eq_true, bne_self_eq_false, Bool.false_and]
        exact Ev.step (f := fun _ => some false) (fun k => by simp only [monikerref18_Scheme.j1, if_true]) (Ev.now _)
      · rw [beq_eq_false_iff_ne.2 c, bne_iff_ne.2 c, Bool.true_and]
        exact ref_round s hs 0 (by omega) _ (ref_from s hs (by omega) 1 (by omega) (by omega))
theorem LexisSchemes : monikerlaw18_LexisSchemes.Pure := by
  intro s _
  refine Ev.rounds ?_
  unfold monikerlaw18_LexisSchemes.f
  by_cases c : (s.size : Int) > 200
  · simp only [c, if_true]
    exact Ev.bind awake_ev (Ev.now _)
  · simp only [c, if_false]
    refine Ev.bind (scheme_ev s (by omega)) ?_
    refine Ev.bind (ref_ev s (by omega)) ?_
    simp only [beq_self_eq_true, if_true]
    exact Ev.bind awake_ev (Ev.now _)

end Go.Proofs.Ytcfoggglbcmhpaa.Pure
