/- The pure law TupleJoins: any components are joined as the document says; split again they are themselves just if they fit. Condition: each component is within the form's reach. -/
import Derived.Test.YtgccggbokphibaaPJoix10
import Derived.Test.YtgccggbokphibaaP20eJ
namespace Go.Proofs.Ytgccggbokphibaa.Pure
open Go.RowKit Go.Proofs.Ytgccggbokphibaa.PJoi Go.Proofs.Ytgccggbokphibaa.By Go.Proofs.Ytgccggbokphibaa.P20 Go.Proofs.YtgccggbokphibaaW.PrintWords Go.Proofs.YtgccggbokphibaaW.PrintLast
set_option linter.unusedVariables false
set_option linter.unusedSimpArgs false

theorem long_eq (a0 : ByteArray) (a1 : Bool) (a2 a3 : ByteArray) (a4 : Bool) (a5 : ByteArray) (a6 : Bool) (a7 : ByteArray) (h0 : a0.size ≤ 140737488351232) (h2 : a2.size ≤ 140737488351232) (h3 : a3.size ≤ 140737488351232) (h5 : a5.size ≤ 140737488351232) (h7 : a7.size ≤ 140737488351232) :
    monikerlaw20_long.f a0 a1 a2 a3 a4 a5 a6 a7 = some (decide (¬ (a0.size + a2.size ≤ 200 ∧ a3.size ≤ 200 ∧ a5.size + a7.size ≤ 200))) := by
  unfold monikerlaw20_long.f
  rw [Oct.w64 (x := (a0.size : Int) + (a2.size : Int)) (by omega) (by omega), Oct.w64 (x := (a5.size : Int) + (a7.size : Int)) (by omega) (by omega)]
  by_cases c1 : (a0.size : Int) + (a2.size : Int) > 200
  · rw [if_pos c1, decide_eq_true (by omega)]
  rw [if_neg c1]
  by_cases c2 : (a3.size : Int) > 200
  · rw [if_pos c2, decide_eq_true (by omega)]
  rw [if_neg c2]
  congr 1
  exact decide_eq_decide.2 (by omega)
theorem j5_len (hf : Bool) (fr : List Int) : (j5 hf fr).length ≤ fr.length + 1 := by
  unfold j5
  by_cases h : hf = true
  · rw [if_pos h]; simp only [List.length_append, List.length_cons, List.length_nil]; omega
  · rw [if_neg h]; exact Nat.zero_le _
theorem j4_len (hq : Bool) (qu r : List Int) : (j4 hq qu r).length ≤ qu.length + r.length + 1 := by
  unfold j4
  by_cases h : hq = true
  · rw [if_pos h]; simp only [List.length_append, List.length_cons, List.length_nil]; omega
  · rw [if_neg h]; omega
theorem j2_len (ha : Bool) (au r : List Int) : (j2 ha au r).length ≤ au.length + r.length + 2 := by
  unfold j2
  by_cases h : ha = true
  · rw [if_pos h]; simp only [List.length_append, List.length_cons, List.length_nil]; omega
  · rw [if_neg h]; omega
theorem j1_len (sc r : List Int) : (j1 sc r).length ≤ sc.length + r.length + 1 := by
  unfold j1
  by_cases h : sc ≠ []
  · rw [if_pos h]; simp only [List.length_append, List.length_cons, List.length_nil]; omega
  · rw [if_neg h]; omega
theorem join_len (sc : List Int) (ha : Bool) (au pa : List Int) (hq : Bool) (qu : List Int) (hf : Bool) (fr : List Int) :
    (join sc ha au pa hq qu hf fr).length ≤ sc.length + au.length + pa.length + qu.length + fr.length + 5 := by
  unfold join
  have e1 := j1_len sc (j2 ha au (pa ++ j4 hq qu (j5 hf fr)))
  have e2 := j2_len ha au (pa ++ j4 hq qu (j5 hf fr))
  have e4 := j4_len hq qu (j5 hf fr)
  have e5 := j5_len hf fr
  rw [List.length_append] at e2
  omega
theorem again (a0 : ByteArray) (a1 : Bool) (a2 a3 : ByteArray) (a4 : Bool) (a5 : ByteArray) (a6 : Bool) (a7 : ByteArray) :
    toT (split (joinT a0 a1 a2 a3 a4 a5 a6 a7)) = (a0, a1, a2, a3, a4, a5, a6, a7) ↔ fitsB (bytesOf a0) a1 (bytesOf a2) (bytesOf a3) a4 (bytesOf a5) a6 (bytesOf a7) = true := by
  rw [fitsB_iff]
  constructor
  · intro h
    have hf := fits_split (joinT a0 a1 a2 a3 a4 a5 a6 a7)
    have hb := join_byt a0 a1 a2 a3 a4 a5 a6 a7
    have hj := join_split (joinT a0 a1 a2 a3 a4 a5 a6 a7)
    obtain ⟨l, hl⟩ : ∃ l, l = joinT a0 a1 a2 a3 a4 a5 a6 a7 := ⟨_, rfl⟩
    rw [← hl] at h hf hb hj
    obtain ⟨y, hy⟩ : ∃ y, y = split l := ⟨_, rfl⟩
    rw [← hy] at h hf hj
    obtain ⟨y0, y1, y2, y3, y4, y5, y6, y7⟩ := y
    simp only at hf hj
    obtain ⟨c0, c2, c3, c5, c7, -⟩ := parts_in y0 y1 y2 y3 y4 y5 y6 y7 l hj hf
    have b0 : Byt y0 := fun x hx => hb x (c0 x hx)
    have b2 : Byt y2 := fun x hx => hb x (c2 x hx)
    have b3 : Byt y3 := fun x hx => hb x (c3 x hx)
    have b5 : Byt y5 := fun x hx => hb x (c5 x hx)
    have b7 : Byt y7 := fun x hx => hb x (c7 x hx)
    unfold toT at h
    simp only [Prod.mk.injEq] at h
    obtain ⟨e0, e1, e2, e3, e4, e5, e6, e7⟩ := h
    subst e0 e1 e2 e3 e4 e5 e6 e7
    rw [B_S b0, B_S b2, B_S b3, B_S b5, B_S b7]
    exact hf
  · intro h
    unfold joinT
    rw [split_join _ _ _ _ _ _ _ _ h]
    unfold toT
    simp only [S_B]
theorem TupleJoins (a0 : ByteArray) (a1 : Bool) (a2 a3 : ByteArray) (a4 : Bool) (a5 : ByteArray) (a6 : Bool) (a7 : ByteArray) (h0 : a0.size ≤ 140737488351232) (h2 : a2.size ≤ 140737488351232) (h3 : a3.size ≤ 140737488351232) (h5 : a5.size ≤ 140737488351232) (h7 : a7.size ≤ 140737488351232) :
    ∃ k, monikerlaw20_TupleJoins.f k a0 a1 a2 a3 a4 a5 a6 a7 = some true := by
  refine Ev.rounds (g := fun k => monikerlaw20_TupleJoins.f k a0 a1 a2 a3 a4 a5 a6 a7) ?_
  unfold monikerlaw20_TupleJoins.f
  rw [long_eq a0 a1 a2 a3 a4 a5 a6 a7 h0 h2 h3 h5 h7]
  simp only [Option.bind_some]
  by_cases hl : a0.size + a2.size ≤ 200 ∧ a3.size ≤ 200 ∧ a5.size + a7.size ≤ 200
  · rw [decide_eq_false (fun x => x hl)]
    simp only [Bool.false_eq_true, if_false]
    refine Ev.bind (Join_ev a0 a1 a2 a3 a4 a5 a6 a7 (by omega) (by omega) (by omega) (by omega) (by omega)) (Ev.bind (refJoin_ev a0 a1 a2 a3 a4 a5 a6 a7 (by omega) (by omega) (by omega) (by omega) (by omega)) ?_)
    simp only [if_true]
    have hF := Fits_ev a0 a1 a2 a3 a4 a5 a6 a7 (by omega) (by omega) (by omega) (by omega) (by omega)
    have hz : (strOfNums (joinT a0 a1 a2 a3 a4 a5 a6 a7)).size ≤ 100000 := by
      rw [S_size]
      unfold joinT
      have := join_len (bytesOf a0) a1 (bytesOf a2) (bytesOf a3) a4 (bytesOf a5) a6 (bytesOf a7)
      simp only [bytesOf_length] at this
      omega
    have hS := Split_ev _ hz
    have hR := refSplit_ev _ hz
    rw [B_S (join_byt a0 a1 a2 a3 a4 a5 a6 a7)] at hS hR
    have hg := again a0 a1 a2 a3 a4 a5 a6 a7
    obtain ⟨l, hl⟩ : ∃ l, l = joinT a0 a1 a2 a3 a4 a5 a6 a7 := ⟨_, rfl⟩
    rw [← hl] at hS hR hg ⊢
    obtain ⟨x, hx⟩ : ∃ x, x = toT (split l) := ⟨_, rfl⟩
    rw [← hx] at hS hR hg
    have s8 := same8 x (a0, a1, a2, a3, a4, a5, a6, a7)
    rw [hg] at s8
    have s9 := Bool.eq_iff_iff.2 s8
    simp only at s9
    refine Ev.bind hF (Ev.bind hR ?_)
    rw [s9]
    simp only [beq_self_eq_true, if_true]
    refine Ev.bind hF (Ev.bind hS ?_)
    rw [s9]
    simp only [beq_self_eq_true, if_true]
    exact Ev.bind awake_ev (Ev.now _)
  · rw [decide_eq_true hl]
    simp only [if_true]
    exact Ev.bind awake_ev (Ev.now _)
theorem TupleJoins_walk (a0 : ByteArray) (a1 : Bool) (a2 a3 : ByteArray) (a4 : Bool) (a5 : ByteArray) (a6 : Bool) (a7 : ByteArray) (W : World) (h0 : a0.size ≤ 140737488351232) (h2 : a2.size ≤ 140737488351232) (h3 : a3.size ≤ 140737488351232) (h5 : a5.size ≤ 140737488351232) (h7 : a7.size ≤ 140737488351232) :
    Calls Try.prog 6 #[.agg #[.string a0, .bool a1, .string a2, .string a3, .bool a4, .string a5, .bool a6, .string a7]] W fun e w' => e = .returned (.bool true) ∧ Below W.heap.size W w' := by
  obtain ⟨k, hk⟩ := TupleJoins a0 a1 a2 a3 a4 a5 a6 a7 h0 h2 h3 h5 h7
  exact monikerlaw20_TupleJoins.calls k a0 a1 a2 a3 a4 a5 a6 a7 true W hk
end Go.Proofs.Ytgccggbokphibaa.Pure
