/- The pure law Base64Decodes: any text is just the bytes that are encoded to it, or none. Condition: the text is within the form's reach. -/
import Derived.Test.YtfjoigkgpdgnbaaDoorP34e
namespace Go.Proofs.YtfjoigkgpdgnbaaDoor.Pure
open Go.RowKit Go.Proofs.YtfjoigkgpdgnbaaDoor.PAll Go.Proofs.YtfjoigkgpdgnbaaDoor.By Go.Proofs.YtfjoigkgpdgnbaaDoor.P34 Go.Proofs.YtfjoigkgpdgnbaaDoorW.PrintWords Go.Proofs.YtfjoigkgpdgnbaaDoorW.PrintLast Go.Proofs.YtfjoigkgpdgnbaaDoorW.PrintMore
set_option linter.unusedVariables false

theorem Base64Decodes : monikerlaw34_Base64Decodes.Pure := by
  intro a0 a1 a2 _
  refine Ev.rounds (g := fun k => monikerlaw34_Base64Decodes.f k a0 a1 a2) ?_
  unfold monikerlaw34_Base64Decodes.f
  by_cases h0 : (a0.size : Int) > 200
  · simp only [h0, if_true]
    exact Ev.bind awake_ev (Ev.now _)
  simp only [h0, if_false]
  have hl : a0.size ≤ 200 := by omega
  have hd := Decode_ev a1 a2 a0 (by omega)
  have hr := refDecode_ev a1 a2 a0 (by omega)
  refine Ev.bind hd (Ev.bind hr ?_)
  cases hD : DEC a1 a2 (bytesOf a0) with
  | some l =>
    obtain ⟨he, hB⟩ := ENC_DEC a1 a2 _ l hD
    have ho : rout a1 (bytesOf a0) 0 0 = l := by rw [← he]; exact rout_ENC a1 a2 l hB
    have hs : strOfNums (ENC a1 a2 l) = a0 := by rw [he, str_bytes]
    have hel := ENC_len a1 a2 l
    rw [he, bytesOf_length] at hel
    have hll : l.length ≤ 300 := by
      revert hel
      cases a2 <;> simp <;> omega
    rw [ho, hs]
    simp only [ans, List.nil_append, beq_self_eq_true, if_true]
    have hen := Encode_ev a1 a2 l hll hB
    rw [hs] at hen
    refine Ev.bind hen ?_
    simp only [if_true]
    exact Ev.bind awake_ev (Ev.now _)
  | none =>
    have hne : ((strOfNums (ENC a1 a2 (rout a1 (bytesOf a0) 0 0))).toList == a0.toList) = false := by
      rw [toList_beq, bytes_str _ (ENC_byt a1 a2 _ (rout_byt a1 _ 0 0))]
      refine decide_eq_false fun e => ?_
      have := DEC_ENC a1 a2 (rout a1 (bytesOf a0) 0 0) (rout_byt a1 _ 0 0)
      rw [e, hD] at this
      cases this
    rw [hne]
    have ea : ans [] none = (([] : List Int), (9 : Int)) := rfl
    rw [ea]
    have e0 : ((([] : List Int).length : Int) = 0) = True := eq_true rfl
    simp only [Bool.false_eq_true, if_false, if_true, e0]
    exact Ev.bind awake_ev (Ev.now _)
end Go.Proofs.YtfjoigkgpdgnbaaDoor.Pure
