/- The pure law Base64Encodes: any bytes are encoded as the document says, with as many signs; decoded they are as they were. Condition: the bytes are within the form's reach. -/
import Derived.Test.YtfjoigkgpdgnbaaDoorP34d
import Derived.OpenShut
namespace Go.Proofs.YtfjoigkgpdgnbaaDoor.Pure
open Go.RowKit Go.Proofs.YtfjoigkgpdgnbaaDoor.PAll Go.Proofs.YtfjoigkgpdgnbaaDoor.By Go.Proofs.YtfjoigkgpdgnbaaDoor.P34 Go.Proofs.YtfjoigkgpdgnbaaDoorW.PrintWords Go.Proofs.YtfjoigkgpdgnbaaDoorW.PrintLast Go.Proofs.YtfjoigkgpdgnbaaDoorW.PrintMore
set_option linter.unusedVariables false

theorem size_is (n : Nat) (p : Bool) (h : n ≤ 200) : base64_Size.f (n : Int) p = some (((if p = true then (n + 2) / 3 * 4 else n / 3 * 4 + n % 3 + (n % 3 + 1) / 2 : Nat) : Int)) := by
  have key : ∀ p : Bool, ∀ n : Fin 201, base64_Size.f (n.val : Int) p = some (((if p = true then (n.val + 2) / 3 * 4 else n.val / 3 * 4 + n.val % 3 + (n.val % 3 + 1) / 2 : Nat) : Int)) := by decide +kernel
  exact key p ⟨n, by omega⟩
theorem Base64Encodes : monikerlaw34_Base64Encodes.Pure := by
  intro l0 a1 a2 _ _ hwf
  have hB : Byt l0 := fun x hx => by have := bounds_u8 (hwf x hx); omega
  refine Ev.rounds (g := fun k => monikerlaw34_Base64Encodes.f k l0 a1 a2) ?_
  unfold monikerlaw34_Base64Encodes.f
  by_cases h0 : (l0.length : Int) > 200
  · simp only [h0, if_true]
    exact Ev.bind awake_ev (Ev.now _)
  simp only [h0, if_false]
  have hl : l0.length ≤ 200 := by omega
  have hz : (strOfNums (ENC a1 a2 l0)).size = (ENC a1 a2 l0).length := strOfNums_size _
  have hel := ENC_len a1 a2 l0
  have hle : (ENC a1 a2 l0).length ≤ 1000 := by rw [hel]; split <;> omega
  have hb := bytes_str _ (ENC_byt a1 a2 l0 hB)
  have hd := Decode_ev a1 a2 (strOfNums (ENC a1 a2 l0)) (by omega)
  rw [hb, DEC_ENC a1 a2 l0 hB] at hd
  refine Ev.bind (Encode_ev a1 a2 l0 (by omega) hB) ?_
  refine Ev.bind hd ?_
  refine Ev.bind (refEncode_ev a1 a2 l0 (by omega) hB) ?_
  simp only [if_true, size_is l0.length a2 hl, Option.bind_some, hz, hel, ans, List.nil_append]
  exact Ev.bind awake_ev (Ev.now _)
end Go.Proofs.YtfjoigkgpdgnbaaDoor.Pure
