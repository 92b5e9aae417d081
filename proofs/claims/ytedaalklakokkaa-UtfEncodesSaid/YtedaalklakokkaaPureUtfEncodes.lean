import Derived.Test.YtedaalklakokkaaPAllx5
import Derived.Test.YtedaalklakokkaaP02d
namespace Go.Proofs.Ytedaalklakokkaa.Pure
open Go.RowKit Go.Proofs.Ytedaalklakokkaa.PAll Go.Proofs.Ytedaalklakokkaa.By Go.Proofs.Ytedaalklakokkaa.P02 Go.Proofs.YtedaalklakokkaaW.PrintWords Go.Proofs.YtedaalklakokkaaW.PrintLast

theorem enc_end (r : Int) (a1 b : ByteArray) (hw : wrap64 r = r) (hs : a1.size ≤ 300) (hb : scaB r = true → bytesOf b = encI r) : Ev (fun k => monikerlaw02_UtfEncodes.j0 k r a1 b false) true := by
  cases h : scaB r with
  | true =>
    have hb := hb h
    have hl := enc_pos r
    rw [← hb, bytesOf_length] at hl
    have hd : utf_Decode.f (b ++ a1) = some (r, (b.size : Int), true) := by
      rw [udec _ (by rw [ByteArray.size_append]; omega), bytes_append, hb, dec_enc r _ h, ← hb, bytesOf_length]
    refine Ev.step (f := fun k => (monikerlaw02_awake.f k).bind fun t => some t) (fun k => ?_) (Ev.bind awake_ev (Ev.now _))
    simp only [monikerlaw02_UtfEncodes.j0, hw, refscalar, h, hd, Option.bind_some, if_true, Bool.false_eq_true, if_false]
    rw [if_pos (by omega)]
  | false =>
    refine Ev.step (f := fun k => (monikerlaw02_awake.f k).bind fun t => some t) (fun k => ?_) (Ev.bind awake_ev (Ev.now _))
    simp only [monikerlaw02_UtfEncodes.j0, hw, refscalar, h, Option.bind_some, Bool.false_eq_true, if_false]
theorem UtfEncodes : monikerlaw02_UtfEncodes.Pure := by
  intro r a1 hr hs
  refine Ev.rounds ?_
  have hi : -2147483648 ≤ r ∧ r ≤ 2147483647 := by
    simp [Lit.wf, IntKind.min, IntKind.max, IntKind.signed, IntKind.bits] at hr
    omega
  have hw : wrap64 r = r := by unfold wrap64; omega
  unfold monikerlaw02_UtfEncodes.f
  by_cases c : (a1.size : Int) > 300
  · simp only [c, if_true]
    exact Ev.bind awake_ev (Ev.now _)
  simp only [c, if_false, hw, uscalar, refscalar, Option.bind_some, bne_self_eq_false, Bool.false_eq_true]
  cases h : scaB r with
  | true =>
    obtain ⟨b, e1, e2⟩ := uencode r h
    obtain ⟨b', e3, e4⟩ := refencode r h
    rw [e1, e3]
    simp only [Option.bind_some]
    have e : b = b' := bytes_inj (e2.trans e4.symm)
    subst e
    rw [bne_self_eq_false]
    exact enc_end r a1 b hw (by omega) (fun _ => e2)
  | false =>
    rw [uencode_no r h, refencode_no r h]
    simp only [Option.bind_some, bne_self_eq_false]
    exact enc_end r a1 _ hw (by omega) (fun h2 => by rw [h] at h2; cases h2)

end Go.Proofs.Ytedaalklakokkaa.Pure
