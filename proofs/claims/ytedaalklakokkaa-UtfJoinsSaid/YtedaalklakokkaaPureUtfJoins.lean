import Derived.Test.YtedaalklakokkaaPAllx5
import Derived.Test.YtedaalklakokkaaP02c
namespace Go.Proofs.Ytedaalklakokkaa.Pure
open Go.RowKit Go.Proofs.Ytedaalklakokkaa.PAll Go.Proofs.Ytedaalklakokkaa.By Go.Proofs.Ytedaalklakokkaa.P02 Go.Proofs.YtedaalklakokkaaW.PrintWords Go.Proofs.YtedaalklakokkaaW.PrintLast

theorem joins_end (a b : ByteArray) (ha : a.size ≤ 300) (hb : b.size ≤ 300) (h : flt (bytesOf a) < 0) (x : Int)
    (hx : x = if flt (bytesOf b) < 0 then flt (bytesOf b) else flt (bytesOf b) + a.size) : Ev (fun k => monikerlaw02_UtfJoins.j1 k a b x) true := by
  have key := flt_app (bytesOf a) (bytesOf b) (byt_of a) (byt_of b) h
  rw [bytesOf_length, ← hx] at key
  have hs : (a ++ b).size ≤ 2000 := by rw [ByteArray.size_append]; omega
  have hu := ufault (a ++ b) hs
  have hc := ucount (a ++ b) hs
  rw [bytes_append, key.1] at hu
  rw [bytes_append, key.2, List.length_append] at hc
  have hl : ∀ l : List Int, Byt l → (pc l).length ≤ l.length := by
    apply pc_ind
    · simp [pc_nil]
    · intro l hl hn ih
      have := dec_len l hl hn
      rw [pc_cons l hl hn, List.length_cons]
      rw [List.length_drop] at ih
      omega
  have la := hl _ (byt_of a)
  have lb := hl _ (byt_of b)
  rw [bytesOf_length] at la lb
  refine Ev.step (f := fun k => (utf_Count.f k (a ++ b)).bind fun t159 => ((utf_Count.f k a).bind fun t160 => ((utf_Count.f k b).bind fun t161 => (if t159 = (wrap64 (t160 + t161)) then ((monikerlaw02_awake.f k).bind fun t162 => (some t162)) else (some false))))) (fun k => ?_) ?_
  · simp only [monikerlaw02_UtfJoins.j1, hu, Option.bind_some, if_true]
    rw [if_pos (by omega)]
  · refine Ev.bind (f := fun k t159 => ((utf_Count.f k a).bind fun t160 => ((utf_Count.f k b).bind fun t161 => (if t159 = (wrap64 (t160 + t161)) then ((monikerlaw02_awake.f k).bind fun t162 => (some t162)) else (some false))))) hc ?_
    refine Ev.bind (f := fun k t160 => ((utf_Count.f k b).bind fun t161 => (if (((pc (bytesOf a)).length + (pc (bytesOf b)).length : Nat) : Int) = (wrap64 (t160 + t161)) then ((monikerlaw02_awake.f k).bind fun t162 => (some t162)) else (some false)))) (ucount a (by omega)) ?_
    refine Ev.bind (f := fun k t161 => (if (((pc (bytesOf a)).length + (pc (bytesOf b)).length : Nat) : Int) = (wrap64 (((pc (bytesOf a)).length : Int) + t161)) then ((monikerlaw02_awake.f k).bind fun t162 => (some t162)) else (some false))) (ucount b (by omega)) ?_
    simp only [show (((pc (bytesOf a)).length + (pc (bytesOf b)).length : Nat) : Int) = (wrap64 (((pc (bytesOf a)).length : Int) + ((pc (bytesOf b)).length : Int))) by rw [w64 (by omega) (by omega)]; omega, if_true]
    exact Ev.bind awake_ev (Ev.now _)
theorem joins_mid (a b : ByteArray) (ha : a.size ≤ 300) (hb : b.size ≤ 300) : Ev (fun k => monikerlaw02_UtfJoins.j0 k a b false) true := by
  refine Ev.step (f := fun k => (monikerref02_Fault.f k a).bind fun t156 => (if t156 < 0 then ((monikerref02_Fault.f k b).bind fun t157 => (if t157 ≥ 0 then (monikerlaw02_UtfJoins.j1 k a b (wrap64 (t157 + (a.size : Int)))) else (monikerlaw02_UtfJoins.j1 k a b t157))) else ((monikerlaw02_awake.f k).bind fun t163 => (some t163)))) (fun k => by simp only [monikerlaw02_UtfJoins.j0, Bool.false_eq_true, if_false]) ?_
  refine Ev.bind (f := fun k t156 => (if t156 < 0 then ((monikerref02_Fault.f k b).bind fun t157 => (if t157 ≥ 0 then (monikerlaw02_UtfJoins.j1 k a b (wrap64 (t157 + (a.size : Int)))) else (monikerlaw02_UtfJoins.j1 k a b t157))) else ((monikerlaw02_awake.f k).bind fun t163 => (some t163)))) (rfault a (by omega)) ?_
  by_cases h : flt (bytesOf a) < 0
  · simp only [h, if_true]
    refine Ev.bind (f := fun k t157 => (if t157 ≥ 0 then (monikerlaw02_UtfJoins.j1 k a b (wrap64 (t157 + (a.size : Int)))) else (monikerlaw02_UtfJoins.j1 k a b t157))) (rfault b (by omega)) ?_
    have hle : flt (bytesOf b) ≤ b.size := by
      have : ∀ (ps : List Pc) (i : Int), 0 ≤ i → faultP ps i ≤ i + (txt ps).length := by
        intro ps
        induction ps with
        | nil => intro i hi; simp [faultP, txt]; omega
        | cons p ps ih =>
          intro i hi
          have := ih (i + p.2.1.length) (by omega)
          simp only [faultP, txt, List.map_cons, List.flatten_cons, List.length_append] at this ⊢
          split <;> omega
      have h2 := this (pc (bytesOf b)) 0 (by omega)
      rw [txt_pc _ (byt_of b), bytesOf_length] at h2
      unfold flt; omega
    by_cases g : flt (bytesOf b) ≥ 0
    · simp only [g, if_true]
      exact joins_end a b ha hb h _ (by rw [if_neg (by omega), w64 (by omega) (by omega)])
    · simp only [g, if_false]
      exact joins_end a b ha hb h _ (by rw [if_pos (by omega)])
  · simp only [h, if_false]
    exact Ev.bind awake_ev (Ev.now _)
theorem UtfJoins : monikerlaw02_UtfJoins.Pure := by
  intro a b ha hb
  refine Ev.rounds ?_
  unfold monikerlaw02_UtfJoins.f
  have yes : Ev (fun k => monikerlaw02_UtfJoins.j0 k a b true) true :=
    Ev.step (f := fun k => (monikerlaw02_awake.f k).bind fun t => some t) (fun k => by simp only [monikerlaw02_UtfJoins.j0, if_true]) (Ev.bind awake_ev (Ev.now _))
  by_cases c : (a.size : Int) > 300
  · simp only [c, if_true]; exact yes
  · simp only [c, if_false]
    by_cases d : (b.size : Int) > 300
    · rw [decide_eq_true d]; exact yes
    · rw [decide_eq_false d]; exact joins_mid a b (by omega) (by omega)

end Go.Proofs.Ytedaalklakokkaa.Pure
