/- Plain facts on base64's document: what its Decode answers. No condition but those that each names. -/
import Derived.Test.YtfjoigkgpdgnbaaDoorPAllx5
import Derived.Test.YtfjoigkgpdgnbaaDoorP34d
namespace Go.Proofs.YtfjoigkgpdgnbaaDoor.P34
open Go.RowKit Go.Proofs.YtfjoigkgpdgnbaaDoor.PAll Go.Proofs.YtfjoigkgpdgnbaaDoor.By Go.Proofs.YtfjoigkgpdgnbaaDoorW.PrintWords Go.Proofs.YtfjoigkgpdgnbaaDoorW.PrintLast Go.Proofs.YtfjoigkgpdgnbaaDoorW.PrintMore
set_option linter.unusedVariables false

/-- The last of the signs from 64 - n on that is a byte. -/
def lst (o : Bool) (c : Int) : Nat → Int → Int
  | 0, cur => cur
  | n + 1, cur => lst o c n (if sg o ((63 - n : Nat) : Int) = c then ((63 - n : Nat) : Int) else cur)
def vlm (o : Bool) (c : Int) : Int := match vl o c with
  | some v => v
  | none => -1
theorem lst_vlm (o : Bool) (c : Int) (h : 0 ≤ c ∧ c ≤ 255) : lst o c 64 (-1) = vlm o c := by
  have key : ∀ o : Bool, ∀ n : Fin 256, lst o (n.val : Int) 64 (-1) = vlm o (n.val : Int) := by decide +kernel
  have := key o ⟨c.toNat, by omega⟩
  rw [show ((c.toNat : Nat) : Int) = c by omega] at this
  exact this
/-- The bytes of what is left of four signs. -/
def fin (n : Int) (h : Nat) : List Int := if h = 2 then [n / 16 % 256] else if h = 3 then [n / 1024 % 256, n / 4 % 256] else []
/-- What the document's rounds write. -/
def rout (o : Bool) : List Int → Int → Nat → List Int
  | [], n, h => fin n h
  | c :: t, n, h => match vl o c with
    | none => fin n h
    | some v => if h = 3 then (64 * n + v) / 65536 % 256 :: (64 * n + v) / 256 % 256 :: (64 * n + v) % 256 :: rout o t 0 0 else rout o t (64 * n + v) (h + 1)
theorem fin_byt (n : Int) (h : Nat) : Byt (fin n h) := by
  unfold fin
  intro x hx
  split at hx
  · simp at hx; omega
  · split at hx
    · simp at hx; omega
    · cases hx
theorem rout_byt (o : Bool) : ∀ (t : List Int) (n : Int) (h : Nat), Byt (rout o t n h)
  | [], n, h => fin_byt n h
  | c :: t, n, h => by
    unfold rout
    split
    · exact fin_byt n h
    · split
      · exact Byt.cons (by omega) (Byt.cons (by omega) (Byt.cons (by omega) (rout_byt o t 0 0)))
      · exact rout_byt o t _ _
theorem fin_len (n : Int) (h : Nat) : (fin n h).length ≤ 2 := by
  unfold fin
  split
  · simp
  · split <;> simp
theorem rout_len (o : Bool) : ∀ (t : List Int) (n : Int) (h : Nat), h ≤ 3 → (rout o t n h).length ≤ 3 * t.length + 2
  | [], n, h, _ => by have := fin_len n h; unfold rout; omega
  | c :: t, n, h, hh => by
    unfold rout
    split
    · have := fin_len n h; simp only [List.length_cons]; omega
    · split
      · have := rout_len o t 0 0 (by omega); simp only [List.length_cons]; omega
      · have := rout_len o t (64 * n + ‹Int›) (h + 1) (by omega); simp only [List.length_cons]; omega
theorem pads_out (o : Bool) (n : Int) (h : Nat) : ∀ m, rout o (List.replicate m 61) n h = fin n h
  | 0 => rfl
  | m + 1 => by
    rw [List.replicate_succ]
    have : vl o 61 = none := by cases o <;> rfl
    simp only [rout, this]
theorem rout_enc (o : Bool) (m : Nat) : ∀ l : List Int, Byt l → rout o (enc o l ++ List.replicate m 61) 0 0 = l
  | [], _ => by simpa [enc, fin] using pads_out o 0 0 m
  | [a], h => by
    have ha := h.head
    simp only [enc, List.cons_append, List.nil_append, rout, vl_sg o (a / 4) (by omega), vl_sg o (a % 4 * 16) (by omega)]
    rw [if_neg (by decide), if_neg (by decide), pads_out]
    unfold fin
    rw [if_pos rfl]
    congr 1; omega
  | [a, b], h => by
    have ha := h.head
    have hb := h.tail.head
    simp only [enc, List.cons_append, List.nil_append, rout, vl_sg o (a / 4) (by omega), vl_sg o (a % 4 * 16 + b / 16) (by omega), vl_sg o (b % 16 * 4) (by omega)]
    rw [if_neg (by decide), if_neg (by decide), if_neg (by decide), pads_out]
    unfold fin
    rw [if_neg (by decide), if_pos rfl]
    congr 1
    · omega
    · congr 1; omega
  | a :: b :: c :: t, h => by
    have ha := h.head
    have hb := h.tail.head
    have hc := h.tail.tail.head
    simp only [enc, List.cons_append, rout, vl_sg o (a / 4) (by omega), vl_sg o (a % 4 * 16 + b / 16) (by omega), vl_sg o (b % 16 * 4 + c / 64) (by omega), vl_sg o (c % 64) (by omega)]
    rw [if_neg (by decide), if_neg (by decide), if_neg (by decide), if_pos trivial, rout_enc o m t h.tail.tail.tail]
    congr 1
    · omega
    · congr 1
      · omega
      · congr 1; omega
theorem rout_ENC (o p : Bool) (l : List Int) (h : Byt l) : rout o (ENC o p l) 0 0 = l := by
  unfold ENC pd
  cases p with
  | true => simp only [if_true]; exact rout_enc o _ l h
  | false =>
    simp only [Bool.false_eq_true, if_false]
    have := rout_enc o 0 l h
    simpa using this
theorem rj2_ev (o p : Bool) (s : ByteArray) (out : List Int) (n : Int) (h : Nat) (hn : 0 ≤ n ∧ n < 16777216) (hh : h ≤ 3) (ho : out.length ≤ 280) (hB : Byt out) :
    Ev (fun k => monikerref34_Decode.j2 k s o p out n (h : Int)) (out ++ fin n h, ((strOfNums (ENC o p (out ++ fin n h))).toList == s.toList)) := by
  have hBf : Byt (out ++ fin n h) := by
    intro x hx
    rcases List.mem_append.1 hx with hx | hx
    · exact hB x hx
    · exact fin_byt n h x hx
  have hl := fin_len n h
  have re := refEncode_ev o p (out ++ fin n h) (by rw [List.length_append]; omega) hBf
  have e1 : wrap64 (Int.tdiv n 16) % 256 = n / 16 % 256 := by rw [tdiv_nn _ _ hn.1, w64 (by omega) (by omega)]
  have e2 : wrap64 (Int.tdiv n 1024) % 256 = n / 1024 % 256 := by rw [tdiv_nn _ _ hn.1, w64 (by omega) (by omega)]
  have e3 : Int.tmod (wrap64 (Int.tdiv n 4)) 256 % 256 = n / 4 % 256 := by rw [tdiv_nn _ _ hn.1, w64 (by omega) (by omega), tmod_nn _ _ (by omega)]; omega
  by_cases h2 : h = 2
  · have ef : fin n h = [n / 16 % 256] := by unfold fin; rw [if_pos h2]
    rw [ef] at re ⊢
    refine Ev.step (f := fun k => (monikerref34_Encode.f k (out ++ [n / 16 % 256]) o p).bind fun t => some (out ++ [n / 16 % 256], (t.toList == s.toList))) (fun k => ?_) (Ev.bind re (Ev.now _))
    simp only [monikerref34_Decode.j2, e1, Option.bind_some]
    rw [if_pos (by omega), if_pos (by omega), if_neg (by omega)]
  · by_cases h3 : h = 3
    · have ef : fin n h = [n / 1024 % 256, n / 4 % 256] := by unfold fin; rw [if_neg h2, if_pos h3]
      rw [ef] at re ⊢
      refine Ev.step (f := fun k => (monikerref34_Encode.f k (out ++ [n / 1024 % 256, n / 4 % 256]) o p).bind fun t => some (out ++ [n / 1024 % 256, n / 4 % 256], (t.toList == s.toList))) (fun k => ?_) (Ev.bind re (Ev.now _))
      simp only [monikerref34_Decode.j2, e2, e3, Option.bind_some]
      rw [if_neg (by omega), if_pos (by omega), if_pos (by simp only [List.length_cons, List.length_nil]; omega)]
    · have ef : fin n h = [] := by unfold fin; rw [if_neg h2, if_neg h3]
      rw [ef, List.append_nil] at re ⊢
      refine Ev.step (f := fun k => (monikerref34_Encode.f k out o p).bind fun t => some (out, (t.toList == s.toList))) (fun k => ?_) (Ev.bind re (Ev.now _))
      simp only [monikerref34_Decode.j2]
      rw [if_neg (by omega), if_neg (by omega)]
/-- The inner rounds: which sign is it? -/
theorem rl1_look (o p : Bool) (s : ByteArray) (out : List Int) (n h : Int) (i : Nat) (c : Int) (r : List Int × Bool) (hi : i < s.size) (hb : bt s (i : Int) = c) : ∀ (m : Nat), m ≤ 64 → ∀ cur : Int,
    Ev (fun k => monikerref34_Decode.l1 k s o p (sgs o) out n h (i : Int) (lst o c m cur) 64) r → Ev (fun k => monikerref34_Decode.l1 k s o p (sgs o) out n h (i : Int) cur ((64 - m : Nat) : Int)) r
  | 0, _, cur, hr => hr
  | m + 1, hm, cur, hr => by
    have hz := sgs_size o
    have ha := sgs_at o ((63 - m : Nat) : Int) (by omega)
    have ej : ((64 - (m + 1) : Nat) : Int) = ((63 - m : Nat) : Int) := by omega
    have ew : wrap64 (((63 - m : Nat) : Int) + 1) = ((64 - m : Nat) : Int) := by unfold wrap64; omega
    have c1 : ((63 - m : Nat) : Int) < 64 := by omega
    have c2 : 0 ≤ ((63 - m : Nat) : Int) := by omega
    have c3 : ((63 - m : Nat) : Int) < ((sgs o).size : Int) := by omega
    have c4 : 0 ≤ (i : Int) := by omega
    have c5 : (i : Int) < (s.size : Int) := by omega
    have := rl1_look o p s out n h i c r hi hb m (by omega) (if sg o ((63 - m : Nat) : Int) = c then ((63 - m : Nat) : Int) else cur) hr
    rw [ej]
    refine Ev.step (fun k => ?_) this
    simp only [monikerref34_Decode.l1, ha, hb, ew]
    rw [if_pos c1, if_pos c2, if_pos c3, if_pos c4, if_pos c5]
    by_cases hc : sg o ((63 - m : Nat) : Int) = c
    · rw [if_pos hc, if_pos hc]
    · rw [if_neg hc, if_neg hc]
def pwr (h : Nat) : Int := if h = 0 then 1 else if h = 1 then 64 else if h = 2 then 4096 else 262144
theorem pwr_le (h : Nat) : pwr h ≤ 262144 := by unfold pwr; (repeat' split) <;> decide
theorem pwr_succ (h : Nat) (hh : h ≤ 2) : pwr (h + 1) = 64 * pwr h := by
  have : h = 0 ∨ h = 1 ∨ h = 2 := by omega
  rcases this with rfl | rfl | rfl <;> decide
theorem g1 (x : Int) (h : 0 ≤ x ∧ x < 33554432) : wrap64 (Int.tdiv x 65536) % 256 = x / 65536 % 256 := by rw [tdiv_nn _ _ h.1, w64 (by omega) (by omega)]
theorem g2 (x : Int) (h : 0 ≤ x ∧ x < 33554432) : Int.tmod (wrap64 (Int.tdiv x 256)) 256 % 256 = x / 256 % 256 := by rw [tdiv_nn _ _ h.1, w64 (by omega) (by omega), tmod_nn _ _ (by omega)]; omega
theorem g3 (x : Int) (h : 0 ≤ x ∧ x < 33554432) : Int.tmod x 256 % 256 = x % 256 := by rw [tmod_nn _ _ h.1]; omega
theorem g4 (n v : Int) (hn : 0 ≤ n ∧ n < 262144) (hv : 0 ≤ v ∧ v ≤ 63) : wrap64 (wrap64 (64 * n) + v) = 64 * n + v := by rw [w64 (x := 64 * n) (by omega) (by omega), w64 (by omega) (by omega)]
theorem g5 (n v : Int) (hn : 0 ≤ n ∧ n < 262144) (hv : 0 ≤ v ∧ v ≤ 63) : 0 ≤ 64 * n + v ∧ 64 * n + v < 33554432 := by omega
theorem g6 (h : Nat) (hh : h ≤ 3) : wrap64 ((h : Int) + 1) = ((h + 1 : Nat) : Int) := by unfold wrap64; omega
theorem refDecode_in (o p : Bool) (s : ByteArray) (hs : s.size ≤ 260) : ∀ (t : List Int) (i : Nat), (bytesOf s).drop i = t → i ≤ s.size → ∀ (n : Int) (h : Nat) (out : List Int), h ≤ 3 → (0 ≤ n ∧ n < pwr h) → out.length + h ≤ i → Byt out →
    Ev (fun k => monikerref34_Decode.l0 k s o p (sgs o) out n (h : Int) (i : Int)) (out ++ rout o t n h, ((strOfNums (ENC o p (out ++ rout o t n h))).toList == s.toList))
  | [], i, hd, hiT, n, h, out, hh, hn, ho, hB => by
    have hi : s.size ≤ i := by have := List.drop_eq_nil_iff.1 hd; rwa [bytesOf_length] at this
    have hp := pwr_le h
    refine Ev.step (fun k => ?_) (rj2_ev o p s out n h ⟨hn.1, Int.lt_of_lt_of_le hn.2 (Int.le_trans hp (by decide))⟩ hh (by omega) hB)
    simp only [monikerref34_Decode.l0]
    rw [if_neg (by omega)]
  | c :: t, i, hd, hiT, n, h, out, hh, hn, ho, hB => by
    obtain ⟨hi, hb, hd1, hc⟩ := bt_at' s i c t hd
    have hp := pwr_le h
    have hn2 : n < 262144 := Int.lt_of_lt_of_le hn.2 hp
    refine Ev.step (f := fun k => monikerref34_Decode.l1 k s o p (sgs o) out n (h : Int) (i : Int) (-1) ((64 - 64 : Nat) : Int)) (fun k => ?_) ?_
    · simp only [monikerref34_Decode.l0]
      rw [if_pos (by omega)]; rfl
    refine rl1_look o p s out n h i c _ hi hb 64 (Nat.le_refl _) (-1) ?_
    rw [lst_vlm o c hc]
    cases hv : vl o c with
    | none =>
      have e : vlm o c = -1 := by unfold vlm; rw [hv]
      have er : rout o (c :: t) n h = fin n h := by simp only [rout, hv]
      rw [e, er]
      refine Ev.step (fun k => ?_) (rj2_ev o p s out n h ⟨hn.1, by omega⟩ hh (by omega) hB)
      simp only [monikerref34_Decode.l1]
      rw [if_neg (by decide), if_pos (by decide)]
    | some v =>
      obtain ⟨v0, v1, hsg⟩ := sg_vl o c v hv
      have e : vlm o c = v := by unfold vlm; rw [hv]
      rw [e]
      clear e hsg
      have hx := g5 n v ⟨hn.1, hn2⟩ ⟨v0, v1⟩
      by_cases h3 : h = 3
      · have er : rout o (c :: t) n h = (64 * n + v) / 65536 % 256 :: (64 * n + v) / 256 % 256 :: (64 * n + v) % 256 :: rout o t 0 0 := by simp only [rout, hv]; rw [if_pos h3]
        have := refDecode_in o p s hs t (i + 1) hd1 (Nat.succ_le_of_lt hi) 0 0 (out ++ [(64 * n + v) / 65536 % 256, (64 * n + v) / 256 % 256, (64 * n + v) % 256]) (by omega) (by decide) (by simp only [List.length_append, List.length_cons, List.length_nil]; omega) (by
          intro x hx
          rcases List.mem_append.1 hx with hx | hx
          · exact hB x hx
          · simp at hx; omega)
        have c4 : ((h + 1 : Nat) : Int) = 4 := by rw [h3]; rfl
        have l1 : out.length < 140737488355325 := by clear this; omega
        have hw := g4 n v ⟨hn.1, hn2⟩ ⟨v0, v1⟩
        have hi1 := n6 i s.size hi (Nat.le_trans hs (by decide))
        have hh1 := g6 h hh
        have e1 := g1 _ hx
        have e2 := g2 _ hx
        have e3 := g3 _ hx
        rw [er]
        have ea : out ++ (64 * n + v) / 65536 % 256 :: (64 * n + v) / 256 % 256 :: (64 * n + v) % 256 :: rout o t 0 0 = out ++ [(64 * n + v) / 65536 % 256, (64 * n + v) / 256 % 256, (64 * n + v) % 256] ++ rout o t 0 0 := by rw [List.append_assoc]; rfl
        rw [ea]
        refine Ev.step (fun k => ?_) this
        simp only [monikerref34_Decode.l1, hw, e1, e2, e3, hi1, hh1, Option.bind_some]
        rw [if_neg (by decide), if_neg (Int.not_lt.2 v0), if_pos c4, if_pos (by simp only [List.length_cons, List.length_nil]; exact Nat.lt_of_lt_of_le (Nat.add_lt_add_right l1 3) (by decide))]
        rfl
      · have er : rout o (c :: t) n h = rout o t (64 * n + v) (h + 1) := by simp only [rout, hv]; rw [if_neg h3]
        rw [er]
        have := refDecode_in o p s hs t (i + 1) hd1 (by omega) (64 * n + v) (h + 1) out (by omega) ⟨hx.1, by
          rw [pwr_succ h (by omega)]; have := hn.2; omega⟩ (by omega) hB
        have c4 : ¬ ((h + 1 : Nat) : Int) = 4 := by clear this; omega
        have hw := g4 n v ⟨hn.1, hn2⟩ ⟨v0, v1⟩
        have hi1 := n6 i s.size hi (Nat.le_trans hs (by decide))
        have hh1 := g6 h hh
        refine Ev.step (fun k => ?_) this
        simp only [monikerref34_Decode.l1, hw, hi1, hh1]
        rw [if_neg (by decide), if_neg (Int.not_lt.2 v0), if_neg c4]
theorem refDecode_ev (o p : Bool) (s : ByteArray) (hs : s.size ≤ 260) : Ev (fun k => monikerref34_Decode.f k s o p) (rout o (bytesOf s) 0 0, ((strOfNums (ENC o p (rout o (bytesOf s) 0 0))).toList == s.toList)) := by
  unfold monikerref34_Decode.f
  rw [sgs_ev]
  simp only [Option.bind_some]
  have := refDecode_in o p s hs (bytesOf s) 0 rfl (Nat.zero_le _) 0 0 [] (by omega) (by decide) (Nat.zero_le _) Byt.nil
  exact this
end Go.Proofs.YtfjoigkgpdgnbaaDoor.P34
