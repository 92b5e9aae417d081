/- Plain facts on base64's document: what its Encode and its Decode answer. No condition but those that each names. -/
import Derived.Test.YtfjoigkgpdgnbaaDoorPAllx5
import Derived.Test.YtfjoigkgpdgnbaaDoorP34b
namespace Go.Proofs.YtfjoigkgpdgnbaaDoor.P34
open Go.RowKit Go.Proofs.YtfjoigkgpdgnbaaDoor.PAll Go.Proofs.YtfjoigkgpdgnbaaDoor.By Go.Proofs.YtfjoigkgpdgnbaaDoorW.PrintWords Go.Proofs.YtfjoigkgpdgnbaaDoorW.PrintLast Go.Proofs.YtfjoigkgpdgnbaaDoorW.PrintMore
set_option linter.unusedVariables false

def sgs (o : Bool) : ByteArray := if o = true then (⟨#[65, 66, 67, 68, 69, 70, 71, 72, 73, 74, 75, 76, 77, 78, 79, 80, 81, 82, 83, 84, 85, 86, 87, 88, 89, 90, 97, 98, 99, 100, 101, 102, 103, 104, 105, 106, 107, 108, 109, 110, 111, 112, 113, 114, 115, 116, 117, 118, 119, 120, 121, 122, 48, 49, 50, 51, 52, 53, 54, 55, 56, 57, 45, 95]⟩ : ByteArray) else (⟨#[65, 66, 67, 68, 69, 70, 71, 72, 73, 74, 75, 76, 77, 78, 79, 80, 81, 82, 83, 84, 85, 86, 87, 88, 89, 90, 97, 98, 99, 100, 101, 102, 103, 104, 105, 106, 107, 108, 109, 110, 111, 112, 113, 114, 115, 116, 117, 118, 119, 120, 121, 122, 48, 49, 50, 51, 52, 53, 54, 55, 56, 57, 43, 47]⟩ : ByteArray)
theorem sgs_ev (o : Bool) : monikerref34_signs.f o = some (sgs o) := by unfold monikerref34_signs.f sgs; cases o <;> rfl
theorem sgs_size (o : Bool) : (sgs o).size = 64 := by cases o <;> rfl
theorem sgs_at (o : Bool) (v : Int) (h : 0 ≤ v ∧ v ≤ 63) : bt (sgs o) v = sg o v := by
  have key : ∀ o : Bool, ∀ n : Fin 64, bt (sgs o) (n.val : Int) = sg o (n.val : Int) := by decide +kernel
  have := key o ⟨v.toNat, by omega⟩
  rw [show ((v.toNat : Nat) : Int) = v by omega] at this
  exact this
theorem cut1 (o : Bool) (v : Int) (h : 0 ≤ v ∧ v ≤ 63) : bytesOf ((sgs o).extract v.toNat (v + 1).toNat) = [sg o v] := by
  have hs : (bytesOf (sgs o)).length = 64 := by rw [bytesOf_length, sgs_size]
  rw [bytes_extract, show (v + 1).toNat - v.toNat = 1 by omega, List.drop_eq_getElem_cons (by omega)]
  simp only [List.take_succ_cons, List.take_zero]
  rw [← sgs_at o v h]
  have := bt_getD (sgs o) v.toNat
  rw [show ((v.toNat : Nat) : Int) = v by omega] at this
  rw [this, List.getD_eq_getElem?_getD, List.getElem?_eq_getElem (by omega)]
  rfl
/-- What the document's rounds write. -/
def encP (o p : Bool) : List Int → List Int
  | [] => []
  | [a] => [sg o (a / 4), sg o (a % 4 * 16)] ++ (if p = true then [61, 61] else [])
  | [a, b] => [sg o (a / 4), sg o (a % 4 * 16 + b / 16), sg o (b % 16 * 4)] ++ (if p = true then [61] else [])
  | a :: b :: c :: t => sg o (a / 4) :: sg o (a % 4 * 16 + b / 16) :: sg o (b % 16 * 4 + c / 64) :: sg o (c % 64) :: encP o p t
theorem pd_four (p : Bool) (a b c d : Int) (l : List Int) : pd p (a :: b :: c :: d :: l) = a :: b :: c :: d :: pd p l := by
  unfold pd
  cases p with
  | true =>
    simp only [if_true, List.length_cons, List.cons_append]
    rw [show (l.length + 1 + 1 + 1 + 1) % 4 = l.length % 4 by omega]
  | false => rfl
theorem encP_ENC (o p : Bool) : ∀ l : List Int, encP o p l = ENC o p l
  | [] => by cases p <;> simp [ENC, pd, encP, enc]
  | [a] => by cases p <;> simp [ENC, pd, encP, enc]
  | [a, b] => by cases p <;> simp [ENC, pd, encP, enc]
  | a :: b :: c :: t => by
    have ih := encP_ENC o p t
    unfold ENC at ih ⊢
    simp only [encP, enc, pd_four, ih]
/-- Four signs of a number. -/
def quad (o : Bool) (n : Int) : List Int := [sg o (n / 262144), sg o (n / 4096 % 64), sg o (n / 64 % 64), sg o (n % 64)]
theorem size_bytes {s : ByteArray} {l : List Int} (h : bytesOf s = l) : s.size = l.length := by rw [← h, bytesOf_length]
theorem rl2_ev (o p : Bool) (L : List Int) (acc : ByteArray) (i : Int) (r : ByteArray) (hacc : acc.size ≤ 5000) (hi : 0 ≤ i ∧ i ≤ 1000) : ∀ (n : Nat) (t : ByteArray), t.size + n = 4 →
    (∀ u : ByteArray, bytesOf u = bytesOf acc ++ (bytesOf t ++ (if p = true then List.replicate n 61 else [])) → Ev (fun k => monikerref34_Encode.l0 k L p (sgs o) u (i + 3)) r) → Ev (fun k => monikerref34_Encode.l2 k L p (sgs o) acc i t) r
  | 0, t, hn, hr => by
    have hw : wrap64 (i + 3) = i + 3 := w64 (by omega) (by omega)
    refine Ev.step (fun k => ?_) (hr (acc ++ t) ?_)
    · cases p with
      | true =>
        simp only [monikerref34_Encode.l2, if_true, hw]
        rw [if_neg (by omega), if_pos (by omega)]
      | false =>
        simp only [monikerref34_Encode.l2, Bool.false_eq_true, if_false, hw]
        rw [if_pos (by omega)]
    · rw [bytes_append]; cases p <;> simp
  | n + 1, t, hn, hr => by
    cases p with
    | true =>
      have e1 : bytesOf (t ++ (⟨#[61]⟩ : ByteArray)) = bytesOf t ++ [61] := by rw [bytes_append]; rfl
      have := rl2_ev o true L acc i r hacc hi n (t ++ (⟨#[61]⟩ : ByteArray)) (by rw [ByteArray.size_append]; show t.size + 1 + n = 4; omega) (fun u hu => hr u (by
        rw [hu, e1]
        simp only [if_true, List.append_assoc]
        rfl))
      refine Ev.step (fun k => ?_) this
      simp only [monikerref34_Encode.l2, if_true]
      rw [if_pos (by omega), if_pos (by omega)]
    | false =>
      have hw : wrap64 (i + 3) = i + 3 := w64 (by omega) (by omega)
      refine Ev.step (fun k => ?_) (hr (acc ++ t) (by rw [bytes_append]; simp))
      simp only [monikerref34_Encode.l2, Bool.false_eq_true, if_false, hw]
      rw [if_pos (by omega)]
theorem tdiv_nn (x m : Int) (h : 0 ≤ x) : Int.tdiv x m = x / m := Int.tdiv_eq_ediv_of_nonneg h
theorem tmod_nn (x m : Int) (h : 0 ≤ x) : Int.tmod x m = x % m := Int.tmod_eq_emod_of_nonneg h
/-- The inner rounds are over: four signs, cut to what there is. -/
theorem rl1_end (o p : Bool) (L : List Int) (acc : ByteArray) (i : Nat) (n : Int) (r : ByteArray) (hL : L.length ≤ 300) (hacc : acc.size ≤ 5000) (hi : i < L.length) (hn : 0 ≤ n ∧ n < 16777216)
    (hr : ∀ u : ByteArray, bytesOf u = bytesOf acc ++ ((quad o n).take (L.length - i + 1) ++ (if p = true then List.replicate (4 - ((quad o n).take (L.length - i + 1)).length) 61 else [])) → Ev (fun k => monikerref34_Encode.l0 k L p (sgs o) u ((i : Int) + 3)) r) :
    Ev (fun k => monikerref34_Encode.l1 k L p (sgs o) acc (i : Int) n 3) r := by
  have q1 : wrap64 (Int.tdiv n 262144) = n / 262144 := by rw [tdiv_nn _ _ hn.1, w64 (by omega) (by omega)]
  have q2 : Int.tmod (wrap64 (Int.tdiv n 4096)) 64 = n / 4096 % 64 := by rw [tdiv_nn _ _ hn.1, w64 (by omega) (by omega), tmod_nn _ _ (by omega)]
  have q3 : Int.tmod (wrap64 (Int.tdiv n 64)) 64 = n / 64 % 64 := by rw [tdiv_nn _ _ hn.1, w64 (by omega) (by omega), tmod_nn _ _ (by omega)]
  have q4 : Int.tmod n 64 = n % 64 := tmod_nn _ _ hn.1
  obtain ⟨a, ha⟩ : ∃ a, a = n / 262144 := ⟨_, rfl⟩
  obtain ⟨b, hb⟩ : ∃ b, b = n / 4096 % 64 := ⟨_, rfl⟩
  obtain ⟨c, hc⟩ : ∃ c, c = n / 64 % 64 := ⟨_, rfl⟩
  obtain ⟨d, hd⟩ : ∃ d, d = n % 64 := ⟨_, rfl⟩
  have wa : wrap64 (a + 1) = a + 1 := w64 (by omega) (by omega)
  have wb : wrap64 (b + 1) = b + 1 := w64 (by omega) (by omega)
  have wc : wrap64 (c + 1) = c + 1 := w64 (by omega) (by omega)
  have wd : wrap64 (d + 1) = d + 1 := w64 (by omega) (by omega)
  have ea := cut1 o a (by omega)
  have eb := cut1 o b (by omega)
  have ec := cut1 o c (by omega)
  have ed := cut1 o d (by omega)
  have hq : quad o n = [sg o a, sg o b, sg o c, sg o d] := by unfold quad; rw [ha, hb, hc, hd]
  rw [hq] at hr
  have hz := sgs_size o
  have wl : wrap64 ((L.length : Int) - (i : Int)) = (L.length : Int) - i := w64 (by omega) (by omega)
  have wl2 : wrap64 ((L.length : Int) - (i : Int) + 1) = (L.length : Int) - i + 1 := w64 (by omega) (by omega)
  obtain ⟨x1, h1⟩ : ∃ x, x = (sgs o).extract a.toNat (a + 1).toNat := ⟨_, rfl⟩
  obtain ⟨x2, h2⟩ : ∃ x, x = (sgs o).extract b.toNat (b + 1).toNat := ⟨_, rfl⟩
  obtain ⟨x3, h3⟩ : ∃ x, x = (sgs o).extract c.toNat (c + 1).toNat := ⟨_, rfl⟩
  obtain ⟨x4, h4⟩ : ∃ x, x = (sgs o).extract d.toNat (d + 1).toNat := ⟨_, rfl⟩
  rw [← h1] at ea
  rw [← h2] at eb
  rw [← h3] at ec
  rw [← h4] at ed
  have z1 := size_bytes ea
  have z2 := size_bytes eb
  have z3 := size_bytes ec
  have z4 := size_bytes ed
  simp only [List.length_singleton] at z1 z2 z3 z4
  have eT : bytesOf (x1 ++ x2 ++ x3 ++ x4) = [sg o a, sg o b, sg o c, sg o d] := by
    simp only [bytes_append, ea, eb, ec, ed]; rfl
  have zT : (x1 ++ x2 ++ x3 ++ x4).size = 4 := size_bytes eT
  by_cases h3l : L.length - i < 3
  · have eU : bytesOf ((x1 ++ x2 ++ x3 ++ x4).extract 0 ((L.length : Int) - i + 1).toNat) = [sg o a, sg o b, sg o c, sg o d].take (L.length - i + 1) := by
      rw [bytes_extract, eT, List.drop_zero]; congr 1; omega
    have zU := size_bytes eU
    have hlen : ([sg o a, sg o b, sg o c, sg o d].take (L.length - i + 1)).length = L.length - i + 1 := by rw [List.length_take]; simp; omega
    have := rl2_ev o p L acc (i : Int) r hacc (by omega) (4 - (L.length - i + 1)) ((x1 ++ x2 ++ x3 ++ x4).extract 0 ((L.length : Int) - i + 1).toNat) (by omega) (fun u hu => hr u (by rw [hu, eU, hlen]))
    refine Ev.step (f := fun k => monikerref34_Encode.j2 k L p (sgs o) acc (i : Int) ((x1 ++ x2 ++ x3 ++ x4).extract 0 ((L.length : Int) - i + 1).toNat)) (fun k => ?_) (Ev.step (fun k => by simp only [monikerref34_Encode.j2]) this)
    simp only [monikerref34_Encode.l1, q1, q2, q3, q4]
    simp only [← ha, ← hb, ← hc, ← hd, wa, wb, wc, wd]
    simp only [← h1, ← h2, ← h3, ← h4, wl, wl2]
    rw [if_neg (by omega), if_pos (by omega), if_pos (by omega), if_pos (by omega), if_pos (by omega), if_pos (by omega), if_pos (by omega), if_pos (by omega), if_pos (by omega), if_pos (by omega), if_pos (by omega),
      if_pos (by rw [ByteArray.size_append]; omega), if_pos (by omega), if_pos (by omega), if_pos (by omega), if_pos (by rw [ByteArray.size_append, ByteArray.size_append]; omega), if_pos (by omega), if_pos (by omega), if_pos (by rw [zT]; omega)]
  · have hlen : ([sg o a, sg o b, sg o c, sg o d].take (L.length - i + 1)) = [sg o a, sg o b, sg o c, sg o d] := List.take_of_length_le (by simp; omega)
    rw [hlen] at hr
    have := rl2_ev o p L acc (i : Int) r hacc (by omega) 0 (x1 ++ x2 ++ x3 ++ x4) (by omega) (fun u hu => hr u (by rw [hu, eT]; rfl))
    refine Ev.step (f := fun k => monikerref34_Encode.j2 k L p (sgs o) acc (i : Int) (x1 ++ x2 ++ x3 ++ x4)) (fun k => ?_) (Ev.step (fun k => by simp only [monikerref34_Encode.j2]) this)
    simp only [monikerref34_Encode.l1, q1, q2, q3, q4]
    simp only [← ha, ← hb, ← hc, ← hd, wa, wb, wc, wd]
    simp only [← h1, ← h2, ← h3, ← h4, wl]
    rw [if_neg (by omega), if_pos (by omega), if_pos (by omega), if_pos (by omega), if_pos (by omega), if_pos (by omega), if_pos (by omega), if_pos (by omega), if_pos (by omega), if_pos (by omega), if_pos (by omega),
      if_pos (by rw [ByteArray.size_append]; omega), if_pos (by omega), if_pos (by omega), if_pos (by omega), if_pos (by rw [ByteArray.size_append, ByteArray.size_append]; omega), if_neg (by omega)]
theorem rl1_in (o p : Bool) (L : List Int) (acc : ByteArray) (i : Nat) (n : Int) (j : Nat) (c : Int) (t : List Int) (r : ByteArray) (hL : L.length ≤ 300) (hd : L.drop (i + j) = c :: t) (hn : 0 ≤ n ∧ n < 65536) (hc : 0 ≤ c ∧ c ≤ 255) (hj : j < 3)
    (hr : Ev (fun k => monikerref34_Encode.l1 k L p (sgs o) acc (i : Int) (256 * n + c) ((j + 1 : Nat) : Int)) r) : Ev (fun k => monikerref34_Encode.l1 k L p (sgs o) acc (i : Int) n (j : Int)) r := by
  obtain ⟨hi, hrd, _⟩ := rd_at L (i + j) c t hd
  refine Ev.step (fun k => ?_) hr
  have hw : wrap64 ((i : Int) + (j : Int)) = ((i + j : Nat) : Int) := by rw [w64 (by omega) (by omega)]; omega
  simp only [monikerref34_Encode.l1, hw]
  rw [if_pos (by omega), if_pos (by omega), if_pos (by omega), hrd, w64 (x := 256 * n) (by omega) (by omega), w64 (x := c) (by omega) (by omega), w64 (x := 256 * n + c) (by omega) (by omega), w64 (by omega) (by omega)]
  rfl
theorem rl1_out (o p : Bool) (L : List Int) (acc : ByteArray) (i : Nat) (n : Int) (j : Nat) (r : ByteArray) (hL : L.length ≤ 300) (hd : L.length ≤ i + j) (hi : i ≤ 300) (hn : 0 ≤ n ∧ n < 65536) (hj : j < 3)
    (hr : Ev (fun k => monikerref34_Encode.l1 k L p (sgs o) acc (i : Int) (256 * n) ((j + 1 : Nat) : Int)) r) : Ev (fun k => monikerref34_Encode.l1 k L p (sgs o) acc (i : Int) n (j : Int)) r := by
  refine Ev.step (fun k => ?_) hr
  have hw : wrap64 ((i : Int) + (j : Int)) = ((i + j : Nat) : Int) := by rw [w64 (by omega) (by omega)]; omega
  simp only [monikerref34_Encode.l1, hw]
  rw [if_pos (by omega), if_neg (by omega), w64 (x := 256 * n) (by omega) (by omega), w64 (by omega) (by omega)]
  rfl
theorem quad3 (o : Bool) (a b c : Int) (ha : 0 ≤ a ∧ a ≤ 255) (hb : 0 ≤ b ∧ b ≤ 255) (hc : 0 ≤ c ∧ c ≤ 255) : quad o (256 * (256 * (256 * 0 + a) + b) + c) = [sg o (a / 4), sg o (a % 4 * 16 + b / 16), sg o (b % 16 * 4 + c / 64), sg o (c % 64)] := by
  unfold quad
  rw [show (256 * (256 * (256 * 0 + a) + b) + c) / 262144 = a / 4 by omega, show (256 * (256 * (256 * 0 + a) + b) + c) / 4096 % 64 = a % 4 * 16 + b / 16 by omega, show (256 * (256 * (256 * 0 + a) + b) + c) / 64 % 64 = b % 16 * 4 + c / 64 by omega, show (256 * (256 * (256 * 0 + a) + b) + c) % 64 = c % 64 by omega]
theorem rl0_ev (o p : Bool) (L : List Int) (hL : L.length ≤ 300) : ∀ t : List Int, Byt t → ∀ i : Nat, L.drop i = t → ∀ acc : ByteArray, acc.size ≤ 2 * i → Ev (fun k => monikerref34_Encode.l0 k L p (sgs o) acc (i : Int)) (strOfNums (bytesOf acc ++ encP o p t))
  | [], hB, i, hd, acc, ha => by
    have hi : L.length ≤ i := List.drop_eq_nil_iff.1 hd
    refine Ev.step (f := fun k => some acc) (fun k => ?_) ?_
    · simp only [monikerref34_Encode.l0]
      rw [if_neg (by omega)]
    · rw [show encP o p [] = [] from rfl, List.append_nil, str_bytes]; exact Ev.now _
  | [a], hB, i, hd, acc, hacc => by
    have ha := hB.head
    obtain ⟨hi, _, hd1⟩ := rd_at L i a [] hd
    have hl : L.length = i + 1 := by have := List.drop_eq_nil_iff.1 hd1; omega
    refine Ev.step (f := fun k => monikerref34_Encode.l1 k L p (sgs o) acc (i : Int) 0 ((0 : Nat) : Int)) (fun k => by simp only [monikerref34_Encode.l0]; rw [if_pos (by omega)]; rfl) ?_
    refine rl1_in o p L acc i 0 0 a [] _ hL hd (by omega) ha (by omega) ?_
    refine rl1_out o p L acc i _ 1 _ hL (by omega) (by omega) (by omega) (by omega) ?_
    refine rl1_out o p L acc i _ 2 _ hL (by omega) (by omega) (by omega) (by omega) ?_
    refine rl1_end o p L acc i _ _ hL (by omega) hi (by omega) (fun u hu => ?_)
    have e := quad3 o a 0 0 ha (by omega) (by omega)
    rw [show 256 * (256 * (256 * 0 + a) + 0) + 0 = 256 * (256 * (256 * 0 + a)) by omega] at e
    rw [e, show L.length - i + 1 = 2 by omega] at hu
    have := rl0_ev o p L hL [] Byt.nil (i + 3) (List.drop_eq_nil_of_le (by omega)) u (by
      have := size_bytes hu
      rw [this]
      cases p <;> simp [bytesOf_length] <;> omega)
    rw [hu] at this
    have e2 : bytesOf acc ++ encP o p [a] = bytesOf acc ++ (List.take 2 [sg o (a / 4), sg o (a % 4 * 16 + 0 / 16), sg o (0 % 16 * 4 + 0 / 64), sg o (0 % 64)] ++ if p = true then List.replicate (4 - (List.take 2 [sg o (a / 4), sg o (a % 4 * 16 + 0 / 16), sg o (0 % 16 * 4 + 0 / 64), sg o (0 % 64)]).length) 61 else []) ++ encP o p [] := by
      rw [show encP o p [] = [] from rfl, List.append_nil, show a % 4 * 16 + 0 / 16 = a % 4 * 16 by omega]
      cases p <;> rfl
    rw [e2]
    exact this
  | [a, b], hB, i, hd, acc, hacc => by
    have ha := hB.head
    have hb := hB.tail.head
    obtain ⟨hi, _, hd1⟩ := rd_at L i a _ hd
    obtain ⟨hi1, _, hd2⟩ := rd_at L (i + 1) b _ hd1
    have hl : L.length = i + 2 := by have := List.drop_eq_nil_iff.1 hd2; omega
    refine Ev.step (f := fun k => monikerref34_Encode.l1 k L p (sgs o) acc (i : Int) 0 ((0 : Nat) : Int)) (fun k => by simp only [monikerref34_Encode.l0]; rw [if_pos (by omega)]; rfl) ?_
    refine rl1_in o p L acc i 0 0 a _ _ hL hd (by omega) ha (by omega) ?_
    refine rl1_in o p L acc i _ 1 b _ _ hL hd1 (by omega) hb (by omega) ?_
    refine rl1_out o p L acc i _ 2 _ hL (by omega) (by omega) (by omega) (by omega) ?_
    refine rl1_end o p L acc i _ _ hL (by omega) hi (by omega) (fun u hu => ?_)
    have e := quad3 o a b 0 ha hb (by omega)
    rw [show 256 * (256 * (256 * 0 + a) + b) + 0 = 256 * (256 * (256 * 0 + a) + b) by omega] at e
    rw [e, show L.length - i + 1 = 3 by omega] at hu
    have := rl0_ev o p L hL [] Byt.nil (i + 3) (List.drop_eq_nil_of_le (by omega)) u (by
      have := size_bytes hu
      rw [this]
      cases p <;> simp [bytesOf_length] <;> omega)
    rw [hu] at this
    have e2 : bytesOf acc ++ encP o p [a, b] = bytesOf acc ++ (List.take 3 [sg o (a / 4), sg o (a % 4 * 16 + b / 16), sg o (b % 16 * 4 + 0 / 64), sg o (0 % 64)] ++ if p = true then List.replicate (4 - (List.take 3 [sg o (a / 4), sg o (a % 4 * 16 + b / 16), sg o (b % 16 * 4 + 0 / 64), sg o (0 % 64)]).length) 61 else []) ++ encP o p [] := by
      rw [show encP o p [] = [] from rfl, List.append_nil, show b % 16 * 4 + 0 / 64 = b % 16 * 4 by omega]
      cases p <;> rfl
    rw [e2]
    exact this
  | a :: b :: c :: t, hB, i, hd, acc, hacc => by
    have ha := hB.head
    have hb := hB.tail.head
    have hc := hB.tail.tail.head
    obtain ⟨hi, _, hd1⟩ := rd_at L i a _ hd
    obtain ⟨hi1, _, hd2⟩ := rd_at L (i + 1) b _ hd1
    obtain ⟨hi2, _, hd3⟩ := rd_at L (i + 2) c _ hd2
    refine Ev.step (f := fun k => monikerref34_Encode.l1 k L p (sgs o) acc (i : Int) 0 ((0 : Nat) : Int)) (fun k => by simp only [monikerref34_Encode.l0]; rw [if_pos (by omega)]; rfl) ?_
    refine rl1_in o p L acc i 0 0 a _ _ hL hd (by omega) ha (by omega) ?_
    refine rl1_in o p L acc i _ 1 b _ _ hL hd1 (by omega) hb (by omega) ?_
    refine rl1_in o p L acc i _ 2 c _ _ hL hd2 (by omega) hc (by omega) ?_
    refine rl1_end o p L acc i _ _ hL (by omega) hi (by omega) (fun u hu => ?_)
    have e := quad3 o a b c ha hb hc
    rw [e] at hu
    have e3 : List.take (L.length - i + 1) [sg o (a / 4), sg o (a % 4 * 16 + b / 16), sg o (b % 16 * 4 + c / 64), sg o (c % 64)] = [sg o (a / 4), sg o (a % 4 * 16 + b / 16), sg o (b % 16 * 4 + c / 64), sg o (c % 64)] := List.take_of_length_le (by simp; omega)
    rw [e3] at hu
    have := rl0_ev o p L hL t hB.tail.tail.tail (i + 3) hd3 u (by
      have := size_bytes hu
      rw [this]
      cases p <;> simp [bytesOf_length] <;> omega)
    rw [hu] at this
    have e2 : bytesOf acc ++ encP o p (a :: b :: c :: t) = bytesOf acc ++ ([sg o (a / 4), sg o (a % 4 * 16 + b / 16), sg o (b % 16 * 4 + c / 64), sg o (c % 64)] ++ if p = true then List.replicate (4 - [sg o (a / 4), sg o (a % 4 * 16 + b / 16), sg o (b % 16 * 4 + c / 64), sg o (c % 64)].length) 61 else []) ++ encP o p t := by
      simp [encP]
    rw [e2]
    exact this
theorem refEncode_ev (o p : Bool) (L : List Int) (hL : L.length ≤ 300) (hB : Byt L) : Ev (fun k => monikerref34_Encode.f k L o p) (strOfNums (ENC o p L)) := by
  unfold monikerref34_Encode.f
  rw [sgs_ev]
  simp only [Option.bind_some]
  have := rl0_ev o p L hL L hB 0 rfl (⟨#[]⟩ : ByteArray) (by decide)
  rw [encP_ENC, show bytesOf (⟨#[]⟩ : ByteArray) = [] from rfl, List.nil_append] at this
  exact this
end Go.Proofs.YtfjoigkgpdgnbaaDoor.P34
