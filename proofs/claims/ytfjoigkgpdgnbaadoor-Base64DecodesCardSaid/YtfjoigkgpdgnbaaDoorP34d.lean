/- Plain facts on base64's program and its document: what Decode answers. No condition but those that each names. -/
import Derived.Test.YtfjoigkgpdgnbaaDoorPAllx5
import Derived.Test.YtfjoigkgpdgnbaaDoorP34c
namespace Go.Proofs.YtfjoigkgpdgnbaaDoor.P34
open Go.RowKit Go.Proofs.YtfjoigkgpdgnbaaDoor.PAll Go.Proofs.YtfjoigkgpdgnbaaDoor.By Go.Proofs.YtfjoigkgpdgnbaaDoorW.PrintWords Go.Proofs.YtfjoigkgpdgnbaaDoorW.PrintLast Go.Proofs.YtfjoigkgpdgnbaaDoorW.PrintMore
set_option linter.unusedVariables false

def vlp (o : Bool) (c : Int) : Int × Bool := match vl o c with
  | some v => (v, true)
  | none => (0, false)
theorem value_ev (o : Bool) (c : Int) (h : 0 ≤ c ∧ c ≤ 255) : Ev (fun k => base64_value.f k c o) (vlp o c) := by
  refine Ev.of (fun k => base64_value.mono c o k) (k := 12) ?_
  have key : ∀ o : Bool, ∀ n : Fin 256, base64_value.f 12 (n.val : Int) o = some (vlp o (n.val : Int)) := by decide +kernel
  have := key o ⟨c.toNat, by omega⟩
  rw [show ((c.toNat : Nat) : Int) = c by omega] at this
  exact this
/-- Without padding at its end. -/
def trm (l : List Int) : List Int := (l.reverse.dropWhile (fun c => decide (c = 61))).reverse
theorem trm_snoc (l : List Int) (c : Int) : trm (l ++ [c]) = if c = 61 then trm l else l ++ [c] := by
  unfold trm
  rw [List.reverse_append, List.reverse_singleton, List.singleton_append, List.dropWhile_cons]
  by_cases h : c = 61
  · simp [h]
  · simp [h]
theorem trm_pad (l : List Int) : ∀ n, trm (l ++ List.replicate n 61) = trm l
  | 0 => by simp
  | n + 1 => by
    rw [List.replicate_succ', ← List.append_assoc, trm_snoc, if_pos rfl, trm_pad l n]
theorem snoc_cases (l : List Int) : l = [] ∨ ∃ t c, l = t ++ [c] := by
  rcases List.eq_nil_or_concat l with h | ⟨t, c, h⟩
  · exact .inl h
  · exact .inr ⟨t, c, by rw [h, List.concat_eq_append]⟩
theorem trm_dec : ∀ (m : Nat) (l : List Int), l.length = m → ∃ n, l = trm l ++ List.replicate n 61
  | 0, l, h => ⟨0, by rw [List.length_eq_zero_iff.1 h]; rfl⟩
  | m + 1, l, h => by
    rcases snoc_cases l with rfl | ⟨t, c, rfl⟩
    · cases h
    · rw [trm_snoc]
      by_cases hc : c = 61
      · rw [if_pos hc]
        obtain ⟨n, hn⟩ := trm_dec m t (by simpa using h)
        refine ⟨n + 1, ?_⟩
        rw [List.replicate_succ', ← List.append_assoc, ← hn, hc]
      · rw [if_neg hc]; exact ⟨0, by simp⟩
theorem trm_self (l : List Int) (h : ∀ c ∈ l, c ≠ 61) : trm l = l := by
  rcases snoc_cases l with rfl | ⟨t, c, rfl⟩
  · rfl
  · rw [trm_snoc, if_neg (h c (by simp))]
theorem trim_ev : ∀ (m : Nat) (s : ByteArray), s.size = m → m ≤ 1000 → Ev (fun k => strings_trimRightByte.l0 k s 61) (strOfNums (trm (bytesOf s)))
  | 0, s, h, _ => by
    have hb : bytesOf s = [] := bytes_empty.2 h
    refine Ev.step (f := fun k => some s) (fun k => ?_) ?_
    · simp only [strings_trimRightByte.l0]; rw [if_neg (by omega)]
    · rw [hb, show trm [] = bytesOf s by rw [hb]; rfl, str_bytes]; exact Ev.now _
  | m + 1, s, h, hm => by
    have hl : (bytesOf s).length = m + 1 := by rw [bytesOf_length, h]
    rcases snoc_cases (bytesOf s) with hn | ⟨t, c, hs⟩
    · rw [hn] at hl; cases hl
    have ht : t.length = m := by rw [hs] at hl; simpa using hl
    have hw : wrap64 ((s.size : Int) - 1) = (m : Int) := by rw [w64 (by omega) (by omega)]; omega
    have hbt : bt s (m : Int) = c := by rw [bt_getD, hs, List.getD_eq_getElem?_getD, List.getElem?_append_right (by omega)]; simp [ht]
    rw [hs, trm_snoc]
    by_cases hc : c = 61
    · rw [if_pos hc]
      have he : bytesOf (s.extract 0 m) = t := by rw [bytes_extract, hs, List.drop_zero, List.take_append_of_le_length (by omega), List.take_of_length_le (by omega)]
      have := trim_ev m (s.extract 0 m) (by rw [ByteArray.size_extract]; omega) (by omega)
      rw [he] at this
      refine Ev.step (fun k => ?_) this
      simp only [strings_trimRightByte.l0, hw, hbt]
      rw [if_pos (by omega), if_pos (by omega), if_pos (by omega), if_pos hc, if_pos (by omega)]
      rfl
    · rw [if_neg hc, ← hs, str_bytes]
      refine Ev.step (f := fun k => some s) (fun k => ?_) (Ev.now _)
      simp only [strings_trimRightByte.l0, hw, hbt]
      rw [if_pos (by omega), if_pos (by omega), if_pos (by omega), if_neg hc]
theorem TrimRight_ev (s : ByteArray) (h : s.size ≤ 1000) : Ev (fun k => strings_TrimRight.f k s (⟨#[61]⟩ : ByteArray)) (strOfNums (trm (bytesOf s))) := by
  by_cases h0 : s.size = 0
  · have hb : bytesOf s = [] := bytes_empty.2 h0
    refine Ev.congr (f := fun k => some s) (fun k => ?_) ?_
    · unfold strings_TrimRight.f; rw [if_pos h0]
    · rw [hb, show trm [] = bytesOf s by rw [hb]; rfl, str_bytes]; exact Ev.now _
  · refine Ev.congr (fun k => ?_) (trim_ev s.size s rfl h)
    unfold strings_TrimRight.f
    rw [if_neg h0, if_pos (by rfl), if_pos (by decide)]
    rfl
theorem trm_byt {l : List Int} (h : Byt l) : Byt (trm l) := by
  intro x hx
  obtain ⟨n, hn⟩ := trm_dec l.length l rfl
  exact h x (by rw [hn]; exact List.mem_append_left _ hx)
theorem trm_len (l : List Int) : (trm l).length ≤ l.length := by
  obtain ⟨n, hn⟩ := trm_dec l.length l rfl
  have := congrArg List.length hn
  rw [List.length_append] at this
  omega
/-- May a text have this padding? -/
def okP (p : Bool) (l : List Int) : Bool := if p = true then decide (l.length % 4 = 0) && decide (l.length - (trm l).length ≤ 2) else decide (l.length - (trm l).length = 0)
theorem bare_ev (p : Bool) (s : ByteArray) (h : s.size ≤ 1000) : Ev (fun k => base64_bare.f k s p) (strOfNums (trm (bytesOf s)), okP p (bytesOf s)) := by
  unfold base64_bare.f
  refine Ev.bind (TrimRight_ev s h) ?_
  have hl := trm_len (bytesOf s)
  have hs : (strOfNums (trm (bytesOf s))).size = (trm (bytesOf s)).length := strOfNums_size _
  have hb : (bytesOf s).length = s.size := bytesOf_length s
  rw [hs]
  have hw : wrap64 ((s.size : Int) - ((trm (bytesOf s)).length : Int)) = (s.size : Int) - ((trm (bytesOf s)).length : Int) := w64 (by omega) (by omega)
  rw [hw]
  unfold okP
  rw [hb]
  cases p with
  | true =>
    simp only [if_true]
    by_cases h4 : s.size % 4 = 0
    · have e : ((s.size : Int) % 4 = 0) := by omega
      simp only [e, if_true, h4]
      have e2 : decide ((s.size : Int) - ((trm (bytesOf s)).length : Int) ≤ 2) = decide (s.size - (trm (bytesOf s)).length ≤ 2) := decide_eq_decide.2 (by omega)
      rw [e2, decide_true, Bool.true_and]
      exact Ev.now _
    · have e : ¬ ((s.size : Int) % 4 = 0) := by omega
      simp only [e, if_false, h4]
      rw [decide_false, Bool.false_and]
      exact Ev.now _
  | false =>
    simp only [Bool.false_eq_true, if_false]
    have e2 : ((s.size : Int) - ((trm (bytesOf s)).length : Int) == 0) = decide (s.size - (trm (bytesOf s)).length = 0) := by
      rw [Bool.eq_iff_iff, beq_iff_eq, decide_eq_true_iff]; omega
    rw [e2]
    exact Ev.now _
/-- What the program's rounds answer. -/
def ans (out : List Int) (x : Option (List Int)) : List Int × Int := match x with
  | some l => (out ++ l, 0)
  | none => ([], 9)
theorem dl_end (o : Bool) (T : ByteArray) (out : List Int) (b h : Int) (i : Nat) (hi : T.size ≤ i) : Ev (fun k => base64_Decode.l0 k o T out b h (T.size : Int) (i : Int)) (if b = 0 then (out, 0) else ([], 9)) := by
  refine Ev.step (f := fun k => some (if b = 0 then (out, 0) else ([], 9))) (fun k => ?_) (Ev.now _)
  simp only [base64_Decode.l0]
  rw [if_neg (by omega)]
  by_cases hb : b = 0
  · rw [if_pos hb, if_pos hb]
  · rw [if_neg hb, if_neg hb]
theorem bt_at' (T : ByteArray) (i : Nat) (c : Int) (t : List Int) (h : (bytesOf T).drop i = c :: t) : i < T.size ∧ bt T (i : Int) = c ∧ (bytesOf T).drop (i + 1) = t ∧ 0 ≤ c ∧ c ≤ 255 := by
  have hi : i < (bytesOf T).length := by
    rcases Nat.lt_or_ge i (bytesOf T).length with h1 | h1
    · exact h1
    · rw [List.drop_eq_nil_of_le h1] at h; cases h
  have hr := bytes_range T c (List.mem_of_mem_drop (by rw [h]; exact List.mem_cons_self ..))
  rw [List.drop_eq_getElem_cons hi] at h
  injection h with h1 h2
  rw [bytesOf_length] at hi
  refine ⟨hi, ?_, h2, hr⟩
  rw [bt_getD, List.getD_eq_getElem?_getD, List.getElem?_eq_getElem (by rw [bytesOf_length]; exact hi), h1]; rfl
def dbody (k : Nat) (o : Bool) (T : ByteArray) (out : List Int) (b h i : Int) (x : Int × Bool) : Option (List Int × Int) :=
  if x.2 = true then (if (wrap64 (h + 6)) ≥ 8 then (if 0 ≤ (wrap64 ((wrap64 (h + 6)) - 8)) then (if out.length < 140737488355328 then (base64_Decode.l0 k o T (out ++ [(shr .i64 (Go.bits .or .i64 (wrap64 (b * 64)) x.1) (wrap64 ((wrap64 (h + 6)) - 8))) % 256]) (Go.bits .and .i64 (Go.bits .or .i64 (wrap64 (b * 64)) x.1) (wrap64 ((shl .i64 1 (wrap64 ((wrap64 (h + 6)) - 8))) - 1))) (wrap64 ((wrap64 (h + 6)) - 8)) (T.size : Int) (wrap64 (i + 1))) else (none)) else (none)) else (if 0 ≤ (wrap64 (h + 6)) then (base64_Decode.l0 k o T out (Go.bits .and .i64 (Go.bits .or .i64 (wrap64 (b * 64)) x.1) (wrap64 ((shl .i64 1 (wrap64 (h + 6))) - 1))) (wrap64 (h + 6)) (T.size : Int) (wrap64 (i + 1))) else (none))) else (some (([] : List Int), 9))
theorem dl_step (k : Nat) (o : Bool) (T : ByteArray) (out : List Int) (b h : Int) (i : Nat) (c : Int) (hi : i < T.size) (hb : bt T (i : Int) = c) : base64_Decode.l0 (k + 1) o T out b h (T.size : Int) (i : Int) = (base64_value.f k c o).bind (dbody k o T out b h (i : Int)) := by
  simp only [base64_Decode.l0]
  rw [if_pos (by omega), if_pos (by omega), if_pos (by omega), hb]
  rfl
/-- No sign: none. -/
theorem dl_bad (o : Bool) (T : ByteArray) (out : List Int) (b h : Int) (i : Nat) (c : Int) (t : List Int) (hd : (bytesOf T).drop i = c :: t) (hv : vl o c = none) : Ev (fun k => base64_Decode.l0 k o T out b h (T.size : Int) (i : Int)) ([], 9) := by
  obtain ⟨hi, hb, _, hc⟩ := bt_at' T i c t hd
  have ve := value_ev o c hc
  unfold vlp at ve
  rw [hv] at ve
  exact Ev.step (fun k => dl_step k o T out b h i c hi hb) (Ev.bind ve (Ev.now _))
theorem pow_le (n : Nat) (h : n ≤ 8) : (1 : Int) ≤ 2 ^ n ∧ (2 : Int) ^ n ≤ 256 := by
  have : n = 0 ∨ n = 1 ∨ n = 2 ∨ n = 3 ∨ n = 4 ∨ n = 5 ∨ n = 6 ∨ n = 7 ∨ n = 8 := by omega
  rcases this with rfl | rfl | rfl | rfl | rfl | rfl | rfl | rfl | rfl <;> decide
theorem n1 (h : Nat) (hh : h ≤ 4) : wrap64 (((h + 2 : Nat) : Int) + 6) = ((h + 8 : Nat) : Int) := by unfold wrap64; omega
theorem n2 (h : Nat) (hh : h ≤ 4) : wrap64 (((h + 8 : Nat) : Int) - 8) = (h : Int) := by unfold wrap64; omega
theorem n3 (b v : Int) (hb : 0 ≤ b ∧ b < 64) (hv : 0 ≤ v ∧ v ≤ 63) : 0 ≤ b * 64 + v ∧ b * 64 + v < 9223372036854775808 := by omega
theorem n4 (b : Int) (hb : 0 ≤ b ∧ b < 64) : wrap64 (b * 64) = b * 64 := by unfold wrap64; omega
theorem n5 (pw : Int) (h : 1 ≤ pw ∧ pw ≤ 256) : wrap64 (pw - 1) = pw - 1 := by unfold wrap64; omega
theorem n6 (i n : Nat) (h : i < n) (hn : n ≤ 1000) : wrap64 ((i : Int) + 1) = ((i + 1 : Nat) : Int) := by unfold wrap64; omega
theorem n7 (h : Nat) : ((h + 8 : Nat) : Int) ≥ 8 := by omega
/-- A sign that fills a byte. -/
theorem dl_full (o : Bool) (T : ByteArray) (out : List Int) (b : Int) (h : Nat) (pw : Int) (hpw : (2 : Int) ^ h = pw) (i : Nat) (c v : Int) (t : List Int) (r : List Int × Int) (hT : T.size ≤ 1000) (ho : out.length ≤ 1000) (hd : (bytesOf T).drop i = c :: t) (hv : vl o c = some v) (hb0 : 0 ≤ b ∧ b < 64) (hh : h ≤ 4)
    (x : Int) (hx : (b * 64 + v) / pw % 256 = x) (y : Int) (hy : (b * 64 + v) % pw = y)
    (hr : Ev (fun k => base64_Decode.l0 k o T (out ++ [x]) y (h : Int) (T.size : Int) ((i + 1 : Nat) : Int)) r) : Ev (fun k => base64_Decode.l0 k o T out b ((h + 2 : Nat) : Int) (T.size : Int) (i : Int)) r := by
  obtain ⟨hi, hb, _, hc⟩ := bt_at' T i c t hd
  have ve := value_ev o c hc
  unfold vlp at ve
  rw [hv] at ve
  obtain ⟨v0, v1, _⟩ := sg_vl o c v hv
  have pl := pow_le h (Nat.le_trans hh (by decide))
  rw [hpw] at pl
  have hlt := n3 b v hb0 ⟨v0, v1⟩
  have e1 := n1 h hh
  have e2 := n2 h hh
  have e3 := n4 b hb0
  have e5 := n5 pw pl
  have e8 := n6 i T.size hi hT
  have c1 : ((h + 8 : Nat) : Int) ≥ 8 := n7 h
  have c2 : 0 ≤ (h : Int) := Int.natCast_nonneg h
  have c3 : out.length < 140737488355328 := Nat.lt_of_le_of_lt ho (by decide)
  have e9 := or64 b v ⟨hb0.1, Int.lt_trans hb0.2 (by decide)⟩ ⟨v0, Int.lt_of_le_of_lt v1 (by decide)⟩
  have e4 : shl .i64 1 (h : Int) = pw := by rw [shl_nat 1 h (Nat.le_trans hh (by decide)) (by decide), Int.one_mul, hpw]
  have e6 : shr .i64 (b * 64 + v) (h : Int) = (b * 64 + v) / pw := by rw [shr_nat _ h (Nat.le_trans hh (by decide)), hpw]
  have e7 : Go.bits .and .i64 (b * 64 + v) (pw - 1) = (b * 64 + v) % pw := by
    have := and_pow h (Nat.le_trans hh (by decide)) (b * 64 + v) hlt.1 hlt.2
    rwa [hpw] at this
  rw [← hx, ← hy] at hr
  refine Ev.step (fun k => dl_step k o T out b ((h + 2 : Nat) : Int) i c hi hb) (Ev.bind ve (Ev.congr (fun k => ?_) hr))
  simp only [dbody, e1, e2, e3, e9, e4, e5, e6, e7, e8]
  rw [if_pos trivial, if_pos c1, if_pos c2, if_pos c3]
/-- The first sign of four. -/
theorem dl_first (o : Bool) (T : ByteArray) (out : List Int) (i : Nat) (c v : Int) (t : List Int) (r : List Int × Int) (hT : T.size ≤ 1000) (hd : (bytesOf T).drop i = c :: t) (hv : vl o c = some v)
    (hr : Ev (fun k => base64_Decode.l0 k o T out v ((6 : Nat) : Int) (T.size : Int) ((i + 1 : Nat) : Int)) r) : Ev (fun k => base64_Decode.l0 k o T out 0 ((0 : Nat) : Int) (T.size : Int) (i : Int)) r := by
  obtain ⟨hi, hb, _, hc⟩ := bt_at' T i c t hd
  have ve := value_ev o c hc
  unfold vlp at ve
  rw [hv] at ve
  obtain ⟨v0, v1, _⟩ := sg_vl o c v hv
  have e1 : wrap64 (((0 : Nat) : Int) + 6) = ((6 : Nat) : Int) := by unfold wrap64; omega
  have e3 : wrap64 ((0 : Int) * 64) = 0 * 64 := by unfold wrap64; omega
  have e4 : shl .i64 1 ((6 : Nat) : Int) = 2 ^ 6 := by rw [shl_nat 1 6 (by omega) (by decide), Int.one_mul]
  have e5 : wrap64 ((2 : Int) ^ 6 - 1) = 2 ^ 6 - 1 := by unfold wrap64; omega
  refine Ev.step (fun k => dl_step k o T out 0 ((0 : Nat) : Int) i c hi hb) (Ev.bind ve (Ev.congr (fun k => ?_) hr))
  simp only [dbody, e1, e3, or64 0 v (by decide) ⟨v0, by omega⟩, e4, e5]
  rw [if_pos trivial, if_neg (by omega), if_pos (by omega), and_pow 6 (by omega) _ (by omega) (by omega), show (0 * 64 + v) % 2 ^ 6 = v by omega, w64 (by omega) (by omega)]
  rfl
theorem dl_ev (o : Bool) (T : ByteArray) (hT : T.size ≤ 1000) : ∀ (t : List Int), t.length % 4 ≠ 1 → ∀ i : Nat, (bytesOf T).drop i = t → i ≤ T.size → ∀ out : List Int, out.length ≤ i → Ev (fun k => base64_Decode.l0 k o T out 0 ((0 : Nat) : Int) (T.size : Int) (i : Int)) (ans out (dec o t))
  | [], _, i, hd, hiT, out, ho => by
    have hi : T.size ≤ i := by have := List.drop_eq_nil_iff.1 hd; rwa [bytesOf_length] at this
    have := dl_end o T out 0 ((0 : Nat) : Int) i hi
    simpa [dec, ans] using this
  | [_], hl, _, _, _, _, _ => absurd rfl hl
  | [x, y], _, i, hd, hiT, out, ho => by
    obtain ⟨hi, _, hd1, hc⟩ := bt_at' T i x _ hd
    obtain ⟨hi1, _, hd2, _⟩ := bt_at' T (i + 1) y _ hd1
    have hE : T.size ≤ i + 1 + 1 := by have := List.drop_eq_nil_iff.1 hd2; rwa [bytesOf_length] at this
    cases hp : vl o x with
    | none => simp only [dec, hp, Option.bind_none, ans]; exact dl_bad o T out _ _ i x _ hd hp
    | some p =>
      obtain ⟨p0, p1, _⟩ := sg_vl o x p hp
      refine dl_first o T out i x p _ _ hT hd hp ?_
      cases hq : vl o y with
      | none => simp only [dec, hp, hq, Option.bind_none, Option.bind_some, ans]; exact dl_bad o T out _ _ (i + 1) y _ hd1 hq
      | some q =>
        obtain ⟨q0, q1, _⟩ := sg_vl o y q hq
        refine dl_full o T out p 4 16 rfl (i + 1) y q _ _ hT (by omega) hd1 hq (by omega) (by decide) (p * 4 + q / 16) (by omega) (q % 16) (by omega) ?_
        have := dl_end o T (out ++ [p * 4 + q / 16]) (q % 16) ((4 : Nat) : Int) (i + 1 + 1) hE
        by_cases h0 : q % 16 = 0
        · rw [if_pos h0] at this
          simp only [dec, hp, hq, Option.bind_some, ans]
          rw [if_pos h0]; exact this
        · rw [if_neg h0] at this
          simp only [dec, hp, hq, Option.bind_some, ans]
          rw [if_neg h0]; exact this
  | [x, y, z], _, i, hd, hiT, out, ho => by
    obtain ⟨hi, _, hd1, hc⟩ := bt_at' T i x _ hd
    obtain ⟨hi1, _, hd2, _⟩ := bt_at' T (i + 1) y _ hd1
    obtain ⟨hi2, _, hd3, _⟩ := bt_at' T (i + 1 + 1) z _ hd2
    have hE : T.size ≤ i + 1 + 1 + 1 := by have := List.drop_eq_nil_iff.1 hd3; rwa [bytesOf_length] at this
    cases hp : vl o x with
    | none => simp only [dec, hp, Option.bind_none, ans]; exact dl_bad o T out _ _ i x _ hd hp
    | some p =>
      obtain ⟨p0, p1, _⟩ := sg_vl o x p hp
      refine dl_first o T out i x p _ _ hT hd hp ?_
      cases hq : vl o y with
      | none => simp only [dec, hp, hq, Option.bind_none, Option.bind_some, ans]; exact dl_bad o T out _ _ (i + 1) y _ hd1 hq
      | some q =>
        obtain ⟨q0, q1, _⟩ := sg_vl o y q hq
        refine dl_full o T out p 4 16 rfl (i + 1) y q _ _ hT (by omega) hd1 hq (by omega) (by decide) (p * 4 + q / 16) (by omega) (q % 16) (by omega) ?_
        cases hr : vl o z with
        | none => simp only [dec, hp, hq, hr, Option.bind_none, Option.bind_some, ans]; exact dl_bad o T _ _ _ (i + 1 + 1) z _ hd2 hr
        | some r =>
          obtain ⟨r0, r1, _⟩ := sg_vl o z r hr
          refine dl_full o T _ (q % 16) 2 4 rfl (i + 1 + 1) z r _ _ hT (by rw [List.length_append, List.length_singleton]; omega) hd2 hr (by omega) (by decide) (q % 16 * 16 + r / 4) (by omega) (r % 4) (by omega) ?_
          have := dl_end o T (out ++ [p * 4 + q / 16] ++ [q % 16 * 16 + r / 4]) (r % 4) ((2 : Nat) : Int) (i + 1 + 1 + 1) hE
          by_cases h0 : r % 4 = 0
          · rw [if_pos h0, List.append_assoc] at this
            simp only [dec, hp, hq, hr, Option.bind_some, ans]
            rw [if_pos h0, List.append_assoc]; exact this
          · rw [if_neg h0] at this
            simp only [dec, hp, hq, hr, Option.bind_some, ans]
            rw [if_neg h0]; exact this
  | x :: y :: z :: s :: t, hl, i, hd, hiT, out, ho => by
    obtain ⟨hi, _, hd1, hc⟩ := bt_at' T i x _ hd
    obtain ⟨hi1, _, hd2, _⟩ := bt_at' T (i + 1) y _ hd1
    obtain ⟨hi2, _, hd3, _⟩ := bt_at' T (i + 1 + 1) z _ hd2
    obtain ⟨hi3, _, hd4, _⟩ := bt_at' T (i + 1 + 1 + 1) s _ hd3
    cases hp : vl o x with
    | none => simp only [dec, hp, Option.bind_none, ans]; exact dl_bad o T out _ _ i x _ hd hp
    | some p =>
      obtain ⟨p0, p1, _⟩ := sg_vl o x p hp
      refine dl_first o T out i x p _ _ hT hd hp ?_
      cases hq : vl o y with
      | none => simp only [dec, hp, hq, Option.bind_none, Option.bind_some, ans]; exact dl_bad o T out _ _ (i + 1) y _ hd1 hq
      | some q =>
        obtain ⟨q0, q1, _⟩ := sg_vl o y q hq
        refine dl_full o T out p 4 16 rfl (i + 1) y q _ _ hT (by omega) hd1 hq (by omega) (by decide) (p * 4 + q / 16) (by omega) (q % 16) (by omega) ?_
        cases hr : vl o z with
        | none => simp only [dec, hp, hq, hr, Option.bind_none, Option.bind_some, ans]; exact dl_bad o T _ _ _ (i + 1 + 1) z _ hd2 hr
        | some r =>
          obtain ⟨r0, r1, _⟩ := sg_vl o z r hr
          refine dl_full o T _ (q % 16) 2 4 rfl (i + 1 + 1) z r _ _ hT (by rw [List.length_append, List.length_singleton]; omega) hd2 hr (by omega) (by decide) (q % 16 * 16 + r / 4) (by omega) (r % 4) (by omega) ?_
          cases hs : vl o s with
          | none => simp only [dec, hp, hq, hr, hs, Option.bind_none, Option.bind_some, ans]; exact dl_bad o T _ _ _ (i + 1 + 1 + 1) s _ hd3 hs
          | some u =>
            obtain ⟨u0, u1, _⟩ := sg_vl o s u hs
            refine dl_full o T _ (r % 4) 0 1 rfl (i + 1 + 1 + 1) s u _ _ hT (by simp only [List.length_append, List.length_singleton]; omega) hd3 hs (by omega) (by decide) (r % 4 * 64 + u) (by omega) 0 (by omega) ?_
            have := dl_ev o T hT t (by simp only [List.length_cons] at hl; omega) (i + 1 + 1 + 1 + 1) hd4 (by omega) (out ++ [p * 4 + q / 16] ++ [q % 16 * 16 + r / 4] ++ [r % 4 * 64 + u]) (by simp only [List.length_append, List.length_singleton]; omega)
            have e : ans (out ++ [p * 4 + q / 16] ++ [q % 16 * 16 + r / 4] ++ [r % 4 * 64 + u]) (dec o t) = ans out (dec o (x :: y :: z :: s :: t)) := by
              simp only [dec, hp, hq, hr, hs, Option.bind_some]
              cases dec o t with
              | none => rfl
              | some l => simp [ans]
            rw [← e]
            exact this
/-- What the program's Decode answers. -/
def DEC (o p : Bool) (l : List Int) : Option (List Int) := if okP p l = true ∧ (trm l).length % 4 ≠ 1 then dec o (trm l) else none
theorem Decode_ev (o p : Bool) (s : ByteArray) (h : s.size ≤ 1000) : Ev (fun k => base64_Decode.f k s o p) (ans [] (DEC o p (bytesOf s))) := by
  unfold base64_Decode.f
  refine Ev.bind (bare_ev p s h) ?_
  have hb := bytes_str _ (trm_byt (bytes_range s))
  have hz : (strOfNums (trm (bytesOf s))).size = (trm (bytesOf s)).length := strOfNums_size _
  have hlen : (trm (bytesOf s)).length ≤ 1000 := by have := trm_len (bytesOf s); rw [bytesOf_length] at this; omega
  unfold DEC
  simp only
  by_cases hok : okP p (bytesOf s) = true
  · rw [hok]
    simp only [if_true]
    by_cases h1 : (trm (bytesOf s)).length % 4 = 1
    · rw [if_neg (by rintro ⟨_, h2⟩; exact h2 h1), hz, show (((trm (bytesOf s)).length : Int) % 4 == 1) = true from beq_iff_eq.2 (by omega)]
      exact Ev.step (f := fun k => some ([], 9)) (fun k => by simp only [base64_Decode.j0, if_true]) (Ev.now _)
    · rw [if_pos ⟨trivial, h1⟩, hz, show (((trm (bytesOf s)).length : Int) % 4 == 1) = false from beq_eq_false_iff_ne.2 (by omega)]
      have := dl_ev o (strOfNums (trm (bytesOf s))) (by omega) (trm (bytesOf s)) h1 0 (by rw [hb]; rfl) (Nat.zero_le _) [] (Nat.zero_le _)
      exact Ev.step (fun k => by simp only [base64_Decode.j0, Bool.false_eq_true, if_false]; rfl) this
  · have hok2 : okP p (bytesOf s) = false := by simpa using hok
    rw [hok2, if_neg (by simp)]
    simp only [Bool.false_eq_true, if_false]
    exact Ev.step (f := fun k => some ([], 9)) (fun k => by simp only [base64_Decode.j0, if_true]) (Ev.now _)
theorem enc_ne61 (o : Bool) : ∀ l : List Int, Byt l → ∀ c ∈ enc o l, c ≠ 61
  | [], _ => by intro c hc; cases hc
  | [a], h => by
    have ha := h.head
    intro c hc
    simp only [enc, List.mem_cons, List.not_mem_nil, or_false] at hc
    rcases hc with rfl | rfl <;> exact sg_ne61 o _ (by omega)
  | [a, b], h => by
    have ha := h.head
    have hb := h.tail.head
    intro c hc
    simp only [enc, List.mem_cons, List.not_mem_nil, or_false] at hc
    rcases hc with rfl | rfl | rfl <;> exact sg_ne61 o _ (by omega)
  | a :: b :: d :: t, h => by
    have ha := h.head
    have hb := h.tail.head
    have hd := h.tail.tail.head
    intro c hc
    simp only [enc, List.mem_cons] at hc
    rcases hc with rfl | rfl | rfl | rfl | hc
    · exact sg_ne61 o _ (by omega)
    · exact sg_ne61 o _ (by omega)
    · exact sg_ne61 o _ (by omega)
    · exact sg_ne61 o _ (by omega)
    · exact enc_ne61 o t h.tail.tail.tail c hc
theorem DEC_ENC (o p : Bool) (l : List Int) (h : Byt l) : DEC o p (ENC o p l) = some l := by
  have ht : trm (ENC o p l) = enc o l := by
    unfold ENC pd
    cases p with
    | true => simp only [if_true]; rw [trm_pad, trm_self _ (enc_ne61 o l h)]
    | false => simp only [Bool.false_eq_true, if_false]; exact trm_self _ (enc_ne61 o l h)
  have hl := enc_len o l
  unfold DEC okP
  rw [ht, if_pos, dec_enc o l h]
  refine ⟨?_, by omega⟩
  unfold ENC pd
  cases p with
  | true =>
    simp only [if_true, List.length_append, List.length_replicate]
    rw [Bool.and_eq_true, decide_eq_true_iff, decide_eq_true_iff]
    omega
  | false => simp
theorem ENC_DEC (o p : Bool) (s l : List Int) (h : DEC o p s = some l) : ENC o p l = s ∧ Byt l := by
  unfold DEC at h
  split at h
  case isFalse => cases h
  case isTrue hc =>
    obtain ⟨e, hb⟩ := enc_dec o _ _ h
    refine ⟨?_, hb⟩
    obtain ⟨n, hn⟩ := trm_dec s.length s rfl
    have hlen := congrArg List.length hn
    rw [List.length_append, List.length_replicate] at hlen
    have hok := hc.1
    unfold okP at hok
    unfold ENC pd
    rw [e]
    cases p with
    | true =>
      simp only [if_true] at hok ⊢
      rw [Bool.and_eq_true, decide_eq_true_iff, decide_eq_true_iff] at hok
      have : (4 - (trm s).length % 4) % 4 = n := by have := hc.2; omega
      rw [this]; exact hn.symm
    | false =>
      simp only [Bool.false_eq_true, if_false] at hok ⊢
      rw [decide_eq_true_iff] at hok
      have : n = 0 := by omega
      rw [this] at hn
      simpa using hn.symm
theorem ENC_len (o p : Bool) (l : List Int) : (ENC o p l).length = if p = true then (l.length + 2) / 3 * 4 else l.length / 3 * 4 + l.length % 3 + (l.length % 3 + 1) / 2 := by
  have hl := enc_len o l
  unfold ENC pd
  cases p with
  | true => simp only [if_true, List.length_append, List.length_replicate]; omega
  | false => simp only [Bool.false_eq_true, if_false]; omega
theorem ENC_byt (o p : Bool) (l : List Int) (h : Byt l) : Byt (ENC o p l) := by
  have := enc_range o l h
  unfold ENC pd
  cases p with
  | true =>
    simp only [if_true]
    intro x hx
    rcases List.mem_append.1 hx with hx | hx
    · exact this x hx
    · rw [List.eq_of_mem_replicate hx]; decide
  | false => simp only [Bool.false_eq_true, if_false]; exact this
end Go.Proofs.YtfjoigkgpdgnbaaDoor.P34
