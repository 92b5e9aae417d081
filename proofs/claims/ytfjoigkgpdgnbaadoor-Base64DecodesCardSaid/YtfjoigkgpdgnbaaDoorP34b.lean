/- Plain facts on base64's program and its document: what Encode answers. No condition but those that each names. -/
import Derived.Test.YtfjoigkgpdgnbaaDoorPAllx5
import Derived.Test.YtfjoigkgpdgnbaaDoorP34
namespace Go.Proofs.YtfjoigkgpdgnbaaDoor.P34
open Go.RowKit Go.Proofs.YtfjoigkgpdgnbaaDoor.PAll Go.Proofs.YtfjoigkgpdgnbaaDoor.By Go.Proofs.YtfjoigkgpdgnbaaDoorW.PrintWords Go.Proofs.YtfjoigkgpdgnbaaDoorW.PrintLast Go.Proofs.YtfjoigkgpdgnbaaDoorW.PrintMore
set_option linter.unusedVariables false

theorem awake_ev : Ev (fun k => monikerlaw34_awake.f k) true := by
  refine Ev.of (fun k => monikerlaw34_awake.mono k) (k := 40) ?_
  decide +kernel
theorem w64 {x : Int} (h1 : -9223372036854775808 ≤ x) (h2 : x ≤ 9223372036854775807) : wrap64 x = x := by unfold wrap64; omega
theorem wraps_i64 (n : Int) (h₀ : 0 ≤ n) (h₁ : n < 2 ^ 63) : IntKind.i64.wrap n = n := by rw [IntKind.wrap_i64]; omega
theorem and_pow (i : Nat) (hi : i ≤ 63) (x : Int) (h0 : 0 ≤ x) (h1 : x < 9223372036854775808) : Go.bits .and .i64 x (2 ^ i - 1) = x % 2 ^ i := bits_mask .i64 63 (by decide) wraps_i64 i hi x h0 (by omega)
theorem and63 (x : Int) (h0 : 0 ≤ x) (h1 : x < 9223372036854775808) : Go.bits .and .i64 x 63 = x % 64 := and_pow 6 (by decide) x h0 h1
theorem or256 (b c : Int) (hb : 0 ≤ b ∧ b < 1000) (hc : 0 ≤ c ∧ c < 256) : Go.bits .or .i64 (b * 256) c = b * 256 + c := bits_join .i64 63 (by decide) wraps_i64 8 (b * 256) c (by omega) (by omega) (by omega) (by omega) (by omega) (by omega)
theorem or64 (b c : Int) (hb : 0 ≤ b ∧ b < 1000) (hc : 0 ≤ c ∧ c < 64) : Go.bits .or .i64 (b * 64) c = b * 64 + c := bits_join .i64 63 (by decide) wraps_i64 6 (b * 64) c (by omega) (by omega) (by omega) (by omega) (by omega) (by omega)
theorem sgn_sg : sgn = sg := rfl
theorem sign_ev (o : Bool) (v : Int) (h : 0 ≤ v ∧ v ≤ 63) : base64_sign.f v o = some (sg o v) := by
  unfold base64_sign.f
  rw [if_pos h.1, if_pos (by omega)]; rfl
theorem shr_nat (x : Int) (n : Nat) (h : n ≤ 64) : shr .i64 x (n : Int) = x / 2 ^ n := by
  unfold shr
  rw [show min ((n : Int)).toNat IntKind.i64.bits = n by simp [IntKind.bits]; omega]
theorem shl_nat (x : Int) (n : Nat) (h : n ≤ 8) (hx : 0 ≤ x ∧ x < 65536) : shl .i64 x (n : Int) = x * 2 ^ n := by
  unfold shl
  rw [show min ((n : Int)).toNat IntKind.i64.bits = n by simp [IntKind.bits]; omega, IntKind.wrap_i64]
  have h2 : (2 : Int) ^ n ≤ 256 := by
    have : n = 0 ∨ n = 1 ∨ n = 2 ∨ n = 3 ∨ n = 4 ∨ n = 5 ∨ n = 6 ∨ n = 7 ∨ n = 8 := by omega
    rcases this with rfl | rfl | rfl | rfl | rfl | rfl | rfl | rfl | rfl <;> decide
  have h3 : (0 : Int) ≤ 2 ^ n := Int.pow_nonneg (by decide)
  have h4 : x * 2 ^ n ≤ 65536 * 256 := Int.mul_le_mul (by omega) h2 h3 (by decide)
  have h5 : 0 ≤ x * 2 ^ n := Int.mul_nonneg hx.1 h3
  omega
/-- The padding behind signs. -/
def pd (p : Bool) (l : List Int) : List Int := if p = true then l ++ List.replicate ((4 - l.length % 4) % 4) 61 else l
def ENC (o p : Bool) (l : List Int) : List Int := pd p (enc o l)
theorem pad_ev : ∀ (n : Nat) (l : List Int), l.length ≤ 1000 → (4 - l.length % 4) % 4 = n → Ev (fun k => base64_Encode.l2 k true l) (strOfNums (l ++ List.replicate n 61))
  | 0, l, hl, hn => by
    refine Ev.step (f := fun k => some (strOfNums (l ++ List.replicate 0 61))) (fun k => ?_) (Ev.now _)
    simp only [base64_Encode.l2, if_true]
    rw [if_neg (by omega)]
    simp
  | n + 1, l, hl, hn => by
    refine Ev.step (f := fun k => base64_Encode.l2 k true (l ++ [61])) (fun k => ?_) ?_
    · simp only [base64_Encode.l2, if_true]
      rw [if_pos (by omega), if_pos (by omega)]
    · have hlen : (l ++ [(61 : Int)]).length = l.length + 1 := by simp
      have := pad_ev n (l ++ [61]) (by omega) (by omega)
      rwa [List.append_assoc, show [(61 : Int)] ++ List.replicate n 61 = List.replicate (n + 1) 61 from rfl] at this
theorem j2_ev (p : Bool) (l : List Int) (hl : l.length ≤ 900) : Ev (fun k => base64_Encode.j2 k p l) (strOfNums (pd p l)) := by
  refine Ev.step (f := fun k => base64_Encode.l2 k p l) (fun k => by simp only [base64_Encode.j2]) ?_
  unfold pd
  cases p with
  | true => exact pad_ev _ l (by omega) rfl
  | false =>
    refine Ev.step (f := fun k => some (strOfNums l)) (fun k => ?_) (Ev.now _)
    simp only [base64_Encode.l2, Bool.false_eq_true, if_false]
theorem rd_at (L : List Int) (i : Nat) (c : Int) (t : List Int) (h : L.drop i = c :: t) : i < L.length ∧ rd L (i : Int) = c ∧ L.drop (i + 1) = t := by
  have hi : i < L.length := by
    rcases Nat.lt_or_ge i L.length with h1 | h1
    · exact h1
    · rw [List.drop_eq_nil_of_le h1] at h; cases h
  rw [List.drop_eq_getElem_cons hi] at h
  injection h with h1 h2
  refine ⟨hi, ?_, h2⟩
  unfold rd
  simp [List.getD_eq_getElem?_getD, hi, h1]
/-- A byte comes in. -/
theorem l0_in (o p : Bool) (out : List Int) (b : Int) (h : Nat) (L : List Int) (i : Nat) (c : Int) (t : List Int) (r : ByteArray) (hd : L.drop i = c :: t) (hL : L.length ≤ 1000) (hb : 0 ≤ b ∧ b < 16) (hc : 0 ≤ c ∧ c ≤ 255) (hh : h ≤ 4)
    (hr : Ev (fun k => base64_Encode.l1 k o p out (b * 256 + c) ((h + 8 : Nat) : Int) L (L.length : Int) (i : Int)) r) : Ev (fun k => base64_Encode.l0 k o p out b (h : Int) L (L.length : Int) (i : Int)) r := by
  obtain ⟨hi, hrd, _⟩ := rd_at L i c t hd
  refine Ev.step (fun k => ?_) hr
  simp only [base64_Encode.l0]
  rw [if_pos (by omega), if_pos (by omega), if_pos (by omega), hrd, w64 (by omega) (by omega), w64 (by omega) (by omega), w64 (by omega) (by omega), or256 b c (by omega) (by omega)]
  rfl
/-- A sign goes out. -/
theorem l1_out (o p : Bool) (out : List Int) (b : Int) (h : Nat) (L : List Int) (i : Int) (r : ByteArray) (ho : out.length ≤ 1000) (hb : 0 ≤ b ∧ b < 1048576) (hh : h ≤ 6) (s : Int) (hs : b / 2 ^ h % 64 = s)
    (hr : Ev (fun k => base64_Encode.l1 k o p (out ++ [sg o s]) b (h : Int) L (L.length : Int) i) r) : Ev (fun k => base64_Encode.l1 k o p out b ((h + 6 : Nat) : Int) L (L.length : Int) i) r := by
  refine Ev.step (fun k => ?_) hr
  have hw : wrap64 (((h + 6 : Nat) : Int) - 6) = (h : Int) := by rw [w64 (by omega) (by omega)]; omega
  have hp : (0 : Int) < 2 ^ h := Int.pow_pos (by decide)
  have h0 : 0 ≤ b / 2 ^ h := Int.ediv_nonneg hb.1 (by omega)
  have h1 : b / 2 ^ h ≤ b := Int.ediv_le_self _ hb.1
  simp only [base64_Encode.l1, hw]
  rw [if_pos (by omega), if_pos (by omega), shr_nat b h (by omega), and63 _ h0 (by omega), hs, sign_ev o s (by omega)]
  simp only [Option.bind_some]
  rw [if_pos (by omega)]
/-- No sign is left to go out. -/
theorem l1_end (o p : Bool) (out : List Int) (b : Int) (h : Nat) (L : List Int) (i : Nat) (r : ByteArray) (hL : i ≤ 1000) (hb : 0 ≤ b ∧ b < 1048576) (hh : h < 6) (b' : Int) (hb' : b % 2 ^ h = b')
    (hr : Ev (fun k => base64_Encode.l0 k o p out b' (h : Int) L (L.length : Int) ((i + 1 : Nat) : Int)) r) : Ev (fun k => base64_Encode.l1 k o p out b (h : Int) L (L.length : Int) (i : Int)) r := by
  refine Ev.step (fun k => ?_) hr
  simp only [base64_Encode.l1]
  have h2 : shl .i64 1 (h : Int) = 2 ^ h := by rw [shl_nat 1 h (by omega) (by decide), Int.one_mul]
  have h3 : (2 : Int) ^ h ≤ 64 := by
    have : h = 0 ∨ h = 1 ∨ h = 2 ∨ h = 3 ∨ h = 4 ∨ h = 5 := by omega
    rcases this with rfl | rfl | rfl | rfl | rfl | rfl <;> decide
  have h4 : (0 : Int) < 2 ^ h := Int.pow_pos (by decide)
  rw [if_neg (by omega), if_pos (by omega), h2, w64 (by omega) (by omega), and_pow h (by omega) b hb.1 (by omega), hb', w64 (by omega) (by omega)]
  rfl
/-- The end of the bytes. -/
theorem l0_end (o p : Bool) (out : List Int) (b : Int) (h : Nat) (L : List Int) (i : Nat) (hd : L.drop i = []) (hb : 0 ≤ b ∧ b < 16) (hh : h ≤ 4) (ho : out.length ≤ 800) :
    Ev (fun k => base64_Encode.l0 k o p out b (h : Int) L (L.length : Int) (i : Int)) (strOfNums (pd p (if h = 0 then out else out ++ [sg o (b * 2 ^ (6 - h) % 64)]))) := by
  have hi : L.length ≤ i := List.drop_eq_nil_iff.1 hd
  by_cases h0 : h = 0
  · subst h0
    refine Ev.step (f := fun k => base64_Encode.j2 k p out) (fun k => ?_) (j2_ev p out (by omega))
    simp only [base64_Encode.l0]
    rw [if_neg (by omega), if_neg (by omega)]
  · rw [if_neg h0]
    refine Ev.step (f := fun k => base64_Encode.j2 k p (out ++ [sg o (b * 2 ^ (6 - h) % 64)])) (fun k => ?_) (j2_ev p _ (by rw [List.length_append, List.length_singleton]; omega))
    have hw : wrap64 (6 - (h : Int)) = ((6 - h : Nat) : Int) := by rw [w64 (by omega) (by omega)]; omega
    have h3 : (2 : Int) ^ (6 - h) ≤ 64 := by
      have : h = 1 ∨ h = 2 ∨ h = 3 ∨ h = 4 := by omega
      rcases this with rfl | rfl | rfl | rfl <;> decide
    have h4 : (0 : Int) < 2 ^ (6 - h) := Int.pow_pos (by decide)
    have h5 : b * 2 ^ (6 - h) ≤ 16 * 64 := Int.mul_le_mul (by omega) h3 (by omega) (by decide)
    have h6 : 0 ≤ b * 2 ^ (6 - h) := Int.mul_nonneg hb.1 (by omega)
    simp only [base64_Encode.l0]
    rw [if_neg (by omega), if_pos (by omega), hw, if_pos (by omega), shl_nat b (6 - h) (by omega) (by omega), and63 _ h6 (by omega), sign_ev o _ (by omega)]
    simp only [Option.bind_some]
    rw [if_pos (by omega)]
theorem enc_ev (o p : Bool) (L : List Int) (hL : L.length ≤ 300) : ∀ (t : List Int), Byt t → ∀ i : Nat, L.drop i = t → i ≤ L.length → ∀ out : List Int, out.length ≤ 2 * i → Ev (fun k => base64_Encode.l0 k o p out 0 0 L (L.length : Int) (i : Int)) (strOfNums (pd p (out ++ enc o t)))
  | [], _, i, hd, hil, out, ho => by
    have := l0_end o p out 0 0 L i hd (by omega) (by omega) (by omega)
    rw [if_pos rfl] at this
    rw [show enc o [] = [] from rfl, List.append_nil]
    exact this
  | [a], hB, i, hd, hil, out, ho => by
    have ha := hB.head
    obtain ⟨hi, _, hd1⟩ := rd_at L i a [] hd
    refine l0_in o p out 0 0 L i a [] _ hd (by omega) (by omega) ha (by omega) ?_
    refine l1_out o p out _ 2 L i _ (by omega) (by omega) (by omega) (a / 4) (by omega) ?_
    refine l1_end o p _ _ 2 L i _ (by omega) (by omega) (by omega) (a % 4) (by omega) ?_
    have := l0_end o p (out ++ [sg o (a / 4)]) (a % 4) 2 L (i + 1) hd1 (by omega) (by omega) (by rw [List.length_append, List.length_singleton]; omega)
    rw [if_neg (by decide), show a % 4 * 2 ^ (6 - 2) % 64 = a % 4 * 16 by omega, List.append_assoc] at this
    exact this
  | [a, b], hB, i, hd, hil, out, ho => by
    have ha := hB.head
    have hb := hB.tail.head
    obtain ⟨hi, _, hd1⟩ := rd_at L i a [b] hd
    obtain ⟨hi1, _, hd2⟩ := rd_at L (i + 1) b [] hd1
    refine l0_in o p out 0 0 L i a [b] _ hd (by omega) (by omega) ha (by omega) ?_
    refine l1_out o p out _ 2 L i _ (by omega) (by omega) (by omega) (a / 4) (by omega) ?_
    refine l1_end o p _ _ 2 L i _ (by omega) (by omega) (by omega) (a % 4) (by omega) ?_
    refine l0_in o p _ (a % 4) 2 L (i + 1) b [] _ hd1 (by omega) (by omega) hb (by omega) ?_
    refine l1_out o p _ _ 4 L _ _ (by rw [List.length_append, List.length_singleton]; omega) (by omega) (by omega) (a % 4 * 16 + b / 16) (by omega) ?_
    refine l1_end o p _ _ 4 L (i + 1) _ (by omega) (by omega) (by omega) (b % 16) (by omega) ?_
    have := l0_end o p (out ++ [sg o (a / 4)] ++ [sg o (a % 4 * 16 + b / 16)]) (b % 16) 4 L (i + 1 + 1) hd2 (by omega) (by omega) (by simp only [List.length_append, List.length_singleton]; omega)
    rw [if_neg (by decide), show b % 16 * 2 ^ (6 - 4) % 64 = b % 16 * 4 by omega] at this
    simp only [List.append_assoc] at this ⊢
    exact this
  | a :: b :: c :: t, hB, i, hd, hil, out, ho => by
    have ha := hB.head
    have hb := hB.tail.head
    have hc := hB.tail.tail.head
    obtain ⟨hi, _, hd1⟩ := rd_at L i a _ hd
    obtain ⟨hi1, _, hd2⟩ := rd_at L (i + 1) b _ hd1
    obtain ⟨hi2, _, hd3⟩ := rd_at L (i + 1 + 1) c _ hd2
    refine l0_in o p out 0 0 L i a _ _ hd (by omega) (by omega) ha (by omega) ?_
    refine l1_out o p out _ 2 L i _ (by omega) (by omega) (by omega) (a / 4) (by omega) ?_
    refine l1_end o p _ _ 2 L i _ (by omega) (by omega) (by omega) (a % 4) (by omega) ?_
    refine l0_in o p _ (a % 4) 2 L (i + 1) b _ _ hd1 (by omega) (by omega) hb (by omega) ?_
    refine l1_out o p _ _ 4 L _ _ (by rw [List.length_append, List.length_singleton]; omega) (by omega) (by omega) (a % 4 * 16 + b / 16) (by omega) ?_
    refine l1_end o p _ _ 4 L (i + 1) _ (by omega) (by omega) (by omega) (b % 16) (by omega) ?_
    refine l0_in o p _ (b % 16) 4 L (i + 1 + 1) c _ _ hd2 (by omega) (by omega) hc (by omega) ?_
    refine l1_out o p _ _ 6 L _ _ (by simp only [List.length_append, List.length_singleton]; omega) (by omega) (by omega) (b % 16 * 4 + c / 64) (by omega) ?_
    refine l1_out o p _ _ 0 L _ _ (by simp only [List.length_append, List.length_singleton]; omega) (by omega) (by omega) (c % 64) (by omega) ?_
    refine l1_end o p _ _ 0 L (i + 1 + 1) _ (by omega) (by omega) (by omega) 0 (by omega) ?_
    have := enc_ev o p L hL t hB.tail.tail.tail (i + 1 + 1 + 1) hd3 (by omega) (out ++ [sg o (a / 4)] ++ [sg o (a % 4 * 16 + b / 16)] ++ [sg o (b % 16 * 4 + c / 64)] ++ [sg o (c % 64)]) (by simp only [List.length_append, List.length_singleton]; omega)
    simp only [List.append_assoc] at this ⊢
    exact this
theorem Encode_ev (o p : Bool) (L : List Int) (hL : L.length ≤ 300) (hB : Byt L) : Ev (fun k => base64_Encode.f k L o p) (strOfNums (ENC o p L)) := by
  have e : Int.tdiv (wrap64 ((L.length : Int) + 2)) 3 = ((L.length : Int) + 2) / 3 := by rw [w64 (x := (L.length : Int) + 2) (by omega) (by omega), Int.tdiv_eq_ediv_of_nonneg (by omega)]
  have e2 : wrap64 (wrap64 (Int.tdiv (wrap64 ((L.length : Int) + 2)) 3) * 4) = ((L.length : Int) + 2) / 3 * 4 := by
    rw [e, w64 (x := ((L.length : Int) + 2) / 3) (by omega) (by omega), w64 (by omega) (by omega)]
  have hs : base64_Size.f (L.length : Int) true = some (((L.length : Int) + 2) / 3 * 4) := by
    unfold base64_Size.f
    rw [if_neg (by omega), if_pos rfl, e2]
  obtain ⟨z, hz⟩ : ∃ z, z = ((L.length : Int) + 2) / 3 * 4 := ⟨_, rfl⟩
  have hz0 : 0 ≤ z := by omega
  have hz1 : z.toNat ≤ 281474976710656 := by omega
  have key := enc_ev o p L hL L hB 0 rfl (by omega) [] (by simp)
  unfold base64_Encode.f
  rw [hs, ← hz]
  simp only [Option.bind_some, hz0, hz1, if_true]
  exact key
end Go.Proofs.YtfjoigkgpdgnbaaDoor.P34
