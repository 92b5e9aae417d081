/- Plain facts on the coding of bytes by 64 signs, on lists of byte values. No condition but those that each names. -/
import Derived.Test.YtfjoigkgpdgnbaaDoorBy
namespace Go.Proofs.YtfjoigkgpdgnbaaDoor.P34
open Go.RowKit Go.Proofs.YtfjoigkgpdgnbaaDoor.By Go.Proofs.YtfjoigkgpdgnbaaDoorW.PrintWords Go.Proofs.YtfjoigkgpdgnbaaDoorW.PrintLast
set_option linter.unusedVariables false

/-- The sign of a value. -/
def sg (o : Bool) (v : Int) : Int := if v < 26 then 65 + v else if v < 52 then 71 + v else if v < 62 then v - 4 else if v = 62 then (if o = true then 45 else 43) else (if o = true then 95 else 47)
/-- The value of a sign. -/
def vl (o : Bool) (c : Int) : Option Int := if 65 ≤ c ∧ c ≤ 90 then some (c - 65) else if 97 ≤ c ∧ c ≤ 122 then some (c - 71) else if 48 ≤ c ∧ c ≤ 57 then some (c + 4) else if c = (if o = true then 45 else 43) then some 62 else if c = (if o = true then 95 else 47) then some 63 else none
theorem vl_sg (o : Bool) (v : Int) (h : 0 ≤ v ∧ v ≤ 63) : vl o (sg o v) = some v := by
  have key : ∀ o : Bool, ∀ n : Fin 64, vl o (sg o (n.val : Int)) = some (n.val : Int) := by decide +kernel
  have := key o ⟨v.toNat, by omega⟩
  rw [show ((v.toNat : Nat) : Int) = v by omega] at this
  exact this
theorem sg_vl (o : Bool) (c v : Int) (h : vl o c = some v) : 0 ≤ v ∧ v ≤ 63 ∧ sg o v = c := by
  unfold vl at h
  unfold sg
  cases o <;> simp only [Bool.false_eq_true, if_false, if_true] at h ⊢ <;> (repeat' split at h) <;> (first | cases h | skip) <;> (repeat' split) <;> omega
theorem sg_ne61 (o : Bool) (v : Int) (h : 0 ≤ v ∧ v ≤ 63) : sg o v ≠ 61 := by
  intro e
  have := vl_sg o v h
  rw [e] at this
  have h2 : vl o 61 = none := by cases o <;> rfl
  rw [h2] at this
  cases this
theorem sg_range (o : Bool) (v : Int) (h : 0 ≤ v ∧ v ≤ 63) : 0 ≤ sg o v ∧ sg o v ≤ 255 := by
  unfold sg
  cases o <;> simp only [Bool.false_eq_true, if_false, if_true] <;> (repeat' split) <;> omega
def Byt (l : List Int) : Prop := ∀ x ∈ l, 0 ≤ x ∧ x ≤ 255
theorem Byt.nil : Byt [] := by intro x hx; cases hx
theorem Byt.cons {a : Int} {l : List Int} (h : 0 ≤ a ∧ a ≤ 255) (t : Byt l) : Byt (a :: l) := by
  intro x hx
  rcases List.mem_cons.1 hx with rfl | hx
  · exact h
  · exact t x hx
theorem Byt.head {a : Int} {l : List Int} (h : Byt (a :: l)) : 0 ≤ a ∧ a ≤ 255 := h a (List.mem_cons_self ..)
theorem Byt.tail {a : Int} {l : List Int} (h : Byt (a :: l)) : Byt l := fun x hx => h x (List.mem_cons_of_mem _ hx)
/-- The signs, without padding. -/
def enc (o : Bool) : List Int → List Int
  | [] => []
  | [a] => [sg o (a / 4), sg o (a % 4 * 16)]
  | [a, b] => [sg o (a / 4), sg o (a % 4 * 16 + b / 16), sg o (b % 16 * 4)]
  | a :: b :: c :: t => sg o (a / 4) :: sg o (a % 4 * 16 + b / 16) :: sg o (b % 16 * 4 + c / 64) :: sg o (c % 64) :: enc o t
/-- The bytes of signs without padding. -/
def dec (o : Bool) : List Int → Option (List Int)
  | [] => some []
  | [_] => none
  | [x, y] => (vl o x).bind fun p => (vl o y).bind fun q => if q % 16 = 0 then some [p * 4 + q / 16] else none
  | [x, y, z] => (vl o x).bind fun p => (vl o y).bind fun q => (vl o z).bind fun r => if r % 4 = 0 then some [p * 4 + q / 16, q % 16 * 16 + r / 4] else none
  | x :: y :: z :: w :: t => (vl o x).bind fun p => (vl o y).bind fun q => (vl o z).bind fun r => (vl o w).bind fun s => (dec o t).bind fun l => some ((p * 4 + q / 16) :: (q % 16 * 16 + r / 4) :: (r % 4 * 64 + s) :: l)
theorem dec_enc (o : Bool) : ∀ l : List Int, Byt l → dec o (enc o l) = some l
  | [], _ => rfl
  | [a], h => by
    have ha := h.head
    simp only [enc, dec, vl_sg o (a / 4) (by omega), vl_sg o (a % 4 * 16) (by omega), Option.bind_some]
    rw [if_pos (by omega)]
    congr 2; omega
  | [a, b], h => by
    have ha := h.head
    have hb := h.tail.head
    simp only [enc, dec, vl_sg o (a / 4) (by omega), vl_sg o (a % 4 * 16 + b / 16) (by omega), vl_sg o (b % 16 * 4) (by omega), Option.bind_some]
    rw [if_pos (by omega)]
    congr 2
    · omega
    · congr 1; omega
  | a :: b :: c :: t, h => by
    have ha := h.head
    have hb := h.tail.head
    have hc := h.tail.tail.head
    simp only [enc, dec, vl_sg o (a / 4) (by omega), vl_sg o (a % 4 * 16 + b / 16) (by omega), vl_sg o (b % 16 * 4 + c / 64) (by omega), vl_sg o (c % 64) (by omega), dec_enc o t h.tail.tail.tail, Option.bind_some]
    congr 2
    · omega
    · congr 1
      · omega
      · congr 1; omega
theorem enc_dec (o : Bool) : ∀ t l : List Int, dec o t = some l → enc o l = t ∧ Byt l
  | [], l, h => by
    simp only [dec, Option.some.injEq] at h
    subst h; exact ⟨rfl, Byt.nil⟩
  | [_], l, h => by simp [dec] at h
  | [x, y], l, h => by
    simp only [dec, Option.bind_eq_some_iff] at h
    obtain ⟨p, hp, q, hq, h⟩ := h
    obtain ⟨p1, p2, p3⟩ := sg_vl o x p hp
    obtain ⟨q1, q2, q3⟩ := sg_vl o y q hq
    split at h
    · injection h with h
      subst h
      refine ⟨?_, Byt.cons (by omega) Byt.nil⟩
      simp only [enc]
      rw [show (p * 4 + q / 16) / 4 = p by omega, show (p * 4 + q / 16) % 4 * 16 = q by omega, p3, q3]
    · cases h
  | [x, y, z], l, h => by
    simp only [dec, Option.bind_eq_some_iff] at h
    obtain ⟨p, hp, q, hq, r, hr, h⟩ := h
    obtain ⟨p1, p2, p3⟩ := sg_vl o x p hp
    obtain ⟨q1, q2, q3⟩ := sg_vl o y q hq
    obtain ⟨r1, r2, r3⟩ := sg_vl o z r hr
    split at h
    · injection h with h
      subst h
      refine ⟨?_, Byt.cons (by omega) (Byt.cons (by omega) Byt.nil)⟩
      simp only [enc]
      rw [show (p * 4 + q / 16) / 4 = p by omega, show (p * 4 + q / 16) % 4 * 16 + (q % 16 * 16 + r / 4) / 16 = q by omega, show (q % 16 * 16 + r / 4) % 16 * 4 = r by omega, p3, q3, r3]
    · cases h
  | x :: y :: z :: w :: t, l, h => by
    simp only [dec, Option.bind_eq_some_iff] at h
    obtain ⟨p, hp, q, hq, r, hr, s, hs, m, hm, h⟩ := h
    obtain ⟨p1, p2, p3⟩ := sg_vl o x p hp
    obtain ⟨q1, q2, q3⟩ := sg_vl o y q hq
    obtain ⟨r1, r2, r3⟩ := sg_vl o z r hr
    obtain ⟨s1, s2, s3⟩ := sg_vl o w s hs
    obtain ⟨e, hb⟩ := enc_dec o t m hm
    injection h with h
    subst h
    refine ⟨?_, Byt.cons (by omega) (Byt.cons (by omega) (Byt.cons (by omega) hb))⟩
    simp only [enc]
    rw [show (p * 4 + q / 16) / 4 = p by omega, show (p * 4 + q / 16) % 4 * 16 + (q % 16 * 16 + r / 4) / 16 = q by omega, show (q % 16 * 16 + r / 4) % 16 * 4 + (r % 4 * 64 + s) / 64 = r by omega, show (r % 4 * 64 + s) % 64 = s by omega, p3, q3, r3, s3, e]
theorem enc_len (o : Bool) : ∀ l : List Int, (enc o l).length = l.length / 3 * 4 + l.length % 3 + (l.length % 3 + 1) / 2
  | [] => rfl
  | [a] => by simp [enc]
  | [a, b] => by simp [enc]
  | a :: b :: c :: t => by
    simp only [enc, List.length_cons, enc_len o t]
    omega
theorem enc_range (o : Bool) : ∀ l : List Int, Byt l → Byt (enc o l)
  | [], _ => Byt.nil
  | [a], h => by
    have ha := h.head
    exact Byt.cons (sg_range o _ (by omega)) (Byt.cons (sg_range o _ (by omega)) Byt.nil)
  | [a, b], h => by
    have ha := h.head
    have hb := h.tail.head
    exact Byt.cons (sg_range o _ (by omega)) (Byt.cons (sg_range o _ (by omega)) (Byt.cons (sg_range o _ (by omega)) Byt.nil))
  | a :: b :: c :: t, h => by
    have ha := h.head
    have hb := h.tail.head
    have hc := h.tail.tail.head
    exact Byt.cons (sg_range o _ (by omega)) (Byt.cons (sg_range o _ (by omega)) (Byt.cons (sg_range o _ (by omega)) (Byt.cons (sg_range o _ (by omega)) (enc_range o t h.tail.tail.tail))))
/-- Is each a sign? -/
def Sgs (o : Bool) (l : List Int) : Prop := ∀ x ∈ l, (vl o x).isSome = true
/-- How many padding signs so many bytes have. -/
def pads (n : Nat) : Nat := (3 - n % 3) % 3
end Go.Proofs.YtfjoigkgpdgnbaaDoor.P34
