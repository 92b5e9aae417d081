/- The texts of New, decoded. -/
import Derived.Test.YtejkfochijgkdaaPn
import Derived.Lib.DecodeN
namespace Go.Proofs.Ytejkfochijgkdaa.Pr
set_option linter.unusedVariables false
set_option linter.unusedSimpArgs false
/-- Bytes as one number, the first the lowest. -/
def cd : List UInt8 → Nat
  | [] => 0
  | b :: t => b.toNat + 256 * cd t
noncomputable def codeN (i : Nat) : Nat := cd (strs i).data.toList
def fastG : Nat → Nat → Nat → List Nat
  | 0, _, _ => []
  | f + 1, left, n => if left = 0 then [] else
    let d := Lib.decodeN left (n % 256) (n / 256 % 256) (n / 65536 % 256) (n / 16777216 % 256)
    d.1 :: fastG f (left - d.2) (n / 256 ^ d.2)
noncomputable def runesN (i : Nat) : List Nat := fastG ((strs i).size + 1) (strs i).size (codeN i)
noncomputable def runes (i : Nat) : List Int := runesF (strs i) ((strs i).size + 1) 0
theorem cd_div : ∀ (l : List UInt8) (k : Nat), cd l / 256 ^ k = cd (l.drop k)
  | l, 0 => by simp
  | [], k + 1 => by simp [cd]
  | b :: t, k + 1 => by
    have hb := UInt8.toNat_lt b
    rw [Nat.pow_succ, Nat.mul_comm, ← Nat.div_div_eq_div_mul, List.drop_succ_cons, ← cd_div t k]
    congr 1
    show (b.toNat + 256 * cd t) / 256 = _
    omega
theorem cd_mod (l : List UInt8) : cd l % 256 = (l.head?.getD 0).toNat := by
  cases l with
  | nil => rfl
  | cons b t =>
    have hb := UInt8.toNat_lt b
    show (b.toNat + 256 * cd t) % 256 = b.toNat
    omega
theorem get_cd (s : ByteArray) (i : Nat) : (s.get! i).toNat = cd (s.data.toList.drop i) % 256 := by
  rw [cd_mod, List.head?_drop]
  show (s.data[i]!).toNat = _
  rw [getElem!_def, Array.getElem?_toList]
  cases s.data[i]? <;> rfl
theorem decode_cd (s : ByteArray) (i : Nat) : Utf8.decode s i = Lib.decodeN (s.size - i) (cd (s.data.toList.drop i) % 256) (cd (s.data.toList.drop i) / 256 % 256) (cd (s.data.toList.drop i) / 65536 % 256) (cd (s.data.toList.drop i) / 16777216 % 256) := by
  rw [Lib.decode_at, get_cd, get_cd s (i + 1), get_cd s (i + 2), get_cd s (i + 3)]
  have e : ∀ k, cd (s.data.toList.drop (i + k)) = cd (s.data.toList.drop i) / 256 ^ k := fun k => by rw [cd_div, List.drop_drop]
  rw [e 1, e 2, e 3]
theorem runes_fast (s : ByteArray) : ∀ (f i : Nat), runesF s f i = (fastG f (s.size - i) (cd (s.data.toList.drop i))).map Int.ofNat
  | 0, i => rfl
  | f + 1, i => by
    rw [runesF, fastG]
    by_cases h : i < s.size
    · rw [if_pos h, if_neg (by omega)]
      have hd := decode_cd s i
      simp only
      rw [← hd, List.map_cons, runes_fast s f, cd_div, List.drop_drop, Nat.sub_sub]
      rfl
    · rw [if_neg h, if_pos (by omega)]
      rfl
theorem runes_ok : ∀ i, i < 7 → runes i = (runesN i).map Int.ofNat := fun i _ => runes_fast (strs i) ((strs i).size + 1) 0
end Go.Proofs.Ytejkfochijgkdaa.Pr
