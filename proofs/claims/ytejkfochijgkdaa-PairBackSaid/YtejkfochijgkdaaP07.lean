/- The texts of New, decoded. -/
import Derived.Test.YtejkfochijgkdaaPn
namespace Go.Proofs.Ytejkfochijgkdaa.Pr
set_option linter.unusedVariables false
noncomputable def codeN (i : Nat) : Nat := (strs i).data.toList.foldr (fun b acc => b.toNat + 256 * acc) 0
def fastF : Nat → Nat → List Nat
  | 0, _ => []
  | f + 1, n => if n = 0 then [] else
    if n % 256 < 128 then n % 256 :: fastF f (n / 256)
    else if n % 256 < 224 then ((n % 256 - 192) * 64 + (n / 256 % 256 - 128)) :: fastF f (n / 65536)
    else if n % 256 < 240 then ((n % 256 - 224) * 4096 + (n / 256 % 256 - 128) * 64 + (n / 65536 % 256 - 128)) :: fastF f (n / 16777216)
    else ((n % 256 - 240) * 262144 + (n / 256 % 256 - 128) * 4096 + (n / 65536 % 256 - 128) * 64 + (n / 16777216 % 256 - 128)) :: fastF f (n / 4294967296)
noncomputable def runesN (i : Nat) : List Nat := fastF (strs i).size (codeN i)
noncomputable def runes (i : Nat) : List Int := runesF (strs i) ((strs i).size + 1) 0
set_option maxHeartbeats 0 in
set_option maxRecDepth 1000000 in
theorem runes_ok : ∀ i, i < 7 → runes i = (runesN i).map Int.ofNat := by decide +kernel
end Go.Proofs.Ytejkfochijgkdaa.Pr
