/- A map that the call has made, told as a function from keys to values: for any program. -/
import Derived.Maps.OwnSet
import Derived.DeepKeys4
namespace Go.Proofs.Ytonmollpimoaoaa.MapF
open Go.ChangeMaps Go.MapKept Go.Maps
set_option linter.unusedVariables false
variable {P : Program}
/-- Any value, as it stands. -/
def R0 (v : Value) : Option (DataW Value × List MemPlace) := some (.held v, [])
/-- Block b of w is a map of at most n entries, of m entries, that tells f. -/
def MapF (w : World) (P : Program) (k : TypeId) (b n m : Nat) (f : Value → Option Value) : Prop :=
  ∃ D : DataW Value, w.ownsMap P k R0 b n D ∧ Maps.size D = m ∧ ∀ key kl, keyOf P k key = some kl → Maps.has D kl = (f key).isSome ∧ ∀ v, f key = some v → ∀ z, D.atKey kl z = .held v
variable {k e t : TypeId} {w : World} {b n m : Nat} {f : Value → Option Value}
theorem MapF.made (w : World) (P : Program) (k : TypeId) : MapF (w.alloc (.map #[] 0)) P k w.heap.size 0 0 (fun _ => none) :=
  ⟨.map [], World.ownsMap_made w P k R0, rfl, fun key kl _ => ⟨rfl, fun v h => by cases h⟩⟩
theorem MapF.lt (h : MapF w P k b n m f) : b < w.heap.size := by obtain ⟨D, h, _⟩ := h; exact h.lt
theorem MapF.isMap (h : MapF w P k b n m f) : ∃ es clock, w.heap[b]? = some (.map es clock) := by
  obtain ⟨D, ⟨es, clock, hb, _⟩, _⟩ := h
  exact ⟨es, clock, hb⟩
theorem MapF.mono (h : MapF w P k b n m f) {n' : Nat} (hn : n ≤ n') : MapF w P k b n' m f := by
  obtain ⟨D, h, r⟩ := h
  exact ⟨D, h.mono hn, r⟩
/-- Its block is as it was. -/
theorem MapF.same {w' : World} (h : MapF w P k b n m f) (he : w'.heap[b]? = w.heap[b]?) : MapF w' P k b n m f := by
  obtain ⟨D, ⟨es, clock, hb, r⟩, q⟩ := h
  exact ⟨D, ⟨es, clock, he.trans hb, r⟩, q⟩
theorem MapF.drew (h : MapF w P k b n m f) : MapF w.drew P k b n m f := h.same rfl
theorem MapF.kept {w' : World} {row : Option Nat} (h : MapF w P k b n m f) (hg : w.grownBy w' row) (hne : some b ≠ row) : MapF w' P k b n m f := h.same (hg.block b h.lt hne)
theorem MapF.alloc (h : MapF w P k b n m f) (o : Obj) : MapF (w.alloc o) P k b n m f := h.kept (World.grownBy_alloc w o none) (by simp)
theorem MapF.look (h : MapF w P k b n m f) (K : Keyed P k) (ht : P.underlying t = some (.map k e)) {z : Value} (hz : (zeroValue e).run P w = .ok z w) {key : Value} {kl : Lit} (hkey : keyOf P k key = some kl) :
    (Instr.lookup t (.map (some b)) key true).run P w = .ok (.tuple #[(f key).getD z, .bool (f key).isSome]) w := by
  obtain ⟨D, h, _, hf⟩ := h
  obtain ⟨h1, h2⟩ := hf key kl hkey
  obtain ⟨v, ps, hrun, hv⟩ := h.look_ok K ht hz (zd := .held z) (zp := []) rfl hkey
  rw [hrun, h1]
  cases hk : f key with
  | some u =>
    rw [h2 u hk] at hv
    cases hv
    rfl
  | none =>
    rw [hk] at h1
    rw [Maps.atKey_of_not_has h1] at hv
    cases hv
    rfl
theorem MapF.look1 (h : MapF w P k b n m f) (K : Keyed P k) (ht : P.underlying t = some (.map k e)) {z : Value} (hz : (zeroValue e).run P w = .ok z w) {key : Value} {kl : Lit} (hkey : keyOf P k key = some kl) :
    (Instr.lookup t (.map (some b)) key false).run P w = .ok ((f key).getD z) w := by
  obtain ⟨D, h, _, hf⟩ := h
  obtain ⟨h1, h2⟩ := hf key kl hkey
  obtain ⟨v, ps, hrun, hv⟩ := h.lookup K ht hz (zd := .held z) (zp := []) rfl hkey
  rw [hrun]
  cases hk : f key with
  | some u =>
    rw [h2 u hk] at hv
    cases hv
    rfl
  | none =>
    rw [hk] at h1
    rw [Maps.atKey_of_not_has h1] at hv
    cases hv
    rfl
theorem MapF.len (h : MapF w P k b n m f) (ht : P.underlying t = some (.map k e)) (ty : TypeId) : (Builtin.len_ #[t] ty #[.map (some b)]).run P w = .ok (.int .i64 m) w := by
  obtain ⟨D, h, hs, _⟩ := h
  rw [h.len ht, hs]
theorem MapF.store (h : MapF w P k b n m f) (K : Keyed P k) (ht : P.underlying t = some (.map k e)) (hn : n < maxLen) {key v : Value} {kl : Lit} (hkey : keyOf P k key = some kl)
    (f' : Value → Option Value) (h1 : f' key = some v) (h2 : ∀ x, x ≠ key → f' x = f x) :
    ∃ w', (Instr.mapUpdate t (.map (some b)) key v).run P w = .ok () w' ∧ MapF w' P k b (n + 1) (if (f key).isSome then m else m + 1) f' ∧ w.mapTurned w' b := by
  obtain ⟨D, h, hs, hf⟩ := h
  obtain ⟨w', hrun, ho, ht'⟩ := h.store K ht hn hkey (val := v) (d := .held v) (ps := []) rfl
  have hm := h.isMap
  have htd := h.tidy K
  refine ⟨w', hrun, ⟨_, ho, ?_, fun x xl hx => ?_⟩, ht'⟩
  · rw [Maps.size_put htd, hs, (hf key kl hkey).1]
  · by_cases hxk : x = key
    · subst hxk
      rw [hkey] at hx
      cases hx
      refine ⟨by rw [Maps.has_put_same hm (K.key hkey), h1]; rfl, fun u hu z => ?_⟩
      rw [h1] at hu
      cases hu
      exact Maps.atKey_put_same hm (K.key hkey) _ _
    · have hne : xl ≠ kl := fun e => hxk (K.inj hx (e ▸ hkey))
      rw [h2 x hxk]
      obtain ⟨g1, g2⟩ := hf x xl hx
      exact ⟨by rw [Maps.has_put_other hne]; exact g1, fun u hu z => by rw [Maps.atKey_put_other hne]; exact g2 u hu z⟩
/-- What a map's store turns. -/
theorem turned_block {w w' : World} {b : Nat} (h : w.mapTurned w' b) (j : Nat) (hj : j < w.heap.size) (hne : j ≠ b) : w'.heap[j]? = w.heap[j]? := h.grown.block j hj (fun e => hne (by cases e; rfl))
end Go.Proofs.Ytonmollpimoaoaa.MapF
