/- The maker's words. -/
import Derived.Test.YtonmollpimoaoaaSa
namespace Go.Proofs.Ytonmollpimoaoaa.Sa
open Go.RowKit Go.Maps Go.Proofs.Ytonmollpimoaoaa.MapF Go.Proofs.Ytonmollpimoaoaa.Stg Go.Proofs.YtonmollpimoaoaaW.PrintWords Go.Proofs.YtonmollpimoaoaaW.PrintLast Go.Proofs.YtonmollpimoaoaaW.PrintMore
set_option linter.unusedVariables false
set_option linter.unusedSimpArgs false
theorem laidOut : laidOutB Try.prog = true := by kernel_rfl
theorem row56 : (56 : TypeId) < Try.prog.types.size := of_decide_eq_true (by kernel_rfl)
theorem cells56 : Try.prog.cellsOf 56 = 256 := by kernel_rfl
theorem cells3 : Try.prog.cellsOf 3 = 1 := by kernel_rfl
theorem wide56 : (match Try.prog.underlying 56 with | some (.array _ _) | some (.struct _) => true | _ => false) = true := by rw [Try.underlying56]
theorem K56 : Keyed Try.prog 56 := Keyed.of_law (deep_law_laid laidOut (m := 2) (by omega) row56 (by kernel_rfl) wide56)
theorem type56 : Try.prog.keyType 56 = true := by kernel_rfl
theorem mapM_some {α β : Type} (f : α → Option β) : ∀ l : List α, (∀ i ∈ l, ∃ y, f i = some y) → ∃ ys, l.mapM f = some ys
  | [], _ => ⟨[], rfl⟩
  | x :: t, h => by
    obtain ⟨y, hy⟩ := h x (List.mem_cons_self ..)
    obtain ⟨ys, hys⟩ := mapM_some f t (fun i hi => h i (List.mem_cons_of_mem _ hi))
    exact ⟨y :: ys, by rw [List.mapM_cons, hy, hys]; rfl⟩
def Wf (b : List Int) : Prop := ∀ x ∈ b, (Lit.int .i64 x).wf = true
theorem key56 {b : List Int} (hl : b.length = 256) (hw : Wf b) : ∃ kl, keyOf Try.prog 56 (.agg (nA b)) = some kl := by
  obtain ⟨d, hd⟩ : ∃ d, Try.prog.types.size = d + 1 := ⟨Try.prog.types.size - 1, (Nat.succ_pred_eq_of_pos (Nat.lt_of_le_of_lt (Nat.zero_le _) row56)).symm⟩
  unfold keyOf
  rw [Try.underlying56]
  simp only
  have hf : (Value.agg (nA b)).formed Try.prog 56 = true := by simp [Value.formed, Try.underlying56, cells56, nA_size, hl]
  rw [type56, hf, hd, if_pos (by rfl)]
  have hcl : (Value.agg (nA b)).cells.toList = b.map (Value.int .i64) := by simp [Value.cells, nA]
  rw [hcl]
  have : ∃ ys, Program.keyLits Try.prog (d + 1 + 1) 56 (b.map (Value.int .i64)) = some ys := by
    unfold Program.keyLits
    rw [Try.underlying56]
    simp only
    rw [if_pos (by rw [cells56, List.length_map, hl]), cells3]
    obtain ⟨ys, hy⟩ := mapM_some (fun i => Try.prog.keyLits (d + 1) 3 (((b.map (Value.int .i64)).drop (i * 1)).take 1)) (List.range 256) (fun i hi => by
      have hi := List.mem_range.1 hi
      refine ⟨[.int .i64 b[i]], ?_⟩
      have : ((b.map (Value.int .i64)).drop (i * 1)).take 1 = [.int .i64 b[i]] := by
        rw [Nat.mul_one, List.drop_eq_getElem_cons (by simpa using (by omega : i < b.length)), List.take_succ_cons, List.take_zero, List.getElem_map]
      rw [this]
      unfold Program.keyLits
      rw [Try.underlying3]
      simp only
      rw [if_pos ⟨by first | rfl | trivial, hw _ (List.getElem_mem _)⟩])
    exact ⟨ys.flatten, by rw [hy]; rfl⟩
  obtain ⟨ys, hy⟩ := this
  exact ⟨_, by rw [hy]; rfl⟩
def k56 : Kd (List Int) := Kd.arr 256 (Kd.int .i64) (by decide)
theorem k56_mk (w : World) (base : Nat) (ok : Nat → Prop) {b : List Int} (h : b.length = 256) : k56.M w base ok b (nA b).toList := by
  have := Kd.arr_of_cells (enc := Value.int .i64) (h1 := fun _ => rfl) (hs := by decide) (w := w) (base := base) (ok := ok) h
  have e : (nA b).toList = encs (Value.int .i64) b := by simp [nA, encs]
  rw [e]
  exact this
theorem k56_open {w : World} {b : List Int} {cs : List Value} (h : k56.K w b cs) : b.length = 256 ∧ cs = (nA b).toList := by
  have := Kd.arr_cells (enc := Value.int .i64) (h1 := fun _ => rfl) (hs := by decide) h
  simpa [nA, encs] using this
/-- Numbers of blocks as a row's cells. -/
def uA (l : List Nat) : Array Value := (l.map fun (x : Nat) => Value.int .u16 (x : Int)).toArray
theorem uA_size (l : List Nat) : (uA l).size = l.length := by simp [uA]
theorem uA_set (l : List Nat) (j v : Nat) : (uA l).setIfInBounds j (.int .u16 (v : Int)) = uA (l.set j v) := by
  unfold uA
  simp [List.map_set]
theorem uA_get (l : List Nat) (j : Nat) (h : j < l.length) : (uA l)[j]? = some (.int .u16 ((l.getD j 0 : Nat) : Int)) := by
  unfold uA
  simp [List.getD_eq_getElem?_getD, List.getElem?_eq_getElem h]
theorem nA_inj {a b : List Int} (h : nA a = nA b) : a = b := by
  unfold nA at h
  have h2 := List.toArray_inj h
  clear h
  induction a generalizing b with
  | nil => cases b with
    | nil => rfl
    | cons y t => simp at h2
  | cons x s ih => cases b with
    | nil => simp at h2
    | cons y t =>
      simp only [List.map_cons, List.cons.injEq, Value.int.injEq, true_and] at h2
      rw [h2.1, ih h2.2]
open Classical in
/-- What 'seen' tells. -/
noncomputable def seenF (bs : List (List Int)) (v : Value) : Option Value := if h : ∃ b, b ∈ bs ∧ v = .agg (nA b) then some (.int .u16 ((bs.idxOf (Classical.choose h) : Nat) : Int)) else none
theorem agg_inj {a b : List Int} (h : Value.agg (nA a) = .agg (nA b)) : a = b := by
  injection h with h
  exact nA_inj h
theorem seenF_of {bs : List (List Int)} {b : List Int} {v : Value} (h : b ∈ bs) (hv : v = .agg (nA b)) : seenF bs v = some (.int .u16 ((bs.idxOf b : Nat) : Int)) := by
  have hh : ∃ b, b ∈ bs ∧ v = .agg (nA b) := ⟨b, h, hv⟩
  unfold seenF
  rw [dif_pos hh]
  have := (Classical.choose_spec hh).2
  rw [show Classical.choose hh = b from agg_inj (this.symm.trans hv)]
theorem seenF_none {bs : List (List Int)} {v : Value} (h : ¬ ∃ b, b ∈ bs ∧ v = .agg (nA b)) : seenF bs v = none := by
  unfold seenF
  rw [dif_neg h]
theorem seenF_old {bs : List (List Int)} {b : List Int} (h : b ∈ bs) : seenF bs (.agg (nA b)) = some (.int .u16 ((bs.idxOf b : Nat) : Int)) := seenF_of h rfl
theorem seenF_new {bs : List (List Int)} {b : List Int} (h : b ∉ bs) : seenF bs (.agg (nA b)) = none := seenF_none (fun ⟨c, hc, e⟩ => h (agg_inj e ▸ hc))
theorem idx_last {bs : List (List Int)} {b : List Int} (h : b ∉ bs) : (bs ++ [b]).idxOf b = bs.length := by
  rw [List.idxOf_append, if_neg h]
  simp
theorem seenF_add {bs : List (List Int)} {b : List Int} (h : b ∉ bs) : seenF (bs ++ [b]) (.agg (nA b)) = some (.int .u16 ((bs.length : Nat) : Int)) := by
  rw [seenF_old (List.mem_append_right _ (List.mem_singleton.2 rfl)), idx_last h]
theorem seenF_other {bs : List (List Int)} {b : List Int} (x : Value) (hx : x ≠ .agg (nA b)) : seenF (bs ++ [b]) x = seenF bs x := by
  by_cases h : ∃ c, c ∈ bs ∧ x = .agg (nA c)
  · obtain ⟨c, hc, e⟩ := h
    rw [seenF_of hc e, seenF_of (List.mem_append_left _ hc) e, List.idxOf_append, if_pos hc]
  · rw [seenF_none h, seenF_none]
    rintro ⟨c, hc, e⟩
    rcases List.mem_append.1 hc with hc | hc
    · exact h ⟨c, hc, e⟩
    · rw [List.mem_singleton.1 hc] at e
      exact hx e
/-- Blocks, one behind the other. -/
def flatB (bs : List (List Int)) : List Value := bs.flatMap fun b => (nA b).toList
theorem flatB_snoc (bs : List (List Int)) (b : List Int) : flatB (bs ++ [b]) = flatB bs ++ (nA b).toList := by
  unfold flatB
  rw [List.flatMap_append]
  simp
theorem flatB_get : ∀ (bs : List (List Int)), (∀ b ∈ bs, b.length = 256) → ∀ (k i : Nat), k < bs.length → i < 256 → (flatB bs)[k * 256 + i]? = some (.int .i64 ((bs.getD k []).getD i 0))
  | [], _, k, _, h, _ => by simp at h
  | b :: t, hl, k, i, h, hi => by
    have hb := hl b (List.mem_cons_self ..)
    have e : flatB (b :: t) = (nA b).toList ++ flatB t := by unfold flatB; rw [List.flatMap_cons]
    have el : (nA b).toList.length = 256 := by rw [Array.length_toList, nA_size, hb]
    rw [e]
    cases k with
    | zero =>
      rw [Nat.zero_mul, Nat.zero_add, List.getElem?_append_left (by omega)]
      have := nA_get b i (by omega)
      rw [Array.getElem?_toList, this]
      rfl
    | succ k =>
      rw [List.getElem?_append_right (by omega), el, show (k + 1) * 256 + i - 256 = k * 256 + i by omega]
      exact flatB_get t (fun x hx => hl x (List.mem_cons_of_mem _ hx)) k i (by simpa using h) hi
/-- The world of a maker. -/
structure Mk (W : World) (base M TB IX SM : Nat) (bv : Value) (o : Int) (s : St) : Prop where
  hm : W.heap[M]? = some (.cells (#[.pointer (some ⟨TB, 0, none⟩), .map (some SM), .int .i64 (s.cur : Int)] ++ nA s.now) 58 (0, 0))
  ht : W.heap[TB]? = some (.cells #[.slice (some ⟨IX, 0, none⟩) 4352 4352, bv, .int .i64 o] 54 (0, 0))
  hr : W.ownsRow base 56 256 bv s.blks.length (flatB s.blks)
  hx : W.heap[IX]? = some (.cells (uA s.idx) 39 (0, 0))
  hs : ∃ m, MapF W Try.prog 56 SM s.blks.length m (seenF s.blks)
  bM : base ≤ M
  bT : base ≤ TB
  bI : base ≤ IX
  bS : base ≤ SM
  ln : s.now.length = 256
  wn : Wf s.now
  li : s.idx.length = 4352
/-- What a maker's steps keep. -/
structure Fr (base : Nat) (W W' : World) : Prop where
  below : Below base W W'
  others : ∀ (k : Nat) (c : Array Value) (t : TypeId), W.heap[k]? = some (.cells c t (0, 0)) → t ≠ 58 → t ≠ 54 → t ≠ 39 → t ≠ 56 → W'.heap[k]? = some (.cells c t (0, 0))
theorem Fr.refl (base : Nat) (W : World) : Fr base W W := ⟨Below.refl _ _, fun _ _ _ h _ _ _ _ => h⟩
theorem Fr.trans {base : Nat} {W W' W'' : World} (h : Fr base W W') (k : Fr base W' W'') (hb : base ≤ W.heap.size) : Fr base W W'' :=
  ⟨⟨k.below.os.trans h.below.os, k.below.tape.trans h.below.tape, k.below.output.trans h.below.output, Nat.le_trans h.below.size k.below.size, fun i hi => (k.below.block i hi).trans (h.below.block i hi)⟩, fun b c t hc a1 a2 a3 a4 => k.others b c t (h.others b c t hc a1 a2 a3 a4) a1 a2 a3 a4⟩
end Go.Proofs.Ytonmollpimoaoaa.Sa
