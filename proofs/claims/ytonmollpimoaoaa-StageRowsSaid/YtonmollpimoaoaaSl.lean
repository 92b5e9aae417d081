/- StageFull: what it leans on. -/
import Derived.Test.YtonmollpimoaoaaSk
namespace Go.Proofs.Ytonmollpimoaoaa.Sa
open Go.RowKit Go.Proofs.Ytonmollpimoaoaa.Stg Go.Proofs.YtonmollpimoaoaaW.PrintWords Go.Proofs.YtonmollpimoaoaaW.PrintLast Go.Proofs.YtonmollpimoaoaaW.PrintMore Go.Proofs.Ytonmollpimoaoaa.PStageTells
set_option linter.unusedVariables false
set_option linter.unusedSimpArgs false
theorem fl41_at : ∀ (l : List S41) (j : Nat), j < l.length → (fl41 l)[j * 3]? = some (.int .i32 (l.getD j z41).f0) ∧ (fl41 l)[j * 3 + 1]? = some (.int .i32 (l.getD j z41).f1) ∧ (fl41 l)[j * 3 + 2]? = some (.int .i64 (l.getD j z41).f2)
  | [], j, h => by simp at h
  | x :: t, 0, _ => ⟨rfl, rfl, rfl⟩
  | x :: t, j + 1, h => by
    have := fl41_at t j (by simpa using h)
    rw [show (j + 1) * 3 = j * 3 + 3 by omega]
    exact this
theorem fl41_set : ∀ (l : List S41) (j : Nat) (x : S41), (((fl41 l).set (j * 3) (.int .i32 x.f0)).set (j * 3 + 1) (.int .i32 x.f1)).set (j * 3 + 2) (.int .i64 x.f2) = fl41 (l.set j x)
  | [], j, x => rfl
  | y :: t, 0, x => rfl
  | y :: t, j + 1, x => by
    have := fl41_set t j x
    rw [show (j + 1) * 3 = j * 3 + 3 by omega]
    show _ :: _ :: _ :: _ = fl41 (y :: t.set j x)
    simp only [fl41]
    rw [← this]
theorem fl41_setA (l : List S41) (j : Nat) (x : S41) : ((((fl41 l).toArray.setIfInBounds (j * 3) (.int .i32 x.f0)).setIfInBounds (j * 3 + 1) (.int .i32 x.f1)).setIfInBounds (j * 3 + 2) (.int .i64 x.f2)) = (fl41 (l.set j x)).toArray := by
  rw [← fl41_set]
  simp
theorem fl41_set0 (l : List S41) (v : Int) : (fl41 l).toArray.setIfInBounds 0 (.int .i32 v) = (fl41 (match l with | [] => [] | x :: t => ⟨v, x.f1, x.f2⟩ :: t)).toArray := by
  cases l with
  | nil => rfl
  | cons x t => simp [fl41]
theorem fl41_rep : ∀ k : Nat, (fl41 (List.replicate k z41)) = (List.range (k * 3)).map fun i => (#[Value.int .i32 0, .int .i32 0, .int .i64 0] : Array Value)[i % 3]! := by
  intro k
  apply List.ext_getElem?
  intro i
  rw [List.getElem?_map]
  by_cases h : i < k * 3
  · rw [List.getElem?_range h]
    have hl : i / 3 < (List.replicate k z41).length := by rw [List.length_replicate]; omega
    obtain ⟨a0, a1, a2⟩ := fl41_at (List.replicate k z41) (i / 3) hl
    have hz : (List.replicate k z41).getD (i / 3) z41 = z41 := by
      rw [List.getD_eq_getElem?_getD, List.getElem?_replicate]
      split <;> rfl
    rw [hz] at a0 a1 a2
    have h3 : i % 3 = 0 ∨ i % 3 = 1 ∨ i % 3 = 2 := by omega
    rcases h3 with e | e | e
    · rw [show i = i / 3 * 3 by omega, a0]
      simp [z41]
    · rw [show i = i / 3 * 3 + 1 by omega, a1]
      simp [z41, Nat.add_mod]
    · rw [show i = i / 3 * 3 + 2 by omega, a2]
      simp [z41, Nat.add_mod]
  · rw [List.getElem?_eq_none (by rw [fl41_len, List.length_replicate]; omega), List.getElem?_eq_none (by simp; omega)]
    rfl
theorem info41b : (Try.prog.info? 41).map (fun i => (i.zero, i.size, i.bytes)) = some (some (.agg #[.int .i32 0, .int .i32 0, .int .i64 0]), 3, 16) := by kernel_rfl
theorem make41_run (W : World) (k : Nat) (hk : k ≤ 10000) : (Instr.makeSlice 25 (.int .i64 (k : Int)) (.int .i64 (k : Int))).run Try.prog W = .ok (.slice (some ⟨W.heap.size, 0, none⟩) k k) (W.alloc (.cells (fl41 (List.replicate k z41)).toArray 41)) := by
  obtain ⟨i, hi, hz⟩ := Option.map_eq_some_iff.1 info41b
  simp only [Prod.mk.injEq] at hz
  obtain ⟨hz, hs, hb⟩ := hz
  have := run_makeSlice (P := Try.prog) W 25 41 i _ Try.underlying25 hi hz .i64 .i64 (k : Int) (k : Int) (by omega) (by omega) (by rw [hs]; omega) (by rw [hb]; omega) (by omega)
  rw [this, hs, Int.toNat_natCast]
  have e : madeCells (Value.cells (.agg #[.int .i32 0, .int .i32 0, .int .i64 0])) (k * 3) = (fl41 (List.replicate k z41)).toArray := by
    apply Array.toList_inj.1
    rw [List.toList_toArray, fl41_rep, madeCells, Array.toList_map, Array.toList_range]
    rfl
  rw [e]
theorem make41_exec {a : Act} {oo : Oper} {x y : Operand} (ho : oo.op = .makeSlice 25 x y) (W : World) (k : Nat) (hx : a.eval x = .int .i64 (k : Int)) (hy : a.eval y = .int .i64 (k : Int)) (hk : k ≤ 10000) : (execOp a.eval oo).run Try.prog W = .ok (.value (.slice (some ⟨W.heap.size, 0, none⟩) k k)) (W.alloc (.cells (fl41 (List.replicate k z41)).toArray 41)) := by
  unfold execOp
  simp only [ho, hx, hy, Sem.run_bind, make41_run W k hk, Result.andThen_ok, Sem.run_pure]
/-- The rows of StageFull. -/
def rw1 (i : Nat) : S41 := ⟨2 * (i : Int), 2 * (i : Int), 1⟩
def rwJ (k j : Nat) : List S41 := (List.range' 0 j).map rw1 ++ List.replicate (k - j) z41
theorem rwJ_len {k j : Nat} (h : j ≤ k) : (rwJ k j).length = k := by unfold rwJ; simp; omega
theorem rwJ_set (k j : Nat) (h : j < k) : (rwJ k j).set j (rw1 j) = rwJ k (j + 1) := by
  obtain ⟨m, hm⟩ : ∃ m, k - j = m + 1 := ⟨k - j - 1, by omega⟩
  unfold rwJ
  rw [hm, show k - (j + 1) = m by omega, List.set_append_right _ _ (by simp), List.length_map, List.length_range', Nat.sub_self, List.replicate_succ, List.set_cons_zero, List.range'_concat, List.map_append, List.append_assoc]
  simp
theorem rwJ_end (k : Nat) : rwJ k k = (List.range' 0 k).map rw1 := by unfold rwJ; simp
theorem chk_rw : ∀ (m i : Nat) (last : Int), last < 2 * (i : Int) → i + m ≤ 500000 → chk last ((List.range' i m).map rw1) = 0
  | 0, _, _, _, _ => rfl
  | m + 1, i, last, h, h2 => by
    rw [List.range'_succ, List.map_cons, chk, if_neg (by show ¬ (2 * (i : Int) < 0 ∨ 2 * (i : Int) < 2 * (i : Int) ∨ 2 * (i : Int) > 1114111); omega), if_neg (by show ¬ 2 * (i : Int) ≤ last; omega)]
    exact chk_rw m (i + 1) _ (by show 2 * (i : Int) < _; omega) (by omega)
theorem val_all (o v : Int) : ∀ (l : List Row3) (r : Nat), (∀ x ∈ l, x.2.2 = v) → (∃ x ∈ l, x.1 ≤ r ∧ r ≤ x.2.1) → val o l r = v
  | [], _, _, h => by obtain ⟨x, hx, _⟩ := h; cases hx
  | x :: t, r, hv, h => by
    show (if _ then _ else _) = _
    by_cases e : x.1 ≤ r ∧ r ≤ x.2.1
    · rw [if_pos e]; exact hv x (List.mem_cons_self ..)
    · rw [if_neg e]
      refine val_all o v t r (fun y hy => hv y (List.mem_cons_of_mem _ hy)) ?_
      obtain ⟨y, hy, hr⟩ := h
      rcases List.mem_cons.1 hy with rfl | hy
      · exact absurd hr e
      · exact ⟨y, hy, hr⟩
theorem getS_val (o : Int) (xs : List S41) (hk : chkS xs = 0) (r : Int) (h0 : 0 ≤ r) (h1 : r ≤ 1114111) : getS o (build o (rows3 xs)) r = val o (rows3 xs) r.toNat := by
  have hk2 : chk (-1) xs = 0 := by
    unfold chkS at hk
    split at hk
    · cases hk
    · exact hk
  have hg := (chk_good xs (-1) (by decide) hk2).1
  have hb := build_get o (rows3 xs) hg r.toNat (by omega)
  unfold getS
  rw [if_neg (by omega), ← hb, show (r / 256).toNat = r.toNat / 256 by omega, show (r % 256).toNat = r.toNat % 256 by omega]
theorem full_get (k : Nat) (hk : 1 ≤ k) (hk2 : k ≤ 4096) : chkS (rwJ k k) = 0 ∧ getS 0 (build 0 (rows3 (rwJ k k))) (2 * (k : Int) - 2) = 1 ∧ getS 0 (build 0 (rows3 (rwJ k k))) (2 * (k : Int) - 1) = 0 := by
  have hc : chkS (rwJ k k) = 0 := by
    unfold chkS
    rw [rwJ_len (Nat.le_refl k), if_neg (by omega), rwJ_end]
    exact chk_rw k 0 (-1) (by omega) (by omega)
  have hm : ∀ x ∈ rows3 (rwJ k k), ∃ i, i < k ∧ x = (2 * i, 2 * i, 1) := by
    intro x hx
    unfold rows3 at hx
    rw [rwJ_end] at hx
    obtain ⟨y, hy, rfl⟩ := List.mem_map.1 hx
    obtain ⟨i, hi, rfl⟩ := List.mem_map.1 hy
    have := List.mem_range'.1 hi
    obtain ⟨i', h1, rfl⟩ := this
    refine ⟨0 + 1 * i', by omega, ?_⟩
    unfold row3 rw1
    simp only
    have e : (2 * ((0 + 1 * i' : Nat) : Int)).toNat = 2 * (0 + 1 * i') := by omega
    rw [e]
  refine ⟨hc, ?_, ?_⟩
  · rw [getS_val 0 _ hc _ (by omega) (by omega)]
    refine val_all 0 1 _ _ (fun x hx => ?_) ⟨row3 (rw1 (k - 1)), ?_, ?_, ?_⟩
    · obtain ⟨i, _, rfl⟩ := hm x hx; rfl
    · unfold rows3
      rw [rwJ_end]
      exact List.mem_map.2 ⟨_, List.mem_map.2 ⟨k - 1, List.mem_range'.2 ⟨k - 1, by omega, by omega⟩, rfl⟩, rfl⟩
    · show (2 * ((k - 1 : Nat) : Int)).toNat ≤ _; omega
    · show _ ≤ (2 * ((k - 1 : Nat) : Int)).toNat; omega
  · rw [getS_val 0 _ hc _ (by omega) (by omega)]
    refine val_none 0 _ _ ?_
    rintro ⟨x, hx, h1, h2⟩
    obtain ⟨i, hi, rfl⟩ := hm x hx
    simp only at h1 h2
    omega
end Go.Proofs.Ytonmollpimoaoaa.Sa
