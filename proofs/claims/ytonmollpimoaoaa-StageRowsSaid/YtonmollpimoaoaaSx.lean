/- StageRows: all that the law asks, plain. -/
import Derived.Test.YtonmollpimoaoaaSw
namespace Go.Proofs.Ytonmollpimoaoaa.Sa
open Go.RowKit Go.Proofs.Ytonmollpimoaoaa.Stg Go.Proofs.YtonmollpimoaoaaW.PrintWords Go.Proofs.Ytonmollpimoaoaa.PStageTells
set_option linter.unusedVariables false
set_option linter.unusedSimpArgs false
theorem chk_of {xs : List S41} (hk : chkS xs = 0) : chk (-1) xs = 0 := by
  unfold chkS at hk
  split at hk
  · cases hk
  · exact hk
/-- What is known of a table that was built. -/
structure Bt (o : Int) (V : Nat → Int) (s : St) : Prop where
  li : s.idx.length = 4352
  ic : ∀ b, s.idx.getD b 0 < s.blks.length
  lb : ∀ x ∈ s.blks, x.length = 256
  nd : s.blks.Nodup
  b0 : s.blks.getD 0 [] = rep o
  bp : 0 < s.blks.length
  vl : ∀ r, r < 1114112 → (s.blks.getD (s.idx.getD (r / 256) 0) []).getD (r % 256) 0 = V r
theorem build_bt (o : Int) (xs : List S41) (hk : chkS xs = 0) : Bt o (val o (rows3 xs)) (build o (rows3 xs)) := by
  have hg := (chk_good xs (-1) (by decide) (chk_of hk)).1
  obtain ⟨⟨c, hI⟩, _⟩ := fold_ok o (rows3 xs) (st0 o) 0 hg (st0_inv o)
  have hb := addB_le (((rows3 xs).foldl (layR o) (st0 o)).blks) (((rows3 xs).foldl (layR o) (st0 o)).now)
  refine ⟨?_, fun b => ?_, fun x hx => ?_, (build_nd o _).1, ?_, ?_, fun r hr => build_get o (rows3 xs) hg r hr⟩
  · show (List.set _ _ _).length = _
    rw [List.length_set]
    exact hI.li
  · show (List.set _ _ _).getD b 0 < (addB _ _).length
    rw [set_getD]
    split
    · exact addB_lt _ _
    · exact Nat.lt_of_lt_of_le (hI.ic b) hb.1
  · rcases addB_mem _ _ _ hx with h | h
    · exact hI.lb x h
    · rw [h]; exact hI.ln
  · show (addB _ _).getD 0 [] = _
    rw [addB_old _ _ _ hI.bp]
    exact hI.b0
  · exact Nat.lt_of_lt_of_le hI.bp hb.1
theorem nd_get {bs : List (List Int)} (h : bs.Nodup) {i j : Nat} (hi : i < bs.length) (hj : j < bs.length) (e : bs.getD i [] = bs.getD j []) : i = j := by
  rw [List.getD_eq_getElem?_getD, List.getD_eq_getElem?_getD, List.getElem?_eq_getElem hi, List.getElem?_eq_getElem hj] at e
  exact (List.getElem_inj h).1 e
theorem ext256 {a b : List Int} (ha : a.length = 256) (hb : b.length = 256) (h : ∀ i, i < 256 → a.getD i 0 = b.getD i 0) : a = b := by
  apply List.ext_getElem (by rw [ha, hb])
  intro i h1 h2
  have := h i (by omega)
  rw [List.getD_eq_getElem?_getD, List.getD_eq_getElem?_getD, List.getElem?_eq_getElem h1, List.getElem?_eq_getElem h2] at this
  exact this
theorem getD_mem {bs : List (List Int)} {i : Nat} (h : i < bs.length) : bs.getD i [] ∈ bs := by
  rw [List.getD_eq_getElem?_getD, List.getElem?_eq_getElem h]
  exact List.getElem_mem _
theorem Bt.same {o : Int} {V : Nat → Int} {s : St} (h : Bt o V s) (i j : Nat) (hi : i < 4352) (hj : j < 4352) : s.idx.getD i 0 = s.idx.getD j 0 ↔ ∀ k, k < 256 → V (256 * i + k) = V (256 * j + k) := by
  have gi : ∀ (i : Nat), i < 4352 → ∀ k, k < 256 → (s.blks.getD (s.idx.getD i 0) []).getD k 0 = V (256 * i + k) := fun i hi k hk => by
    have := h.vl (256 * i + k) (by omega)
    rw [show (256 * i + k) / 256 = i by omega, show (256 * i + k) % 256 = k by omega] at this
    exact this
  refine ⟨fun e k hk => ?_, fun e => ?_⟩
  · rw [← gi i hi k hk, ← gi j hj k hk, e]
  · refine nd_get h.nd (h.ic i) (h.ic j) (ext256 (h.lb _ (getD_mem (h.ic i))) (h.lb _ (getD_mem (h.ic j))) (fun k hk => ?_))
    rw [gi i hi k hk, gi j hj k hk]
    exact e k hk
theorem val_wf (o : Int) (ho : (Lit.int .i64 o).wf = true) : ∀ (l : List Row3) (r : Nat), (∀ x ∈ l, (Lit.int .i64 x.2.2).wf = true) → (Lit.int .i64 (val o l r)).wf = true
  | [], _, _ => ho
  | x :: t, r, h => by
    show (Lit.int .i64 (if _ then _ else _)).wf = true
    split
    · exact h x (List.mem_cons_self ..)
    · exact val_wf o ho t r (fun y hy => h y (List.mem_cons_of_mem _ hy))
theorem map47 (ls : List S35) (h : ∀ x ∈ ls, Ok35 x) : (ls.map to41).map g47 = ls.map to47 := by
  rw [List.map_map]
  apply List.map_congr_left
  intro x hx
  obtain ⟨h1, h2, h3⟩ := h x hx
  show (⟨x.f0, x.f1, wrap64 x.f2⟩ : S47) = ⟨wrap64 x.f0, wrap64 x.f1, wrap64 x.f2⟩
  rw [w64 (x := x.f0) (by omega), w64 (x := x.f1) (by omega)]
/-- All that the law asks. -/
structure Law5 (o : Int) (ls : List S35) (s u : St) (got : List S41) (want : List S47) : Prop where
  rows : rowsS o s 4352 = got
  few : (ls.map to47).foldl (fewV o) [] = want
  eq : got.map g47 = want
  len : got.length ≤ 60
  ck : chkS got = 0
  wf : ∀ x ∈ got, (Lit.int .i64 x.f2).wf = true
  bu : build o (rows3 got) = u
  gt : ∀ r : Int, 0 ≤ r → r ≤ 1114111 → getS o u r = getS o s r
  bs : dcS s.idx [] ≤ 3 * ls.length + 1
  b1 : 1 ≤ dcS s.idx []
  be : dcS u.idx [] = dcS s.idx []
  ns : s.blks.length < 65536
  nu : u.blks.length < 65536
  gr : ∀ x ∈ got, (0 ≤ x.f0 ∧ x.f0 ≤ 1114111) ∧ (0 ≤ x.f1 ∧ x.f1 ≤ 1114111)
  rg : ∀ x ∈ ls, (0 ≤ x.f0 ∧ x.f0 ≤ 1114111) ∧ (0 ≤ x.f1 ∧ x.f1 ≤ 1114111)
theorem law5 (o : Int) (ls : List S35) (hok : ∀ x ∈ ls, Ok35 x) (ho : (Lit.int .i64 o).wf = true) (hl : ls.length ≤ 60) (hk : chkS (ls.map to41) = 0) :
    ∃ u got want, Law5 o ls (build o (rows3 (ls.map to41))) u got want := by
  obtain ⟨xs, hxs⟩ : ∃ xs, xs = ls.map to41 := ⟨_, rfl⟩
  have hg47 := map47 ls hok
  rw [← hxs] at hk hg47 ⊢
  have hxl : xs.length = ls.length := by rw [hxs, List.length_map]
  have hbt := build_bt o xs hk
  have hgs : ∀ r : Nat, r < 1114112 → getS o (build o (rows3 xs)) ((r : Nat) : Int) = val o (rows3 xs) r := fun r hr => by
    rw [getS_val o xs hk r (by omega) (by omega), Int.toNat_natCast]
  have hrows : rowsS o (build o (rows3 xs)) 4352 = foldR o (val o (rows3 xs)) 1114112 :=
    rows_fold o (val o (rows3 xs)) _ hgs (fun b hb h0 k hk2 => by
      have := hbt.vl (256 * b + k) (by omega)
      rw [show (256 * b + k) / 256 = b by omega, show (256 * b + k) % 256 = k by omega, h0, hbt.b0, rep_getD o k hk2] at this
      exact this.symm) 4352 (Nat.le_refl _)
  have hup := up_fold o (val o (rows3 xs)) 1114112 (Nat.le_refl _)
  have hfew := foldR_few o xs (chk_of hk)
  rw [hg47] at hfew
  obtain ⟨got, hgot⟩ : ∃ got, got = foldR o (val o (rows3 xs)) 1114112 := ⟨_, rfl⟩
  rw [← hgot] at hrows hup hfew
  have hgl : got.length ≤ 60 := by
    have h1 := congrArg List.length hfew
    have h2 := few_len o (ls.map to47) []
    rw [List.length_map] at h1
    rw [List.length_map, List.length_nil] at h2
    omega
  have hck : chkS got = 0 := by
    unfold chkS
    rw [if_neg (by omega)]
    exact hup.ck
  have hbu := build_bt o got hck
  have hn1 := (build_nd o (rows3 xs)).2
  have hn2 := (build_nd o (rows3 got)).2
  have l1 : (rows3 xs).length = ls.length := by unfold rows3; rw [List.length_map, hxl]
  have l2 : (rows3 got).length = got.length := by unfold rows3; rw [List.length_map]
  rw [l1] at hn1
  rw [l2] at hn2
  refine ⟨build o (rows3 got), got, _, hrows, rfl, hfew, hgl, hck, fun x hx => ?_, rfl, fun r h0 h1 => ?_, ?_, ?_, ?_, by omega, by omega, fun x hx => by have := hup.lt x hx; omega, fun x hx => ?_⟩
  · obtain ⟨r, hr⟩ := hup.vs x hx
    rw [hr]
    refine val_wf o ho _ r (fun y hy => ?_)
    unfold rows3 at hy
    rw [hxs] at hy
    obtain ⟨z, hz, rfl⟩ := List.mem_map.1 hy
    obtain ⟨w, hw, rfl⟩ := List.mem_map.1 hz
    exact wrap64_wf _
  · rw [getS_val o got hck r h0 h1, getS_val o xs hk r h0 h1]
    exact hup.vl r.toNat (by omega)
  · refine Nat.le_trans (dcS_le _ (build o (rows3 xs)).blks.length (fun x hx => ?_)) hn1
    obtain ⟨i, hi, rfl⟩ := List.mem_iff_getElem.1 hx
    have := hbt.ic i
    rw [List.getD_eq_getElem?_getD, List.getElem?_eq_getElem hi] at this
    exact this
  · refine dcS_pos _ (fun e => ?_)
    have := hbt.li
    rw [e] at this
    cases this
  · refine dcS_same _ _ 4352 hbu.li hbt.li (fun i j hi hj => ?_)
    rw [hbu.same i j hi hj, hbt.same i j hi hj]
    refine forall_congr' fun k => ?_
    by_cases hk3 : k < 256
    · rw [hup.vl _ (by omega), hup.vl _ (by omega)]
    · exact ⟨fun _ h => absurd h hk3, fun _ h => absurd h hk3⟩
  · have hg := (chk_good xs (-1) (by decide) (chk_of hk)).2 (to41 x) (by rw [hxs]; exact List.mem_map.2 ⟨x, hx, rfl⟩)
    replace hg : 0 ≤ x.f0 ∧ x.f0 ≤ x.f1 ∧ x.f1 ≤ 1114111 := hg
    omega
end Go.Proofs.Ytonmollpimoaoaa.Sa
