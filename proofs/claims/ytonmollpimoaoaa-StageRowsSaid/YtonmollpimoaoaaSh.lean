/- A table: Get, Blocks. -/
import Derived.Test.YtonmollpimoaoaaSf
namespace Go.Proofs.Ytonmollpimoaoaa.Sa
open Go.RowKit Go.Maps Go.Proofs.Ytonmollpimoaoaa.MapF Go.Proofs.Ytonmollpimoaoaa.Stg Go.Proofs.YtonmollpimoaoaaW.PrintWords Go.Proofs.YtonmollpimoaoaaW.PrintLast Go.Proofs.YtonmollpimoaoaaW.PrintMore
set_option linter.unusedVariables false
set_option linter.unusedSimpArgs false
/-- A table in memory. -/
structure Tb (W : World) (base TB IX : Nat) (bv : Value) (o : Int) (s : St) : Prop where
  ht : W.heap[TB]? = some (.cells #[.slice (some ⟨IX, 0, none⟩) 4352 4352, bv, .int .i64 o] 54 (0, 0))
  hr : W.ownsRow base 56 256 bv s.blks.length (flatB s.blks)
  hx : W.heap[IX]? = some (.cells (uA s.idx) 39 (0, 0))
  li : s.idx.length = 4352
  ic : ∀ b, s.idx.getD b 0 < s.blks.length
  lb : ∀ b ∈ s.blks, b.length = 256
theorem Tb.after {W W' : World} {base TB IX : Nat} {bv : Value} {o : Int} {s : St} (h : Tb W base TB IX bv o s) (hb : Below W.heap.size W W') : Tb W' base TB IX bv o s :=
  ⟨blk_below h.ht hb, own_same h.hr (fun k hk => hb.block k (h.hr.lt k hk).2), blk_below h.hx hb, h.li, h.ic, h.lb⟩
/-- What Get tells. -/
def getS (o : Int) (s : St) (r : Int) : Int := if r < 0 ∨ 1114111 < r then o else (s.blks.getD (s.idx.getD (r / 256).toNat 0) []).getD (r % 256).toNat 0
set_option maxHeartbeats 4000000 in
theorem get_calls (W : World) (base TB IX : Nat) (bv : Value) (o : Int) (s : St) (h : Tb W base TB IX bv o s) (r : Int) :
    Calls Try.prog 10 #[.pointer (some ⟨TB, 0, none⟩), .int .i32 r] W fun e w' => e = .returned (.int .i64 (getS o s r)) ∧ Below W.heap.size W w' := by
  have d2 : W.cell? ⟨TB, 2, none⟩ = some (.int .i64 o) := (blk_cell h.ht 2).trans rfl
  by_cases hr : r < 0 ∨ 1114111 < r
  · rw [show getS o s r = o by unfold getS; rw [if_pos hr]]
    by_cases h1 : r < 0
    · have q1 : decide (r < 0) = true := decide_eq_true h1
      clear h hr h1
      go_enter Try.func10, Try.ntmps10
      go_wp2
      go_ret
      exact ⟨rfl, Below.refl _ _⟩
    · have q1 : decide (r < 0) = false := decide_eq_false h1
      have q2 : decide (1114111 < r) = true := decide_eq_true (hr.resolve_left h1)
      clear h hr h1
      go_enter Try.func10, Try.ntmps10
      go_wp2
      go_ret
      exact ⟨rfl, Below.refl _ _⟩
  · have q1 : decide (r < 0) = false := decide_eq_false (fun e => hr (.inl e))
    have q2 : decide (1114111 < r) = false := decide_eq_false (fun e => hr (.inr e))
    rw [show getS o s r = (s.blks.getD (s.idx.getD (r / 256).toNat 0) []).getD (r % 256).toNat 0 by unfold getS; rw [if_neg hr]]
    obtain ⟨g, cap, hbv, hg0, hg⟩ := h.hr.form (Nat.lt_of_le_of_lt (Nat.zero_le _) (h.ic 0))
    subst hbv
    have d0 : W.cell? ⟨TB, 0, none⟩ = some (.slice (some ⟨IX, 0, none⟩) 4352 4352) := (blk_cell h.ht 0).trans rfl
    have d1 : W.cell? ⟨TB, 1, none⟩ = some (.slice (some ⟨g, 0, none⟩) s.blks.length cap) := (blk_cell h.ht 1).trans rfl
    obtain ⟨qi, hqi⟩ : ∃ x, x = Int.tdiv r 256 := ⟨_, rfl⟩
    obtain ⟨rj, hrj⟩ : ∃ x, x = Int.tmod r 256 := ⟨_, rfl⟩
    have hq2 : qi = r / 256 := by rw [hqi, Int.tdiv_eq_ediv_of_nonneg (by omega)]
    have hr2 : rj = r % 256 := by rw [hrj, Int.tmod_eq_emod_of_nonneg (by omega)]
    obtain ⟨ni, hni⟩ : ∃ x : Int, x = ((s.idx.getD qi.toNat 0 : Nat) : Int) := ⟨_, rfl⟩
    have x0 : W.cell? ⟨IX, qi.toNat, none⟩ = some (.int .u16 ni) := by rw [blk_cell h.hx, uA_get _ _ (by rw [h.li]; omega), hni]
    have hlt := h.ic qi.toNat
    have hc := World.ownsRow.cellAt h.hr (ni.toNat * 256 + rj.toNat) (by omega)
    rw [flatB_get s.blks h.lb ni.toNat rj.toNat (by omega) (by omega)] at hc
    rw [← hq2, ← hr2]
    have hnn : ni.toNat = s.idx.getD qi.toNat 0 := by omega
    rw [← hnn]
    generalize ((s.blks.getD ni.toNat []).getD rj.toNat 0) = res at hc
    have n1 : Int.tdiv r 256 = qi := hqi.symm
    have n2 : Int.tmod r 256 = rj := hrj.symm
    have n3 : wrap32 qi = qi := by unfold wrap32; omega
    have p1 : (0 ≤ qi) = True := eq_true (by omega)
    have p2 : (qi < 4352) = True := eq_true (by omega)
    have p3 : (0 ≤ rj) = True := eq_true (by omega)
    have p4 : (rj < 256) = True := eq_true (by omega)
    have p5 : (0 ≤ ni) = True := eq_true (by omega)
    have p6 : (ni < (s.blks.length : Int)) = True := eq_true (by omega)
    clear h hr hg0 hg hqi hrj hq2 hr2 hni hlt hnn
    go_enter Try.func10, Try.ntmps10
    go_wp2
    go_region
    go_wp2
    go_ret
    exact ⟨rfl, by repeat (first | exact Below.refl _ _ | apply pw_below_drewN | apply below_drew1)⟩
/-! ### Blocks -/
/-- How many unlike numbers. -/
def dcS : List Nat → List Nat → Nat
  | [], seen => seen.length
  | x :: t, seen => if seen.contains x then dcS t seen else dcS t (x :: seen)
def cF (l : List Nat) : Value → Option Value
  | .int .u16 x => if 0 ≤ x ∧ x.toNat ∈ l then some (.int .i64 ((l.count x.toNat : Nat) : Int)) else none
  | _ => none
theorem K39 : Keyed Try.prog 39 := int_keyed Try.underlying39
theorem zero3 (w : World) : (zeroValue 3).run Try.prog w = .ok (.int .i64 0) w := by kernel_rfl
theorem key39 {n : Nat} (h : n < 65536) : keyOf Try.prog 39 (.int .u16 (n : Int)) = some (.int .u16 (n : Int)) := keyOf_int_mk Try.underlying39 (by
  simp [Lit.wf, IntKind.min, IntKind.max, IntKind.signed, IntKind.bits]
  omega)
theorem cF_nil : cF [] = fun _ => none := by
  funext v
  unfold cF
  split
  · simp
  · rfl
theorem cF_same (l : List Nat) (n : Nat) : cF (l ++ [n]) (.int .u16 (n : Int)) = some (.int .i64 ((l.count n + 1 : Nat) : Int)) := by
  unfold cF
  simp
theorem cF_other (l : List Nat) (n : Nat) (v : Value) (h : v ≠ .int .u16 (n : Int)) : cF (l ++ [n]) v = cF l v := by
  unfold cF
  split
  · rename_i x
    by_cases h0 : 0 ≤ x
    · have hx : x.toNat ≠ n := fun e => h (by congr 1; omega)
      have hx' : n ≠ x.toNat := fun e => hx e.symm
      simp [h0, hx, hx', List.count_append]
    · simp [h0]
  · rfl
theorem cF_get (l : List Nat) (n : Nat) : (cF l (.int .u16 (n : Int))).getD (.int .i64 0) = .int .i64 ((l.count n : Nat) : Int) ∧ (cF l (.int .u16 (n : Int))).isSome = decide (n ∈ l) := by
  unfold cF
  simp only [Int.toNat_natCast]
  by_cases h : n ∈ l
  · rw [if_pos ⟨by omega, h⟩]
    exact ⟨rfl, by simp [h]⟩
  · rw [if_neg (fun e => h e.2)]
    exact ⟨by simp [List.count_eq_zero.2 h], by simp [h]⟩
set_option maxHeartbeats 4000000 in
theorem blocks_calls (W : World) (base TB IX : Nat) (bv : Value) (o : Int) (s : St) (h : Tb W base TB IX bv o s) (hn : s.blks.length < 65536) :
    Calls Try.prog 14 #[.pointer (some ⟨TB, 0, none⟩)] W fun e w' => e = .returned (.int .i64 ((dcS s.idx [] : Nat) : Int)) ∧ Below W.heap.size W w' := by
  have HT := Aside0.mk h
  have HN := Aside0.mk hn
  obtain ⟨Fin, hF⟩ : ∃ x, x = dcS s.idx [] := ⟨_, rfl⟩
  rw [← hF]
  have HF := Aside0.mk hF
  have hm1 := below_alloc (Below.refl W.heap.size W) (.map #[] 0)
  have d0 : (W.alloc (.map #[] 0)).cell? ⟨TB, 0, none⟩ = some (.slice (some ⟨IX, 0, none⟩) 4352 4352) := (blk_cell (blk_below h.ht hm1) 0).trans rfl
  have HM1 := Aside0.mk hm1
  have hmm := @run_makeMap Try.prog
  clear h hn hF hm1
  go_enter Try.func14, Try.ntmps14
  go_wp2
  go_loopg [12] 4353 (fun kq v12 wr => ∃ (j : Nat), v12 = .int .i64 (j : Int) ∧ Aside0 (∃ seen, MapF wr Try.prog 39 W.heap.size j seen.length (cF (s.idx.take j)) ∧ (∀ x, x ∈ seen ↔ x ∈ s.idx.take j) ∧ dcS (s.idx.drop j) seen = Fin ∧ Below W.heap.size W wr ∧ j + kq = 4353 ∧ j ≤ 4352))
  case atStart => exact ⟨0, rfl, ⟨[], by rw [List.take_zero, cF_nil]; exact MapF.made W Try.prog 39, by simp, HF.out.symm, HM1.out, by omega, by omega⟩⟩
  case round =>
    obtain ⟨j, rfl, HI⟩ := hrel
    obtain ⟨seen, hm, hs, hd, hb, hk1, hk2⟩ := HI.out
    by_cases hl : j < 4352
    · have q1 : decide ((j : Int) < 4352) = true := decide_eq_true (by omega)
      obtain ⟨ji, hji⟩ : ∃ x : Int, x = ((s.idx.getD j 0 : Nat) : Int) := ⟨_, rfl⟩
      have hli := HT.out.li
      have hlt := HT.out.ic j
      have hnn := HN.out
      have x0 : wr.cell? ⟨IX, j, none⟩ = some (.int .u16 ji) := by rw [blk_cell (blk_below HT.out.hx hb), uA_get _ _ (by omega), hji]
      have hkey : keyOf Try.prog 39 (.int .u16 ji) = some (.int .u16 ji) := by rw [hji]; exact key39 (by omega)
      have hlook := hm.look1 K39 Try.underlying63 (zero3 wr) hkey
      obtain ⟨g1, g2⟩ := cF_get (s.idx.take j) (s.idx.getD j 0)
      rw [hji, g1] at hlook
      rw [← hji] at hlook
      have htake : s.idx.take (j + 1) = s.idx.take j ++ [s.idx.getD j 0] := by
        rw [List.take_add_one, List.getD_eq_getElem?_getD, List.getElem?_eq_getElem (by omega)]
        rfl
      obtain ⟨w2, hrun2, hm2, ht2⟩ := hm.store K39 Try.underlying63 (by unfold maxLen; omega) (v := .int .i64 (((s.idx.take j).count (s.idx.getD j 0) + 1 : Nat) : Int)) hkey (cF (s.idx.take (j + 1))) (by rw [htake, hji]; exact cF_same _ _) (fun v hv => by rw [htake]; exact cF_other _ _ v (by rw [← hji]; exact hv))
      have hcnt : (s.idx.take j).count (s.idx.getD j 0) ≤ 4352 := Nat.le_trans List.count_le_length (by rw [List.length_take]; omega)
      obtain ⟨ci, hci⟩ : ∃ x : Int, x = (((s.idx.take j).count (s.idx.getD j 0) : Nat) : Int) := ⟨_, rfl⟩
      have hw : wrap64 (ci + 1) = (((s.idx.take j).count (s.idx.getD j 0) + 1 : Nat) : Int) := by rw [w64 (by omega)]; omega
      rw [← hci] at hlook
      rw [← hw] at hrun2
      have hdrop : s.idx.drop j = s.idx.getD j 0 :: s.idx.drop (j + 1) := by
        rw [List.drop_eq_getElem_cons (by omega), List.getD_eq_getElem?_getD, List.getElem?_eq_getElem (by omega)]
        rfl
      rw [hdrop, dcS] at hd
      rw [hji, g2] at hm2
      have p1 : (0 ≤ (j : Int)) = True := eq_true (by omega)
      have p2 : ((j : Int) < 4352) = True := eq_true (by omega)
      have p3 : (j < 4352) = True := eq_true hl
      have hbt : Below W.heap.size W w2 := ⟨ht2.grown.os.trans hb.os, ht2.grown.tape.trans hb.tape, ht2.grown.output.trans hb.output, Nat.le_trans hb.size ht2.grown.size, fun i hi => (turned_block ht2 i (by have := hb.size; omega) (by omega)).trans (hb.block i hi)⟩
      have HX := Aside0.mk (show ∃ seen', MapF w2 Try.prog 39 W.heap.size (j + 1) seen'.length (cF (s.idx.take (j + 1))) ∧ (∀ x, x ∈ seen' ↔ x ∈ s.idx.take (j + 1)) ∧ dcS (s.idx.drop (j + 1)) seen' = Fin ∧ Below W.heap.size W w2 ∧ (j + 1) + (gk - 1) = 4353 ∧ j + 1 ≤ 4352 by
        by_cases hin : s.idx.getD j 0 ∈ s.idx.take j
        · rw [if_pos (by simpa using (hs _).2 hin)] at hd
          rw [if_pos (by simpa using hin)] at hm2
          refine ⟨seen, hm2, fun x => ?_, hd, hbt, by omega, by omega⟩
          rw [htake, List.mem_append, List.mem_singleton, hs]
          exact ⟨.inl, fun e => e.elim id (fun e => by rw [e]; exact hin)⟩
        · rw [if_neg (by intro e; exact hin ((hs _).1 (by simpa using e)))] at hd
          rw [if_neg (by simpa using hin)] at hm2
          refine ⟨s.idx.getD j 0 :: seen, hm2, fun x => ?_, hd, hbt, by omega, by omega⟩
          rw [htake, List.mem_append, List.mem_singleton, List.mem_cons, hs]
          exact Or.comm)
      have HLJ := Aside0.mk hl
      clear hm hs hd hb hk1 hk2 hji hli hlt hnn hkey g1 g2 htake hm2 ht2 hcnt hci hdrop hbt hl hw
      go_wp2
      cases gk with
      | zero => obtain ⟨_, _, _, _, _, h5, _⟩ := HI.out; have := HLJ.out; omega
      | succ q =>
      go_roundg q
      case measure => omega
      case rel =>
        have HX2 := HX.out
        rw [Nat.add_sub_cancel] at HX2
        exact ⟨j + 1, by rw [w64 (by have := HLJ.out; omega)]; rfl, ⟨HX2⟩⟩
    · have q1 : decide ((j : Int) < 4352) = false := decide_eq_false (by omega)
      have q2 : decide (j < 4352) = false := decide_eq_false hl
      have hlen := hm.len Try.underlying63 3
      rw [List.drop_eq_nil_of_le (by rw [HT.out.li]; omega), dcS] at hd
      rw [hd] at hlen
      have HBB := Aside0.mk hb
      clear hm hs hd hb hk1 hk2 hl
      go_wp2
      go_ret
      exact ⟨rfl, HBB.out⟩
end Go.Proofs.Ytonmollpimoaoaa.Sa
