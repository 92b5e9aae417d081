/- Rows with one code point more. -/
import Derived.Test.YtonmollpimoaoaaSl
namespace Go.Proofs.Ytonmollpimoaoaa.Sa
open Go.RowKit Go.Proofs.Ytonmollpimoaoaa.Stg Go.Proofs.YtonmollpimoaoaaW.PrintWords Go.Proofs.YtonmollpimoaoaaW.PrintLast Go.Proofs.YtonmollpimoaoaaW.PrintMore Go.Proofs.Ytonmollpimoaoaa.PStageTells
set_option linter.unusedVariables false
set_option linter.unusedSimpArgs false
/-- Rows, and one code point's value more. -/
def moreV (o v : Int) (l : List S41) (r : Int) : List S41 :=
  if v = o then l
  else if l ≠ [] ∧ (l.getD (l.length - 1) z41).f1 = wrap32 (r - 1) ∧ (l.getD (l.length - 1) z41).f2 = v then l.set (l.length - 1) ⟨(l.getD (l.length - 1) z41).f0, r, (l.getD (l.length - 1) z41).f2⟩
  else l ++ [⟨r, r, v⟩]
theorem fl41_app : ∀ (a b : List S41), fl41 (a ++ b) = fl41 a ++ fl41 b
  | [], _ => rfl
  | x :: t, b => by simp only [List.cons_append, fl41, fl41_app t b]
theorem fl41_setTo : ∀ (l : List S41) (j : Nat) (r : Int), j < l.length → (fl41 l).set (j * 3 + 1) (.int .i32 r) = fl41 (l.set j ⟨(l.getD j z41).f0, r, (l.getD j z41).f2⟩)
  | [], _, _, h => by simp at h
  | x :: t, 0, r, _ => rfl
  | x :: t, j + 1, r, h => by
    have := fl41_setTo t j r (by simpa using h)
    rw [show (j + 1) * 3 + 1 = (j * 3 + 1) + 1 + 1 + 1 by omega]
    simp only [fl41, List.set_cons_succ, this, List.getD_cons_succ]
theorem append41_run (W : World) (base : Nat) (v : Value) (n : Nat) (xs : List Value) (g : Nat) (b : S41) (ho : W.ownsRow base 41 3 v n xs) (hg : W.heap[g]? = some (.cells #[.int .i32 b.f0, .int .i32 b.f1, .int .i64 b.f2] 41 (0, 0))) (hn : n ≤ 2000000) (hbase : base ≤ W.heap.size) :
    ∃ v' w', (Builtin.append_ #[25, 25] 25 #[v, .slice (some ⟨g, 0, none⟩) 1 1]).run Try.prog W = .ok v' w' ∧ w'.ownsRow base 41 3 v' (n + 1) (xs ++ [.int .i32 b.f0, .int .i32 b.f1, .int .i64 b.f2]) ∧ W.grownBy w' v.ownBlock := by
  obtain ⟨i, hi, hz⟩ := Option.map_eq_some_iff.1 info41b
  simp only [Prod.mk.injEq] at hz
  obtain ⟨hz, hs, hby⟩ := hz
  obtain ⟨v', w', h1, h2, h3, _⟩ := Go.run_append_own (P := Try.prog) W base 25 25 41 i _ 3 16 Try.underlying25 hi hz hs hby (by simp [Value.cells]) (by decide) v n xs ho ⟨g, 0, none⟩ 1 1 [.int .i32 b.f0, .int .i32 b.f1, .int .i64 b.f2] rfl (fun j u hu => by
    rw [show (⟨g, 0, none⟩ : Addr).add j = ⟨g, j, none⟩ by have := Addr.add_mid g 0 j; simpa using this, blk_cell hg j]
    match j, hu with
    | 0, hu => exact hu
    | 1, hu => exact hu
    | 2, hu => exact hu
    | j + 3, hu => simp at hu) (fun u hu => by
      simp at hu
      rcases hu with rfl | rfl | rfl <;> rfl) (by unfold maxLen; omega) (by omega) hbase
  exact ⟨v', w', h1, h2, h3⟩
attribute [-go_sem] Builtin.append_
set_option maxHeartbeats 4000000 in
theorem more_calls (W : World) (b0 TB IX base : Nat) (bv : Value) (o : Int) (s : St) (v : Value) (l : List S41) (r : Int) (h : Tb W b0 TB IX bv o s) (hl : W.ownsRow base 41 3 v l.length (fl41 l)) (hbase : base ≤ W.heap.size) (hn : l.length ≤ 2000000) :
    Calls Try.prog 20 #[.pointer (some ⟨TB, 0, none⟩), v, .int .i32 r] W fun e w' => ∃ v', e = .returned v' ∧ w'.ownsRow base 41 3 v' (moreV o (getS o s r) l r).length (fl41 (moreV o (getS o s r) l r)) ∧ Below base W w' := by
  have HG := Aside0.mk (get_calls W b0 TB IX bv o s h r)
  have HT := Aside0.mk h
  have HL := Aside0.mk hl
  have HB := Aside0.mk hbase
  have HN := Aside0.mk hn
  obtain ⟨val, hval⟩ : ∃ x, x = getS o s r := ⟨_, rfl⟩
  rw [← hval] at HG ⊢
  obtain ⟨A, c, rfl⟩ := own_form hl
  clear h hl hbase hn hval
  by_cases hv : val = o
  · have q1 : (val == o) = true := beq_iff_eq.2 hv
    rw [show moreV o val l r = l by unfold moreV; rw [if_pos hv]]
    clear hv
    go_enter Try.func20, Try.ntmps20
    go_wp2_with (first
      | (go_at_call 10; (with_reducible refine HG.out.mono ?_); rintro e w1 ⟨rfl, hb1⟩; have d2 : w1.cell? ⟨TB, 2, none⟩ = some (.int .i64 o) := (blk_cell (HT.out.after hb1).ht 2).trans rfl; have HB1 := Aside0.mk hb1; clear hb1))
    go_ret
    exact ⟨_, rfl, own_same HL.out (fun k hk => HB1.out.block k (HL.out.lt k hk).2), ⟨HB1.out.os, HB1.out.tape, HB1.out.output, HB1.out.size, fun i hi => HB1.out.block i (by have := HB.out; omega)⟩⟩
  · have q1 : (val == o) = false := beq_eq_false_iff_ne.2 hv
    have HAP := Aside0.mk (fun (w1 : World) (hb1 : Below W.heap.size W w1) => append41_run (w1.alloc (.cells #[.int .i32 r, .int .i32 r, .int .i64 val] 41)) base (.slice A l.length c) l.length (fl41 l) w1.heap.size ⟨r, r, val⟩ (own_same HL.out (fun k hk => by
        have := (HL.out.lt k hk).2
        rw [show (w1.alloc (.cells #[.int .i32 r, .int .i32 r, .int .i64 val] 41)).heap = w1.heap.push (.cells #[.int .i32 r, .int .i32 r, .int .i64 val] 41) from rfl, Array.getElem?_push_lt (Nat.lt_of_lt_of_le this hb1.size), ← Array.getElem?_eq_getElem]
        exact hb1.block k this)) (blk_new w1 _) HN.out (by
        have := HB.out
        have := hb1.size
        rw [show (w1.alloc (.cells #[.int .i32 r, .int .i32 r, .int .i64 val] 41)).heap = w1.heap.push (.cells #[.int .i32 r, .int .i32 r, .int .i64 val] 41) from rfl, Array.size_push]
        omega))
    have HFIN := Aside0.mk (fun (w1 w2 : World) (v' : Value) (hb1 : Below W.heap.size W w1) (hg : (w1.alloc (.cells #[.int .i32 r, .int .i32 r, .int .i64 val] 41)).grownBy w2 (Value.slice A l.length c).ownBlock) => show Below base W w2 from
      below_grow (w := (w1.alloc (.cells #[.int .i32 r, .int .i32 r, .int .i64 val] 41))) (by
        have bb := below_alloc hb1 (.cells #[.int .i32 r, .int .i32 r, .int .i64 val] 41)
        exact ⟨bb.os, bb.tape, bb.output, bb.size, fun i hi => bb.block i (by have := HB.out; omega)⟩) hg (fun k hk => (HL.out.lt k hk).1) (by
        have := HB.out
        have := hb1.size
        rw [show (w1.alloc (.cells #[.int .i32 r, .int .i32 r, .int .i64 val] 41)).heap = w1.heap.push (.cells #[.int .i32 r, .int .i32 r, .int .i64 val] 41) from rfl, Array.size_push]
        omega))
    by_cases hl0 : l = []
    · subst hl0
      rw [show moreV o val [] r = [] ++ [⟨r, r, val⟩] by unfold moreV; rw [if_neg hv, if_neg (fun e => e.1 rfl)]]
      clear hv
      go_enter Try.func20, Try.ntmps20
      go_wp2_with (first
        | (go_at_call 10; (with_reducible refine HG.out.mono ?_); rintro e w1 ⟨rfl, hb1⟩; have d2 : w1.cell? ⟨TB, 2, none⟩ = some (.int .i64 o) := (blk_cell (HT.out.after hb1).ht 2).trans rfl; obtain ⟨v', w2, hrun, ho2, hg2⟩ := HAP.out w1 hb1; simp only [List.length_nil] at hrun; have HO2 := Aside0.mk ho2; have HB2 := Aside0.mk (HFIN.out w1 w2 v' hb1 hg2); clear hb1 ho2 hg2))
      go_ret
      exact ⟨_, rfl, HO2.out, HB2.out⟩
    · obtain ⟨m, hm⟩ : ∃ m, l.length = m + 1 := ⟨l.length - 1, by have := List.length_pos_iff.2 hl0; omega⟩
      have hn := HN.out
      obtain ⟨g, cap, hs0, hg0, hg⟩ := HL.out.form (by omega)
      cases hs0
      obtain ⟨x, hx⟩ : ∃ x, x = l.getD m z41 := ⟨_, rfl⟩
      have hat := fl41_at l m (by omega)
      rw [← hx] at hat
      have HA := Aside0.mk hat
      have n1 : wrap64 ((l.length : Int) - 1) = (m : Int) := by rw [w64 (by omega)]; omega
      have p1 : (0 ≤ (m : Int)) = True := eq_true (by omega)
      have p2 : ((m : Int) < (l.length : Int)) = True := eq_true (by omega)
      have p3 : (m < l.length) = True := eq_true (by omega)
      have p4 : decide (0 < (l.length : Int)) = true := decide_eq_true (by omega)
      have p5 : decide (0 < l.length) = true := decide_eq_true (by omega)
      have HM := Aside0.mk hm
      have HX := Aside0.mk hx
      by_cases hj : x.f1 = wrap32 (r - 1) ∧ x.f2 = val
      · have e1 : (x.f1 == wrap32 (r - 1)) = true := beq_iff_eq.2 hj.1
        have e2 : (x.f2 == val) = true := beq_iff_eq.2 hj.2
        rw [show moreV o val l r = l.set m ⟨x.f0, r, x.f2⟩ by
          unfold moreV
          rw [if_neg hv, show l.length - 1 = m by omega, ← hx, if_pos ⟨hl0, hj⟩], List.length_set]
        clear hv hl0 hm hn hat hx hj hg0 hg
        go_enter Try.func20, Try.ntmps20
        go_wp2_with (first
          | (go_at_call 10; (with_reducible refine HG.out.mono ?_); rintro e w1 ⟨rfl, hb1⟩; have d2 : w1.cell? ⟨TB, 2, none⟩ = some (.int .i64 o) := (blk_cell (HT.out.after hb1).ht 2).trans rfl; have ho1 := own_same (w' := w1) HL.out (fun k hk => hb1.block k (HL.out.lt k hk).2); have c1 := (ho1.cellAt (m * 3 + 1) (by have := HM.out; omega)).trans HA.out.2.1; have c2 := (ho1.cellAt (m * 3 + 2) (by have := HM.out; omega)).trans HA.out.2.2; have f1 := ho1.frozenAt (m * 3 + 1); have HO1 := Aside0.mk ho1; have HB1 := Aside0.mk hb1; clear hb1 ho1))
        go_ret
        have hst := (HO1.out.stored (m * 3 + 1) (.int .i32 r)).1
        rw [fl41_setTo l m r (by have := HM.out; omega), ← HX.out] at hst
        exact ⟨_, rfl, hst, ((⟨HB1.out.os, HB1.out.tape, HB1.out.output, HB1.out.size, fun i hi => HB1.out.block i (by have := HB.out; omega)⟩ : Below base W w1)).setCell (HL.out.lt g rfl).1 _⟩
      · by_cases hj1 : x.f1 = wrap32 (r - 1)
        · have e1 : (x.f1 == wrap32 (r - 1)) = true := beq_iff_eq.2 hj1
          have e2 : (x.f2 == val) = false := beq_eq_false_iff_ne.2 (fun e => hj ⟨hj1, e⟩)
          rw [show moreV o val l r = l ++ [⟨r, r, val⟩] by
            unfold moreV
            rw [if_neg hv, show l.length - 1 = m by omega, ← hx, if_neg (fun e => hj e.2)], List.length_append, List.length_singleton, fl41_app]
          clear hv hl0 hm hn hat hx hj hj1 hg0 hg
          go_enter Try.func20, Try.ntmps20
          go_wp2_with (first
            | (go_at_call 10; (with_reducible refine HG.out.mono ?_); rintro e w1 ⟨rfl, hb1⟩; have d2 : w1.cell? ⟨TB, 2, none⟩ = some (.int .i64 o) := (blk_cell (HT.out.after hb1).ht 2).trans rfl; have ho1 := own_same (w' := w1) HL.out (fun k hk => hb1.block k (HL.out.lt k hk).2); have c1 := (ho1.cellAt (m * 3 + 1) (by have := HM.out; omega)).trans HA.out.2.1; have c2 := (ho1.cellAt (m * 3 + 2) (by have := HM.out; omega)).trans HA.out.2.2; obtain ⟨v', w2, hrun, ho2, hg2⟩ := HAP.out w1 hb1; have HO2 := Aside0.mk ho2; have HB2 := Aside0.mk (HFIN.out w1 w2 v' hb1 hg2); clear hb1 ho1 ho2 hg2))
          go_ret
          exact ⟨_, rfl, HO2.out, HB2.out⟩
        · have e1 : (x.f1 == wrap32 (r - 1)) = false := beq_eq_false_iff_ne.2 hj1
          rw [show moreV o val l r = l ++ [⟨r, r, val⟩] by
            unfold moreV
            rw [if_neg hv, show l.length - 1 = m by omega, ← hx, if_neg (fun e => hj e.2)], List.length_append, List.length_singleton, fl41_app]
          clear hv hl0 hm hn hat hx hj hj1 hg0 hg
          go_enter Try.func20, Try.ntmps20
          go_wp2_with (first
            | (go_at_call 10; (with_reducible refine HG.out.mono ?_); rintro e w1 ⟨rfl, hb1⟩; have d2 : w1.cell? ⟨TB, 2, none⟩ = some (.int .i64 o) := (blk_cell (HT.out.after hb1).ht 2).trans rfl; have ho1 := own_same (w' := w1) HL.out (fun k hk => hb1.block k (HL.out.lt k hk).2); have c1 := (ho1.cellAt (m * 3 + 1) (by have := HM.out; omega)).trans HA.out.2.1; have c2 := (ho1.cellAt (m * 3 + 2) (by have := HM.out; omega)).trans HA.out.2.2; obtain ⟨v', w2, hrun, ho2, hg2⟩ := HAP.out w1 hb1; have HO2 := Aside0.mk ho2; have HB2 := Aside0.mk (HFIN.out w1 w2 v' hb1 hg2); clear hb1 ho1 ho2 hg2))
          go_ret
          exact ⟨_, rfl, HO2.out, HB2.out⟩
end Go.Proofs.Ytonmollpimoaoaa.Sa
