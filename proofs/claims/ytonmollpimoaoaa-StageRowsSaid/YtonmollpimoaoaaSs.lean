/- Fewest. -/
import Derived.Test.YtonmollpimoaoaaSr
import Derived.Test.YtonmollpimoaoaaSn
namespace Go.Proofs.Ytonmollpimoaoaa.Sa
open Go.RowKit Go.Proofs.Ytonmollpimoaoaa.Stg Go.Proofs.YtonmollpimoaoaaW.PrintWords Go.Proofs.YtonmollpimoaoaaW.PrintLast Go.Proofs.YtonmollpimoaoaaW.PrintMore Go.Proofs.Ytonmollpimoaoaa.PStageTells
set_option linter.unusedVariables false
set_option linter.unusedSimpArgs false
def fl47 : List S47 → List Value
  | [] => []
  | x :: t => .int .i64 x.f0 :: .int .i64 x.f1 :: .int .i64 x.f2 :: fl47 t
theorem fl47_app : ∀ (a b : List S47), fl47 (a ++ b) = fl47 a ++ fl47 b
  | [], _ => rfl
  | x :: t, b => by simp only [List.cons_append, fl47, fl47_app t b]
theorem fl47_at : ∀ (l : List S47) (j : Nat), j < l.length → (fl47 l)[j * 3]? = some (.int .i64 (l.getD j z47).f0) ∧ (fl47 l)[j * 3 + 1]? = some (.int .i64 (l.getD j z47).f1) ∧ (fl47 l)[j * 3 + 2]? = some (.int .i64 (l.getD j z47).f2)
  | [], _, h => by simp at h
  | x :: t, 0, _ => ⟨rfl, rfl, rfl⟩
  | x :: t, j + 1, h => by
    have := fl47_at t j (by simpa using h)
    rw [show (j + 1) * 3 = j * 3 + 1 + 1 + 1 by omega]
    simpa [fl47] using this
theorem fl47_setTo : ∀ (l : List S47) (j : Nat) (r : Int), j < l.length → (fl47 l).set (j * 3 + 1) (.int .i64 r) = fl47 (l.set j ⟨(l.getD j z47).f0, r, (l.getD j z47).f2⟩)
  | [], _, _, h => by simp at h
  | x :: t, 0, r, _ => rfl
  | x :: t, j + 1, r, h => by
    have := fl47_setTo t j r (by simpa using h)
    rw [show (j + 1) * 3 + 1 = (j * 3 + 1) + 1 + 1 + 1 by omega]
    simp only [fl47, List.set_cons_succ, this, List.getD_cons_succ]
theorem append47_run (W : World) (base : Nat) (v : Value) (n : Nat) (xs : List Value) (g : Nat) (b : S47) (ho : W.ownsRow base 47 3 v n xs) (hg : W.heap[g]? = some (.cells #[.int .i64 b.f0, .int .i64 b.f1, .int .i64 b.f2] 47 (0, 0))) (hn : n ≤ 2000000) (hbase : base ≤ W.heap.size) :
    ∃ v' w', (Builtin.append_ #[26, 26] 26 #[v, .slice (some ⟨g, 0, none⟩) 1 1]).run Try.prog W = .ok v' w' ∧ w'.ownsRow base 47 3 v' (n + 1) (xs ++ [.int .i64 b.f0, .int .i64 b.f1, .int .i64 b.f2]) ∧ W.grownBy w' v.ownBlock := by
  obtain ⟨i, hi, hz⟩ := Option.map_eq_some_iff.1 info47
  simp only [Prod.mk.injEq] at hz
  obtain ⟨hz, hs, hby⟩ := hz
  obtain ⟨v', w', h1, h2, h3, _⟩ := Go.run_append_own (P := Try.prog) W base 26 26 47 i _ 3 24 Try.underlying26 hi hz hs hby (by simp [Value.cells]) (by decide) v n xs ho ⟨g, 0, none⟩ 1 1 [.int .i64 b.f0, .int .i64 b.f1, .int .i64 b.f2] rfl (fun j u hu => by
    rw [show (⟨g, 0, none⟩ : Addr).add j = ⟨g, j, none⟩ by have := Addr.add_mid g 0 j; simpa using this, blk_cell hg j]
    match j, hu with
    | 0, hu => exact hu
    | 1, hu => exact hu
    | 2, hu => exact hu
    | j + 3, hu => simp at hu) (fun u hu => by
      simp at hu
      rcases hu with rfl | rfl | rfl <;> rfl) (by unfold maxLen; omega) (by omega) hbase
  exact ⟨v', w', h1, h2, h3⟩
/-- The document's rows, and one row more. -/
def fewV (o : Int) (l : List S47) (x : S47) : List S47 :=
  if x.f2 = o then l
  else if l ≠ [] ∧ (l.getD (l.length - 1) z47).f1 = wrap64 (x.f0 - 1) ∧ (l.getD (l.length - 1) z47).f2 = x.f2 then l.set (l.length - 1) ⟨(l.getD (l.length - 1) z47).f0, x.f1, (l.getD (l.length - 1) z47).f2⟩
  else l ++ [x]
theorem fewV_len (o : Int) (l : List S47) (x : S47) : (fewV o l x).length ≤ l.length + 1 := by
  unfold fewV
  split
  · omega
  · split
    · rw [List.length_set]; omega
    · simp
theorem few_len (o : Int) : ∀ (t l : List S47), (t.foldl (fewV o) l).length ≤ l.length + t.length
  | [], l => Nat.le_refl _
  | x :: t, l => by
    have := few_len o t (fewV o l x)
    have := fewV_len o l x
    simp only [List.foldl_cons, List.length_cons]
    omega
theorem take47 (o : Int) (l : List S47) (j : Nat) (h : j < l.length) : (l.take (j + 1)).foldl (fewV o) [] = fewV o ((l.take j).foldl (fewV o) []) (rd_T47 l (j : Int)) := by
  rw [List.take_add_one, List.foldl_append, List.getElem?_eq_getElem h]
  unfold rd_T47
  rw [Int.toNat_natCast, List.getD_eq_getElem?_getD, List.getElem?_eq_getElem h]
  rfl
attribute [-go_sem] Builtin.append_
set_option maxHeartbeats 4000000 in
theorem few_calls (W : World) (A : Option Addr) (c : Nat) (l : List S47) (o : Int) (h : Kd.C k47 W A l.length l) (hc : l.length ≤ c) (hn : l.length ≤ 100000) :
    Calls Try.prog 12 #[.slice A l.length c, .int .i64 o] W fun e w' => ∃ v', e = .returned v' ∧ w'.ownsRow W.heap.size 47 3 v' (l.foldl (fewV o) []).length (fl47 (l.foldl (fewV o) [])) ∧ Below W.heap.size W w' := by
  have HC := Aside0.mk h
  have HN := Aside0.mk hn
  obtain ⟨Fin, hF⟩ : ∃ x, x = l.foldl (fewV o) [] := ⟨_, rfl⟩
  rw [← hF]
  have HF := Aside0.mk hF
  clear h hc hn hF
  go_enter Try.func12, Try.ntmps12
  go_wp2
  go_loopg [5, 6] (l.length + 1) (fun kq v5 v6 wr => ∃ (j : Nat), v6 = .int .i64 (j : Int) ∧ Aside0 (wr.ownsRow W.heap.size 47 3 v5 ((l.take j).foldl (fewV o) []).length (fl47 ((l.take j).foldl (fewV o) [])) ∧ Below W.heap.size W wr ∧ j + kq = l.length + 1 ∧ j ≤ l.length))
  case atStart => exact ⟨0, rfl, ⟨World.ownsRow_lit W #[] 0 (Nat.le_refl _) (by decide) rfl, below_alloc (Below.refl _ _) _, by omega, by omega⟩⟩
  case round =>
    obtain ⟨j, rfl, HI⟩ := hrel
    obtain ⟨ho, hb, hj1, hj2⟩ := HI.out
    have hn := HN.out
    by_cases hl : j < l.length
    · have q1 : decide ((j : Int) < (l.length : Int)) = true := decide_eq_true (by omega)
      have q2 : decide (j < l.length) = true := decide_eq_true hl
      obtain ⟨ad, hA, x0, x1, x2⟩ := at_T47 (Kd.C_below HC.out hb) (j : Int) (by omega) (by omega)
      subst hA
      rw [Int.toNat_natCast] at x0 x1 x2
      have hfs := take47 o l j hl
      have hll := few_len o (l.take j) []
      rw [List.length_take, List.length_nil] at hll
      generalize (l.take j).foldl (fewV o) [] = a at ho hfs hll
      generalize rd_T47 l (j : Int) = x at x0 x1 x2 hfs
      obtain ⟨f0, f1, f2⟩ := x
      simp only at x0 x1 x2
      have p1 : (0 ≤ (j : Int)) = True := eq_true (by omega)
      have p2 : ((j : Int) < (l.length : Int)) = True := eq_true (by omega)
      have p3 : (j < l.length) = True := eq_true hl
      have HLJ := Aside0.mk hl
      have HO := Aside0.mk ho
      have HB := Aside0.mk hb
      have HFS := Aside0.mk hfs
      have hblk := blk_new wr (.cells #[.int .i64 f0, .int .i64 f1, .int .i64 f2] 47)
      have b0 := blk_cell hblk 0
      have b1 := blk_cell hblk 1
      have b2 := blk_cell hblk 2
      by_cases hv : f2 = o
      · have q3 : (f2 == o) = true := beq_iff_eq.2 hv
        have hq : fewV o a ⟨f0, f1, f2⟩ = a := by unfold fewV; rw [if_pos hv]
        rw [hq] at hfs
        have HQ := Aside0.mk hfs
        clear ho hb hj1 hj2 hn hl hll hfs hq hv hblk
        go_wp2
        cases gk with
        | zero => have := HI.out.2.2.1; have := HLJ.out; omega
        | succ q =>
        go_roundg q
        case measure => omega
        case rel =>
          refine ⟨j + 1, by rw [w64 (by have := HLJ.out; have := HN.out; omega)]; rfl, ⟨?_, below_alloc HB.out _, by have := HI.out.2.2.1; omega, by have := HLJ.out; omega⟩⟩
          rw [HQ.out]
          exact HO.out.alloc _
      · have q3 : (f2 == o) = false := beq_eq_false_iff_ne.2 hv
        obtain ⟨A5, c5, rfl⟩ := own_form ho
        have bb := below_alloc hb (.cells #[.int .i64 f0, .int .i64 f1, .int .i64 f2] 47)
        have hs1 : (wr.alloc (.cells #[.int .i64 f0, .int .i64 f1, .int .i64 f2] 47)).heap.size = wr.heap.size + 1 := Array.size_push _
        have how : World.ownsRow (wr.alloc (.cells #[.int .i64 f0, .int .i64 f1, .int .i64 f2] 47)).drew W.heap.size 47 3 (.slice A5 a.length c5) a.length (fl47 a) := World.ownsRow.drew (ho.alloc _)
        obtain ⟨v', w2, hrun, ho2, hg2⟩ := append47_run ((wr.alloc (.cells #[.int .i64 f0, .int .i64 f1, .int .i64 f2] 47)).drew.alloc (.cells #[.int .i64 f0, .int .i64 f1, .int .i64 f2] 47)) W.heap.size (.slice A5 a.length c5) a.length (fl47 a) (wr.heap.size + 1) ⟨f0, f1, f2⟩ (how.alloc _) (by
          have := blk_new (wr.alloc (.cells #[.int .i64 f0, .int .i64 f1, .int .i64 f2] 47)).drew (.cells #[.int .i64 f0, .int .i64 f1, .int .i64 f2] 47)
          rw [show (wr.alloc (.cells #[.int .i64 f0, .int .i64 f1, .int .i64 f2] 47)).drew.heap.size = wr.heap.size + 1 from hs1] at this
          exact this) (by omega) (by
          have h2 : ((wr.alloc (.cells #[.int .i64 f0, .int .i64 f1, .int .i64 f2] 47)).drew.alloc (.cells #[.int .i64 f0, .int .i64 f1, .int .i64 f2] 47)).heap.size = (wr.alloc (.cells #[.int .i64 f0, .int .i64 f1, .int .i64 f2] 47)).drew.heap.size + 1 := Array.size_push _
          rw [h2, show (wr.alloc (.cells #[.int .i64 f0, .int .i64 f1, .int .i64 f2] 47)).drew.heap.size = wr.heap.size + 1 from hs1]
          have := hb.size
          omega)
        have hB2 : Below W.heap.size W w2 := below_grow (w := ((wr.alloc (.cells #[.int .i64 f0, .int .i64 f1, .int .i64 f2] 47)).drew.alloc (.cells #[.int .i64 f0, .int .i64 f1, .int .i64 f2] 47))) (by
          have b3 : Below W.heap.size W (wr.alloc (.cells #[.int .i64 f0, .int .i64 f1, .int .i64 f2] 47)).drew := ⟨bb.os, bb.tape, bb.output, bb.size, bb.block⟩
          exact below_alloc b3 _) hg2 (fun k hk => (ho.lt k hk).1) (by
          have h2 : ((wr.alloc (.cells #[.int .i64 f0, .int .i64 f1, .int .i64 f2] 47)).drew.alloc (.cells #[.int .i64 f0, .int .i64 f1, .int .i64 f2] 47)).heap.size = (wr.alloc (.cells #[.int .i64 f0, .int .i64 f1, .int .i64 f2] 47)).drew.heap.size + 1 := Array.size_push _
          rw [h2, show (wr.alloc (.cells #[.int .i64 f0, .int .i64 f1, .int .i64 f2] 47)).drew.heap.size = wr.heap.size + 1 from hs1]
          have := hb.size
          omega)
        replace hrun : (Builtin.append_ #[26, 26] 26 #[.slice A5 a.length c5, .slice (some ⟨wr.heap.size + 1, 0, none⟩) 1 1]).run Try.prog ((wr.alloc (.cells #[.int .i64 f0, .int .i64 f1, .int .i64 f2] 47)).alloc (.cells #[.int .i64 f0, .int .i64 f1, .int .i64 f2] 47)).drew = .ok v' w2 := hrun
        have HO2 := Aside0.mk ho2
        have HB2 := Aside0.mk hB2
        by_cases hl0 : a = []
        · subst hl0
          have hq : fewV o [] ⟨f0, f1, f2⟩ = [] ++ [⟨f0, f1, f2⟩] := by unfold fewV; rw [if_neg hv, if_neg (fun e => e.1 rfl)]
          rw [hq] at hfs
          have HQ := Aside0.mk hfs
          simp only [List.length_nil] at hrun
          clear ho hb hj1 hj2 hn hl hll hfs hq hv hblk bb hs1 how ho2 hg2 hB2
          go_wp2
          go_region
          go_wp2
          cases gk with
          | zero => have := HI.out.2.2.1; have := HLJ.out; omega
          | succ q =>
          go_roundg q
          case measure => omega
          case rel =>
            refine ⟨j + 1, by rw [w64 (by have := HLJ.out; have := HN.out; omega)]; rfl, ⟨?_, HB2.out, by have := HI.out.2.2.1; omega, by have := HLJ.out; omega⟩⟩
            rw [HQ.out, List.length_append, fl47_app]
            exact HO2.out
        · obtain ⟨m, hm⟩ : ∃ m, a.length = m + 1 := ⟨a.length - 1, by have := List.length_pos_iff.2 hl0; omega⟩
          obtain ⟨g, cap, hs0, hg0, hg⟩ := ho.form (by omega)
          cases hs0
          obtain ⟨x, hx⟩ : ∃ x, x = a.getD m z47 := ⟨_, rfl⟩
          have hat := fl47_at a m (by omega)
          rw [← hx] at hat
          have n1 : wrap64 ((a.length : Int) - 1) = (m : Int) := by rw [w64 (by omega)]; omega
          have r1 : (0 ≤ (m : Int)) = True := eq_true (by omega)
          have r2 : ((m : Int) < (a.length : Int)) = True := eq_true (by omega)
          have r3 : (m < a.length) = True := eq_true (by omega)
          have r4 : decide (0 < (a.length : Int)) = true := decide_eq_true (by omega)
          have r5 : decide (0 < a.length) = true := decide_eq_true (by omega)
          have hoa := ho.alloc (.cells #[.int .i64 f0, .int .i64 f1, .int .i64 f2] 47)
          have c1 := (hoa.cellAt (m * 3 + 1) (by omega)).trans hat.2.1
          have c2 := (hoa.cellAt (m * 3 + 2) (by omega)).trans hat.2.2
          have f1' := hoa.frozenAt (m * 3 + 1)
          have HOA := Aside0.mk hoa
          have HM := Aside0.mk hm
          have HX := Aside0.mk hx
          have HG := Aside0.mk (ho.lt g rfl).1
          have HBB := Aside0.mk (below_alloc hb (.cells #[.int .i64 f0, .int .i64 f1, .int .i64 f2] 47))
          by_cases hj : x.f1 = wrap64 (f0 - 1) ∧ x.f2 = f2
          · have e1 : (x.f1 == wrap64 (f0 - 1)) = true := beq_iff_eq.2 hj.1
            have e2 : (x.f2 == f2) = true := beq_iff_eq.2 hj.2
            have hq : fewV o a ⟨f0, f1, f2⟩ = a.set m ⟨x.f0, f1, x.f2⟩ := by
              unfold fewV
              rw [if_neg hv, show a.length - 1 = m by omega, ← hx, if_pos ⟨hl0, hj⟩]
            rw [hq] at hfs
            have HQ := Aside0.mk hfs
            clear ho hb hj1 hj2 hn hl hll hfs hq hv hblk bb hs1 how ho2 hg2 hB2 hl0 hm hat hx hj hg0 hg hoa
            go_wp2
            go_region
            go_wp2
            cases gk with
            | zero => have := HI.out.2.2.1; have := HLJ.out; omega
            | succ q =>
            go_roundg q
            case measure => omega
            case rel =>
              refine ⟨j + 1, by rw [w64 (by have := HLJ.out; have := HN.out; omega)]; rfl, ⟨?_, ?_, by have := HI.out.2.2.1; omega, by have := HLJ.out; omega⟩⟩
              · rw [HQ.out, List.length_set]
                have hst := (World.ownsRow.stored (World.ownsRow.drew HOA.out) (m * 3 + 1) (.int .i64 f1)).1
                rw [fl47_setTo a m f1 (by have := HM.out; omega), ← HX.out] at hst
                exact hst
              · have hbd : Below W.heap.size W (wr.alloc (.cells #[.int .i64 f0, .int .i64 f1, .int .i64 f2] 47)).drew := ⟨HBB.out.os, HBB.out.tape, HBB.out.output, HBB.out.size, HBB.out.block⟩
                exact hbd.setCell (p := ⟨g, m * 3 + 1, none⟩) HG.out _
          · have hq : fewV o a ⟨f0, f1, f2⟩ = a ++ [⟨f0, f1, f2⟩] := by
              unfold fewV
              rw [if_neg hv, show a.length - 1 = m by omega, ← hx, if_neg (fun e => hj e.2)]
            rw [hq] at hfs
            have HQ := Aside0.mk hfs
            by_cases hj1' : x.f1 = wrap64 (f0 - 1)
            · have e1 : (x.f1 == wrap64 (f0 - 1)) = true := beq_iff_eq.2 hj1'
              have e2 : (x.f2 == f2) = false := beq_eq_false_iff_ne.2 (fun e => hj ⟨hj1', e⟩)
              clear ho hb hj1 hj2 hn hl hll hfs hq hv hblk bb hs1 how ho2 hg2 hB2 hl0 hm hat hx hj hj1' hg0 hg hoa
              go_wp2
              go_region
              go_wp2
              cases gk with
              | zero => have := HI.out.2.2.1; have := HLJ.out; omega
              | succ q =>
              go_roundg q
              case measure => omega
              case rel =>
                refine ⟨j + 1, by rw [w64 (by have := HLJ.out; have := HN.out; omega)]; rfl, ⟨?_, HB2.out, by have := HI.out.2.2.1; omega, by have := HLJ.out; omega⟩⟩
                rw [HQ.out, List.length_append, fl47_app]
                exact HO2.out
            · have e1 : (x.f1 == wrap64 (f0 - 1)) = false := beq_eq_false_iff_ne.2 hj1'
              clear ho hb hj1 hj2 hn hl hll hfs hq hv hblk bb hs1 how ho2 hg2 hB2 hl0 hm hat hx hj hj1' hg0 hg hoa
              go_wp2
              go_region
              go_wp2
              cases gk with
              | zero => have := HI.out.2.2.1; have := HLJ.out; omega
              | succ q =>
              go_roundg q
              case measure => omega
              case rel =>
                refine ⟨j + 1, by rw [w64 (by have := HLJ.out; have := HN.out; omega)]; rfl, ⟨?_, HB2.out, by have := HI.out.2.2.1; omega, by have := HLJ.out; omega⟩⟩
                rw [HQ.out, List.length_append, fl47_app]
                exact HO2.out
    · have q1 : decide ((j : Int) < (l.length : Int)) = false := decide_eq_false (by omega)
      have q2 : decide (j < l.length) = false := decide_eq_false hl
      obtain rfl : j = l.length := by omega
      rw [List.take_length, ← HF.out] at ho
      have HO := Aside0.mk ho
      have HB := Aside0.mk hb
      clear ho hb hj1 hj2 hl hn
      go_wp2
      go_ret
      exact ⟨_, rfl, HO.out, HB.out⟩
end Go.Proofs.Ytonmollpimoaoaa.Sa
