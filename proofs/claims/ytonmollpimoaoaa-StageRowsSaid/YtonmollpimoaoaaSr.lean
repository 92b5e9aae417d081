/- Rows. -/
import Derived.Test.YtonmollpimoaoaaSq
namespace Go.Proofs.Ytonmollpimoaoaa.Sa
open Go.RowKit Go.Proofs.Ytonmollpimoaoaa.Stg Go.Proofs.YtonmollpimoaoaaW.PrintWords Go.Proofs.YtonmollpimoaoaaW.PrintLast Go.Proofs.YtonmollpimoaoaaW.PrintMore Go.Proofs.Ytonmollpimoaoaa.PStageTells
set_option linter.unusedVariables false
set_option linter.unusedSimpArgs false
/-- Rows with the block's first code points more. -/
def innS (o : Int) (s : St) (b : Nat) (l : List S41) (i : Nat) : List S41 := (List.range i).foldl (fun l i => moreV o (getS o s ((256 * b + i : Nat) : Int)) l ((256 * b + i : Nat) : Int)) l
def blkS (o : Int) (s : St) (l : List S41) (b : Nat) : List S41 := if s.idx.getD b 0 = 0 then l else innS o s b l 256
/-- The rows of the first blocks. -/
def rowsS (o : Int) (s : St) (n : Nat) : List S41 := (List.range n).foldl (blkS o s) []
theorem innS_succ (o : Int) (s : St) (b : Nat) (l : List S41) (i : Nat) : innS o s b l (i + 1) = moreV o (getS o s ((256 * b + i : Nat) : Int)) (innS o s b l i) ((256 * b + i : Nat) : Int) := by
  unfold innS
  rw [List.range_succ, List.foldl_append]
  rfl
theorem rowsS_succ (o : Int) (s : St) (n : Nat) : rowsS o s (n + 1) = blkS o s (rowsS o s n) n := by
  unfold rowsS
  rw [List.range_succ, List.foldl_append]
  rfl
theorem moreV_len (o v : Int) (l : List S41) (r : Int) : (moreV o v l r).length ≤ l.length + 1 := by
  unfold moreV
  split
  · omega
  · split
    · rw [List.length_set]; omega
    · simp
theorem innS_len (o : Int) (s : St) (b : Nat) (l : List S41) : ∀ i, (innS o s b l i).length ≤ l.length + i
  | 0 => Nat.le_refl _
  | i + 1 => by
    rw [innS_succ]
    have := moreV_len o (getS o s ((256 * b + i : Nat) : Int)) (innS o s b l i) ((256 * b + i : Nat) : Int)
    have := innS_len o s b l i
    omega
theorem rowsS_len (o : Int) (s : St) : ∀ n, (rowsS o s n).length ≤ 256 * n
  | 0 => Nat.le_refl _
  | n + 1 => by
    rw [rowsS_succ]
    have := rowsS_len o s n
    unfold blkS
    split
    · omega
    · have := innS_len o s n (rowsS o s n) 256
      omega
set_option maxHeartbeats 4000000 in
theorem trows_calls (W : World) (b0 TB IX : Nat) (bv : Value) (o : Int) (s : St) (h : Tb W b0 TB IX bv o s) (hn : s.blks.length < 65536) :
    Calls Try.prog 13 #[.pointer (some ⟨TB, 0, none⟩)] W fun e w' => ∃ v', e = .returned v' ∧ w'.ownsRow W.heap.size 41 3 v' (rowsS o s 4352).length (fl41 (rowsS o s 4352)) ∧ Below W.heap.size W w' := by
  have HT := Aside0.mk h
  have HN := Aside0.mk hn
  obtain ⟨Fin, hF⟩ : ∃ x, x = rowsS o s 4352 := ⟨_, rfl⟩
  rw [← hF]
  have HF := Aside0.mk hF
  clear h hn hF
  go_enter Try.func13, Try.ntmps13
  go_wp2
  go_loopg [3, 4] 4353 (fun kq v3 v4 wr => ∃ (j : Nat) (r : Int), v4 = .int .i32 r ∧ Aside0 (r = 256 * (j : Int) ∧ wr.ownsRow W.heap.size 41 3 v3 (rowsS o s j).length (fl41 (rowsS o s j)) ∧ Below W.heap.size W wr ∧ j + kq = 4353 ∧ j ≤ 4352))
  case atStart => exact ⟨0, 0, rfl, ⟨rfl, World.ownsRow_nil _ _ _ _, Below.refl _ _, by omega, by omega⟩⟩
  case round =>
    obtain ⟨j, r, rfl, HI⟩ := hrel
    obtain ⟨hr, ho, hb, hj1, hj2⟩ := HI.out
    by_cases hl : j < 4352
    · have q1 : decide (r ≤ 1114111) = true := decide_eq_true (by omega)
      obtain ⟨ni, hni⟩ : ∃ x : Int, x = ((s.idx.getD j 0 : Nat) : Int) := ⟨_, rfl⟩
      have hli := HT.out.li
      have d0 : wr.cell? ⟨TB, 0, none⟩ = some (.slice (some ⟨IX, 0, none⟩) 4352 4352) := (blk_cell (HT.out.after hb).ht 0).trans rfl
      have x0 : wr.cell? ⟨IX, j, none⟩ = some (.int .u16 ni) := by rw [blk_cell (HT.out.after hb).hx, uA_get _ _ (by omega), hni]
      have n1 : Int.tdiv r 256 = (j : Int) := by rw [Int.tdiv_eq_ediv_of_nonneg (by omega)]; omega
      have n3 : wrap32 (j : Int) = (j : Int) := by unfold wrap32; omega
      have p1 : (0 ≤ (j : Int)) = True := eq_true (by omega)
      have p2 : ((j : Int) < 4352) = True := eq_true (by omega)
      have p3 : (j < 4352) = True := eq_true hl
      have HLJ := Aside0.mk hl
      have HB := Aside0.mk hb
      have HO := Aside0.mk ho
      have HNI := Aside0.mk hni
      have HR := Aside0.mk hr
      by_cases hz : ni = 0
      · have q2 : (ni == 0) = true := beq_iff_eq.2 hz
        have q3 : (s.idx.getD j 0) = 0 := by omega
        have HQ := Aside0.mk q3
        clear hr ho hb hj1 hj2 hl hni hz q3 hli
        go_wp2
        cases gk with
        | zero => have := HI.out.2.2.2.1; have := HLJ.out; omega
        | succ q =>
        go_roundg q
        case measure => omega
        case rel =>
          refine ⟨j + 1, _, rfl, ⟨?_, ?_, HB.out, by have := HI.out.2.2.2.1; omega, by have := HLJ.out; omega⟩⟩
          · have := HR.out; have := HLJ.out; unfold wrap32; omega
          · rw [rowsS_succ, blkS, if_pos HQ.out]; exact HO.out
      · have q2 : (ni == 0) = false := beq_eq_false_iff_ne.2 hz
        have q3 : (s.idx.getD j 0) ≠ 0 := by omega
        have HQ := Aside0.mk q3
        have hjk := HI.out.2.2.2.1
        clear hr ho hb hj1 hj2 hl hni hz q3 hli
        cases gk with
        | zero => have := HLJ.out; omega
        | succ q0 =>
        go_wp2
        go_loopg [3, 4, 18] 257 (fun kq v3 v4 v18 wq => ∃ (i : Nat) (x : Int), v4 = .int .i32 x ∧ v18 = .int .i64 (i : Int) ∧ Aside0 (x = r + i ∧ wq.ownsRow W.heap.size 41 3 v3 (innS o s j (rowsS o s j) i).length (fl41 (innS o s j (rowsS o s j) i)) ∧ Below W.heap.size W wq ∧ i + kq = 257 ∧ i ≤ 256))
        case atStart => exact ⟨0, r, rfl, rfl, ⟨by omega, HO.out, HB.out, by omega, by omega⟩⟩
        case round =>
          obtain ⟨i, x, rfl, rfl, HJ⟩ := hrel
          obtain ⟨hx, hoq, hbq, hi1, hi2⟩ := HJ.out
          have hll := HLJ.out
          have hrr := HR.out
          by_cases hlt : i < 256
          · have q5 : decide ((i : Int) < 256) = true := decide_eq_true (by omega)
            have q6 : decide (i < 256) = true := decide_eq_true hlt
            have hx2 : x = ((256 * j + i : Nat) : Int) := by omega
            have hlen := innS_len o s j (rowsS o s j) i
            have hlen2 := rowsS_len o s j
            have HM := Aside0.mk (more_calls wr b0 TB IX W.heap.size bv o s _ (innS o s j (rowsS o s j) i) x (HT.out.after hbq) hoq hbq.size (by omega))
            have HBQ := Aside0.mk hbq
            have HXX := Aside0.mk hx2
            have HLT := Aside0.mk hlt
            clear hx hoq hbq hi1 hi2 hll hrr hlt hx2 hlen hlen2
            go_wp2_with (first
              | (go_at_call 20; (with_reducible refine HM.out.mono ?_); rintro e w7 ⟨v', rfl, ho7, hb7⟩; have HO7 := Aside0.mk ho7; have HB7 := Aside0.mk hb7; clear ho7 hb7))
            cases gk with
            | zero => have := HJ.out.2.2.2.1; have := HLT.out; omega
            | succ q =>
            go_roundg q
            case measure => omega
            case rel =>
              refine ⟨i + 1, _, rfl, by rw [w64 (by have := HLT.out; omega)]; rfl, ⟨?_, ?_, ?_, by have := HJ.out.2.2.2.1; omega, by have := HLT.out; omega⟩⟩
              · have := HJ.out.1; have := HR.out; have := HLJ.out; have := HLT.out; unfold wrap32; omega
              · rw [innS_succ, ← HXX.out]; exact HO7.out
              · have h7 := HB7.out
                have hq := HBQ.out
                exact ⟨h7.os.trans hq.os, h7.tape.trans hq.tape, h7.output.trans hq.output, Nat.le_trans hq.size h7.size, fun k hk => (h7.block k hk).trans (hq.block k hk)⟩
          · have q5 : decide ((i : Int) < 256) = false := decide_eq_false (by omega)
            have q6 : decide (i < 256) = false := decide_eq_false hlt
            have hi3 : i = 256 := by omega
            have HB8 := Aside0.mk hbq
            have HO8 := Aside0.mk hoq
            have HI3 := Aside0.mk hi3
            have HX8 := Aside0.mk hx
            clear hx hoq hbq hi1 hi2 hll hrr hlt hi3
            go_wp2
            go_roundg q0
            case measure => omega
            case rel =>
              refine ⟨j + 1, x, rfl, ⟨by have := HX8.out; have := HR.out; have := HI3.out; omega, ?_, HB8.out, by have := HI.out.2.2.2.1; omega, by have := HLJ.out; omega⟩⟩
              rw [rowsS_succ, blkS, if_neg HQ.out, ← HI3.out]
              exact HO8.out
    · have q1 : decide (r ≤ 1114111) = false := decide_eq_false (by omega)
      obtain rfl : j = 4352 := by omega
      rw [← HF.out] at ho
      have HO := Aside0.mk ho
      have HB := Aside0.mk hb
      clear hr ho hb hj1 hj2 hl
      go_wp2
      go_ret
      exact ⟨_, rfl, HO.out, HB.out⟩
end Go.Proofs.Ytonmollpimoaoaa.Sa
