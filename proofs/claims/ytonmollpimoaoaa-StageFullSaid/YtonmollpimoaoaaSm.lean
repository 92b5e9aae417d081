/- StageFull, walked. -/
import Derived.Test.YtonmollpimoaoaaSl
namespace Go.Proofs.Ytonmollpimoaoaa.Sa
open Go.RowKit Go.Proofs.Ytonmollpimoaoaa.Stg Go.Proofs.YtonmollpimoaoaaW.PrintWords Go.Proofs.YtonmollpimoaoaaW.PrintLast Go.Proofs.YtonmollpimoaoaaW.PrintMore Go.Proofs.Ytonmollpimoaoaa.PStageTells
set_option linter.unusedVariables false
set_option linter.unusedSimpArgs false
/-- What Build says, of rows in memory. -/
structure Bld (W : World) (g k : Nat) (xs : List S41) : Prop where
  len : xs.length = k
  blk : W.heap[g]? = some (.cells (fl41 xs).toArray 41)
theorem below_set0 {W w : World} (h : Below W.heap.size W w) : Below W.heap.size W (w.setCell ⟨W.heap.size, 0, none⟩ (.int .i32 (-1))) := h.setCell (Nat.le_refl _) _
set_option maxHeartbeats 8000000 in
theorem full_walk (W : World) (n : Int) (hn : 0 ≤ n ∧ n ≤ 65535) :
    Calls Try.prog 4 #[.int .u16 n] W fun e w' => e = .returned (.bool true) ∧ Below W.heap.size W w' := by
  obtain ⟨ri, hri⟩ : ∃ x, x = Int.tmod n 12 := ⟨_, rfl⟩
  have hr2 : ri = n % 12 := by rw [hri, Int.tmod_eq_emod_of_nonneg hn.1]
  obtain ⟨k, hk⟩ : ∃ k : Nat, (k : Int) = 4090 + ri := ⟨(4090 + ri).toNat, by omega⟩
  have hkb : 4090 ≤ k ∧ k ≤ 4101 := by omega
  have m0 : wrap64 n = n := by unfold wrap64; omega
  have m1 : Int.tmod n 12 = ri := hri.symm
  have m2 : wrap64 (4090 + ri) = (k : Int) := by rw [hk]; unfold wrap64; omega
  have m3 : wrap64 ri = ri := by unfold wrap64; omega
  have HKB := Aside0.mk hkb
  clear hri hr2 hk hkb hn
  go_enter Try.func4, Try.ntmps4
  go_wp2_with (first
    | ((with_reducible refine gate_dst (N := 15) rfl ?_); obtain ⟨w1, hw1⟩ : ∃ w1, w1 = W.alloc (.cells (fl41 (List.replicate k z41)).toArray 41) := ⟨_, rfl⟩; refine Kd.event_run rfl (v := .slice (some ⟨W.heap.size, 0, none⟩) k k) (w1 := w1) ((make41_exec rfl W k (by show Value.int .i64 (wrap64 (4090 + ri)) = _; rw [m2]) (by show Value.int .i64 (wrap64 (4090 + ri)) = _; rw [m2]) (by have := HKB.out; omega)).trans (by rw [hw1])) ?_; have HW1 := Aside0.mk hw1; clear hw1))
  go_loopg [18] (k + 1) (fun kq v18 wr => ∃ (j : Nat), v18 = .int .i64 (j : Int) ∧ Aside0 (wr.heap[W.heap.size]? = some (.cells (fl41 (rwJ k j)).toArray 41) ∧ Below W.heap.size W wr ∧ j + kq = k + 1 ∧ j ≤ k))
  case atStart => exact ⟨0, rfl, ⟨by rw [HW1.out]; have := blk_new W (.cells (fl41 (List.replicate k z41)).toArray 41); simpa [rwJ] using this, by rw [HW1.out]; exact below_alloc (Below.refl _ _) _, by omega, by omega⟩⟩
  case round =>
    obtain ⟨j, rfl, HI⟩ := hrel
    obtain ⟨hblk, hb, hj1, hj2⟩ := HI.out
    have hkb := HKB.out
    by_cases hl : j < k
    · have q1 : decide ((j : Int) < (k : Int)) = true := decide_eq_true (by omega)
      have q2 : decide (j < k) = true := decide_eq_true hl
      obtain ⟨a0, a1, a2⟩ := fl41_at (rwJ k j) j (by rw [rwJ_len hj2]; exact hl)
      have c0 := (blk_cell hblk (j * 3)).trans (by simpa using a0)
      have c1 := (blk_cell hblk (j * 3 + 1)).trans (by simpa using a1)
      have c2 := (blk_cell hblk (j * 3 + 2)).trans (by simpa using a2)
      have f0 := blk_frozen hblk (j * 3)
      have f1 := blk_frozen hblk (j * 3 + 1)
      have f2 := blk_frozen hblk (j * 3 + 2)
      have n1 : wrap64 (2 * (j : Int)) = 2 * (j : Int) := w64 (by omega)
      have n2 : wrap32 (2 * (j : Int)) = 2 * (j : Int) := by unfold wrap32; omega
      have p1 : (0 ≤ (j : Int)) = True := eq_true (by omega)
      have p2 : ((j : Int) < (k : Int)) = True := eq_true (by omega)
      have p3 : (j < k) = True := eq_true hl
      have HLJ := Aside0.mk hl
      clear hblk hb hj1 hj2 hkb hl a0 a1 a2
      go_wp2
      cases gk with
      | zero => have := HI.out.2.2.1; have := HLJ.out; omega
      | succ q =>
      go_roundg q
      case measure => omega
      case rel =>
        refine ⟨j + 1, by rw [w64 (by have := HLJ.out; have := HKB.out; omega)]; rfl, ⟨?_, ((HI.out.2.1.setCell (Nat.le_refl _) _).setCell (Nat.le_refl _) _).setCell (Nat.le_refl _) _, by have := HI.out.2.2.1; omega, by have := HLJ.out; omega⟩⟩
        rw [← rwJ_set k j HLJ.out, ← fl41_setA]
        exact blk_set (blk_set (blk_set HI.out.1 _ _) _ _) _ _
    · have q1 : decide ((j : Int) < (k : Int)) = false := decide_eq_false (by omega)
      have q2 : decide (j < k) = false := decide_eq_false hl
      obtain rfl : j = k := by omega
      have hlen := rwJ_len (Nat.le_refl j)
      by_cases hbig : 4096 < j
      · have q3 : decide (4096 < (j : Int)) = true := decide_eq_true (by omega)
        have q4 : decide (4096 < j) = true := decide_eq_true hbig
        generalize rwJ j j = xs at hblk hlen
        have hck : chkS xs = 10 := by unfold chkS; rw [if_pos (by omega)]
        have hB := build_bad wr (some ⟨W.heap.size, 0, none⟩) j xs 0 (C41_of hblk (by omega)) (by omega) (by rw [hck]; decide)
        rw [hck, hlen] at hB
        have HB := Aside0.mk hB
        obtain ⟨x, t, rfl⟩ : ∃ x t, xs = x :: t := by
          cases xs with
          | nil => simp at hlen; omega
          | cons x t => exact ⟨x, t, rfl⟩
        have HS := Aside0.mk (fun (w2 : World) (hb2 : Below wr.heap.size wr w2) => show (w2.setCell ⟨W.heap.size, 0, none⟩ (.int .i32 (-1))).heap[W.heap.size]? = some (.cells (fl41 ((⟨-1, x.f1, x.f2⟩ : S41) :: t)).toArray 41) by
          have e := blk_set (blk_below hblk hb2) 0 (.int .i32 (-1))
          rw [fl41_set0] at e
          exact e)
        have HB2 := Aside0.mk (fun (w2 : World) (h2 : w2.heap[W.heap.size]? = some (.cells (fl41 ((⟨-1, x.f1, x.f2⟩ : S41) :: t)).toArray 41)) => show Calls Try.prog 8 #[.slice (some ⟨W.heap.size, 0, none⟩) j j, .int .i64 0] w2 (fun e w' => e = .returned (.tuple #[.pointer none, .int .i64 10]) ∧ Below w2.heap.size w2 w') by
          have hl2 : ((⟨-1, x.f1, x.f2⟩ : S41) :: t).length = j := by simpa using hlen
          have hck2 : chkS ((⟨-1, x.f1, x.f2⟩ : S41) :: t) = 10 := by unfold chkS; rw [if_pos (by omega)]
          have := build_bad w2 (some ⟨W.heap.size, 0, none⟩) j _ 0 (C41_of h2 (by omega)) (by omega) (by rw [hck2]; decide)
          rw [hck2, hl2] at this
          exact this)
        have HBK := Aside0.mk hblk
        have HW := Aside0.mk hb
        have p2 : ((0 : Int) < (j : Int)) = True := eq_true (by omega)
        have p3 : (0 < j) = True := eq_true (by omega)
        clear hblk hb hj1 hj2 hkb hl hlen hbig hck hB
        go_wp2_with (first
          | (go_at_call 8; (with_reducible refine HB.out.mono ?_); rintro e w2 ⟨rfl, hb2⟩; have c0 : w2.cell? ⟨W.heap.size, 0, none⟩ = some (.int .i32 x.f0) := (blk_cell (blk_below HBK.out hb2) 0).trans (by simp [fl41]); have f0 := blk_frozen (blk_below HBK.out hb2) 0; have HS2 := Aside0.mk (HS.out w2 hb2); have HW2 := Aside0.mk (below_set0 (below_then HW.out HW.out.size hb2)); clear hb2)
          | (go_at_call 8; (with_reducible refine (HB2.out _ HS2.out).mono ?_); rintro e w3 ⟨rfl, hb3⟩; have HW3 := Aside0.mk (below_then HW2.out HW2.out.size hb3); clear hb3)
          | (go_at_call 6; refine (awake_calls _).mono ?_; rintro e w4 ⟨rfl, hb4⟩; have HW4 := Aside0.mk (below_then HW3.out HW3.out.size hb4); clear hb4))
        go_ret
        exact ⟨rfl, HW4.out⟩
      · have q3 : decide (4096 < (j : Int)) = false := decide_eq_false (by omega)
        have q4 : decide (4096 < j) = false := decide_eq_false hbig
        obtain ⟨hck, g1, g2⟩ := full_get j (by omega) (by omega)
        have hB := build_good wr (some ⟨W.heap.size, 0, none⟩) j (rwJ j j) 0 (C41_of hblk (by omega)) (by omega) (by decide) (fun x hx => by
          rw [rwJ_end] at hx
          obtain ⟨i, _, rfl⟩ := List.mem_map.1 hx
          show (Lit.int .i64 1).wf = true
          decide) hck
        rw [hlen] at hB
        generalize build 0 (rows3 (rwJ j j)) = s at hB g1 g2
        have HB := Aside0.mk hB
        have HG := Aside0.mk (And.intro g1 g2)
        have HW := Aside0.mk hb
        obtain ⟨ra, hra⟩ : ∃ x : Int, x = 2 * (j : Int) - 2 := ⟨_, rfl⟩
        obtain ⟨rb, hrb⟩ : ∃ x : Int, x = 2 * (j : Int) - 1 := ⟨_, rfl⟩
        have n1 : wrap64 (2 * (j : Int)) = 2 * (j : Int) := w64 (by omega)
        have n2 : wrap64 (2 * (j : Int) - 2) = ra := by rw [hra]; exact w64 (by omega)
        have n3 : wrap64 (2 * (j : Int) - 1) = rb := by rw [hrb]; exact w64 (by omega)
        have n4 : wrap32 ra = ra := by unfold wrap32; omega
        have n5 : wrap32 rb = rb := by unfold wrap32; omega
        rw [← hra, ← hrb] at HG
        clear hblk hb hj1 hj2 hkb hl hlen hbig hck hB g1 g2 hra hrb
        go_wp2_with (first
          | (go_at_call 8; (with_reducible refine HB.out.mono ?_); rintro e w2 ⟨TB, IX, bv, rfl, ht, hb2⟩; have G1 := Aside0.mk (fun (w' : World) (hw : Below w2.heap.size w2 w') => get_calls w' _ TB IX bv 0 s (ht.after hw) ra); have G2 := Aside0.mk (fun (w' : World) (hw : Below w2.heap.size w2 w') => get_calls w' _ TB IX bv 0 s (ht.after hw) rb); rw [HG.out.1] at G1; rw [HG.out.2] at G2; have HW2 := Aside0.mk (below_then HW.out HW.out.size hb2); have HX := Aside0.mk (Below.refl w2.heap.size w2); clear ht hb2)
          | (go_at_call 10; (with_reducible refine (G1.out _ HX.out).mono ?_); rintro e w3 ⟨rfl, hb3⟩; have HX := Aside0.mk (below_then HX.out HX.out.size hb3); clear hb3)
          | (go_at_call 10; (with_reducible refine (G2.out _ HX.out).mono ?_); rintro e w3 ⟨rfl, hb3⟩; have HX := Aside0.mk (below_then HX.out HX.out.size hb3); clear hb3)
          | (go_at_call 6; refine (awake_calls _).mono ?_; rintro e w4 ⟨rfl, hb4⟩; have HX := Aside0.mk (below_then HX.out HX.out.size hb4); clear hb4))
        go_ret
        exact ⟨rfl, below_then HW2.out HW2.out.size HX.out⟩
end Go.Proofs.Ytonmollpimoaoaa.Sa
