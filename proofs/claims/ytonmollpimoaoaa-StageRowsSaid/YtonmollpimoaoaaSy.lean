/- StageRows, walked. -/
import Derived.Test.YtonmollpimoaoaaSx
import Derived.Test.YtonmollpimoaoaaSp
namespace Go.Proofs.Ytonmollpimoaoaa.Sa
open Go.RowKit Go.Proofs.Ytonmollpimoaoaa.Stg Go.Proofs.YtonmollpimoaoaaW.PrintWords Go.Proofs.YtonmollpimoaoaaW.PrintLast Go.Proofs.YtonmollpimoaoaaW.PrintMore Go.Proofs.Ytonmollpimoaoaa.PStageTells
set_option linter.unusedVariables false
set_option linter.unusedSimpArgs false
theorem C41_own {w : World} {base : Nat} {v : Value} {xs : List S41} (h : w.ownsRow base 41 3 v xs.length (fl41 xs)) : ∃ A c, v = .slice A xs.length c ∧ xs.length ≤ c ∧ Kd.C k41 w A xs.length xs := by
  have hR : k41.R 41 w base (fun _ => True) v xs := ⟨fun _ _ => trivial, fl41 xs, h, fl41_reps _ _ _ xs⟩
  exact Kd.R_reads hR
theorem fl47_len : ∀ t : List S47, (fl47 t).length = t.length * 3
  | [] => rfl
  | x :: t => by simp only [fl47, List.length_cons, fl47_len t]; omega
theorem fl47_reps (w : World) (base : Nat) (ok : Nat → Prop) : ∀ t : List S47, Reps (k47.M w base ok) 3 t (fl47 t) := fun t => by
  refine ⟨fl47_len t, ?_⟩
  induction t with
  | nil => intro j p hj; simp at hj
  | cons x t ih =>
    intro j p hj
    cases j with
    | zero =>
      simp only [List.getElem?_cons_zero, Option.some.injEq] at hj
      subst hj
      simpa [fl47] using k47_mkM w base ok x
    | succ j =>
      simp only [List.getElem?_cons_succ] at hj
      have := ih j p hj
      rw [show (j + 1) * 3 = j * 3 + 1 + 1 + 1 by omega]
      simpa [fl47] using this
theorem C47_own {w : World} {base : Nat} {v : Value} {xs : List S47} (h : w.ownsRow base 47 3 v xs.length (fl47 xs)) : ∃ A c, v = .slice A xs.length c ∧ xs.length ≤ c ∧ Kd.C k47 w A xs.length xs := by
  have hR : k47.R 47 w base (fun _ => True) v xs := ⟨fun _ _ => trivial, fl47 xs, h, fl47_reps _ _ _ xs⟩
  exact Kd.R_reads hR
theorem rd_g47 (got : List S41) (i : Nat) (h : i < got.length) : rd_T47 (got.map g47) (i : Int) = g47 (rd_T41 got (i : Int)) ∧ rd_T41 got (i : Int) ∈ got := by
  unfold rd_T47 rd_T41
  rw [Int.toNat_natCast, List.getD_eq_getElem?_getD, List.getD_eq_getElem?_getD, List.getElem?_map, List.getElem?_eq_getElem h]
  exact ⟨rfl, List.getElem_mem _⟩
set_option maxRecDepth 20000 in
set_option maxHeartbeats 16000000 in
theorem srows_walk (W : World) (A : Option Addr) (cap : Nat) (ls : List S35) (o : Int) (h : Kd.C k35 W A ls.length ls) (hc : ls.length ≤ cap) (hok : ∀ x ∈ ls, Ok35 x) (ho : 0 ≤ o ∧ o ≤ 255) :
    Calls Try.prog 5 #[.slice A ls.length cap, .int .u8 o] W fun e w' => e = .returned (.bool true) ∧ Below W.heap.size W w' := by
  by_cases hb1 : 60 < ls.length
  · have q1 : decide (60 < (ls.length : Int)) = true := decide_eq_true (by omega)
    clear h hc hok ho hb1
    go_enter Try.func5, Try.ntmps5
    go_wp2_with (go_at_call 6; refine (awake_calls _).mono ?_; rintro e w4 ⟨rfl, hb4⟩; have HX := Aside0.mk hb4; clear hb4)
    go_ret
    exact ⟨rfl, HX.out⟩
  have hl60 : ls.length ≤ 60 := by omega
  have q1 : decide (60 < (ls.length : Int)) = false := decide_eq_false (by omega)
  have wo : wrap64 o = o := w64 (by omega)
  have HRO := Aside0.mk (rows_calls W A cap ls h hc hl60)
  have HL60 := Aside0.mk hl60
  have HC := Aside0.mk h
  have HO := Aside0.mk (show (Lit.int .i64 o).wf = true by simp [Lit.wf, IntKind.min, IntKind.max, IntKind.signed, IntKind.bits]; omega)
  have HCK := Aside0.mk (fun (w : World) (A : Option Addr) (c : Nat) (h : Kd.C k47 w A ls.length (ls.map to47)) (hc : ls.length ≤ c) => show Calls Try.prog 9 #[.slice A ls.length c] w (fun e w' => e = .returned (.int .i64 (chkS (ls.map to41))) ∧ Below w.heap.size w w') by
    have h' : Kd.C k47 w A (ls.map to47).length (ls.map to47) := by rw [List.length_map]; exact h
    have := monikerref05_Check.calls 200 A c (ls.map to47) _ w h' (by rw [List.length_map]; exact hc) (check47_ev (ls.map to41) (ls.map to47) (same_of ls hok) (by rw [List.length_map]; exact hl60))
    rw [List.length_map] at this
    exact this.mono fun e w' ⟨he, hd⟩ => ⟨he, hd.below⟩)
  by_cases hk : chkS (ls.map to41) = 0
  · obtain ⟨u, got, want, hL⟩ := law5 o ls hok HO.out hl60 hk
    have HBU := Aside0.mk (fun (w : World) (A : Option Addr) (c : Nat) (h : Kd.C k41 w A ls.length (ls.map to41)) (hc : ls.length ≤ c) => show Calls Try.prog 8 #[.slice A ls.length c, .int .i64 o] w (fun e w' => ∃ TB IX bv, e = .returned (.tuple #[.pointer (some ⟨TB, 0, none⟩), .int .i64 0]) ∧ Tb w' w.heap.size TB IX bv o (build o (rows3 (ls.map to41))) ∧ Below w.heap.size w w') by
      have h' : Kd.C k41 w A (ls.map to41).length (ls.map to41) := by rw [List.length_map]; exact h
      have := build_good w A c (ls.map to41) o h' (by rw [List.length_map]; exact hc) HO.out (fun x hx => by
        obtain ⟨y, hy, rfl⟩ := List.mem_map.1 hx
        obtain ⟨_, _, b⟩ := hok y hy
        show (Lit.int .i64 (wrap64 y.f2)).wf = true
        exact wrap64_wf _) hk
      rw [List.length_map] at this
      exact this)
    generalize build o (rows3 (ls.map to41)) = s at HBU hL
    have HBU2 := Aside0.mk (fun (w : World) (A : Option Addr) (c : Nat) (h : Kd.C k41 w A got.length got) (hc : got.length ≤ c) => show Calls Try.prog 8 #[.slice A got.length c, .int .i64 o] w (fun e w' => ∃ TB IX bv, e = .returned (.tuple #[.pointer (some ⟨TB, 0, none⟩), .int .i64 0]) ∧ Tb w' w.heap.size TB IX bv o u ∧ Below w.heap.size w w') by
      have := build_good w A c got o h hc HO.out hL.wf hL.ck
      rw [hL.bu] at this
      exact this)
    have HFW := Aside0.mk (fun (w : World) (A : Option Addr) (c : Nat) (h : Kd.C k47 w A ls.length (ls.map to47)) (hc : ls.length ≤ c) => show Calls Try.prog 12 #[.slice A ls.length c, .int .i64 o] w (fun e w' => ∃ A' c', e = .returned (.slice A' got.length c') ∧ got.length ≤ c' ∧ Kd.C k47 w' A' got.length want ∧ Below w.heap.size w w') by
      have h' : Kd.C k47 w A (ls.map to47).length (ls.map to47) := by rw [List.length_map]; exact h
      have := few_calls w A c (ls.map to47) o h' (by rw [List.length_map]; exact hc) (by rw [List.length_map]; omega)
      rw [List.length_map, hL.few] at this
      refine this.mono ?_
      rintro e w' ⟨v', rfl, ho', hb'⟩
      obtain ⟨A', c', rfl, h1, h2⟩ := C47_own ho'
      have hwl : want.length = got.length := by rw [← hL.eq, List.length_map]
      rw [hwl] at h1 h2 ⊢
      exact ⟨A', c', rfl, h1, h2, hb'⟩)
    have HRW := Aside0.mk (fun (w : World) (b0 TB IX : Nat) (bv : Value) (h : Tb w b0 TB IX bv o s) => show Calls Try.prog 13 #[.pointer (some ⟨TB, 0, none⟩)] w (fun e w' => ∃ A' c', e = .returned (.slice A' got.length c') ∧ got.length ≤ c' ∧ Kd.C k41 w' A' got.length got ∧ Below w.heap.size w w') by
      have := trows_calls w b0 TB IX bv o s h hL.ns
      rw [hL.rows] at this
      refine this.mono ?_
      rintro e w' ⟨v', rfl, ho', hb'⟩
      obtain ⟨A', c', rfl, h1, h2⟩ := C41_own ho'
      exact ⟨A', c', rfl, h1, h2, hb'⟩)
    obtain ⟨D, hD⟩ : ∃ x : Int, x = ((dcS s.idx [] : Nat) : Int) := ⟨_, rfl⟩
    have HBL := Aside0.mk (fun (w : World) (b0 TB IX : Nat) (bv : Value) (h : Tb w b0 TB IX bv o s) => show Calls Try.prog 14 #[.pointer (some ⟨TB, 0, none⟩)] w (fun e w' => e = .returned (.int .i64 D) ∧ Below w.heap.size w w') by
      have := blocks_calls w b0 TB IX bv o s h hL.ns
      rw [← hD] at this
      exact this)
    have HBM := Aside0.mk (fun (w : World) (b0 TB IX : Nat) (bv : Value) (h : Tb w b0 TB IX bv o u) => show Calls Try.prog 14 #[.pointer (some ⟨TB, 0, none⟩)] w (fun e w' => e = .returned (.int .i64 D) ∧ Below w.heap.size w w') by
      have := blocks_calls w b0 TB IX bv o u h hL.nu
      rw [hL.be, ← hD] at this
      exact this)
    have HLL := Aside0.mk hL
    obtain ⟨L3, hL3⟩ : ∃ x : Int, x = 3 * (ls.length : Int) := ⟨_, rfl⟩
    have n1 : wrap64 (3 * (ls.length : Int)) = L3 := by rw [hL3]; exact w64 (by omega)
    have n2 : wrap64 (L3 + 1) = L3 + 1 := w64 (by omega)
    have hd1 := hL.bs
    have hd2 := hL.b1
    have q5 : decide (L3 + 1 < D) = false := decide_eq_false (by omega)
    have q6 : decide (D < 1) = false := decide_eq_false (by omega)
    rw [hk] at HCK
    clear h hc hok ho hb1 hl60 hk hL hD hL3 hd1 hd2
    go_enter Try.func5, Try.ntmps5
    go_wp2_with (first
      | (go_at_call 7; refine HRO.out.mono ?_; rintro e w1 ⟨B1, c1, B2, c2, rfl, k1, l1, k2, l2, hb1⟩; have HK1 := Aside0.mk (And.intro k1 l1); have HK2 := Aside0.mk (And.intro k2 l2); have HB1 := Aside0.mk hb1; clear k1 l1 k2 l2 hb1)
      | (go_at_call 8; (with_reducible refine (HBU.out _ _ _ HK1.out.1 HK1.out.2).mono ?_); rintro e w2 ⟨TB, IX, bv, rfl, ht, hb2⟩; have HT := Aside0.mk ht; have HK3 := Aside0.mk (Kd.C_below HK2.out.1 hb2); have HB2 := Aside0.mk (below_then HB1.out HB1.out.size hb2); clear ht hb2)
      | (go_at_call 9; refine (HCK.out _ _ _ HK3.out HK2.out.2).mono ?_; rintro e w3 ⟨rfl, hb3⟩; have HT3 := Aside0.mk (HT.out.after hb3); have HK4 := Aside0.mk (Kd.C_below HK3.out hb3); have HB3 := Aside0.mk (below_then HB2.out HB2.out.size hb3); clear hb3)
      | (go_at_call 12; refine (HFW.out _ _ _ HK4.out HK2.out.2).mono ?_; rintro e w4 ⟨B4, c4, rfl, l4, k4, hb4⟩; have HT4 := Aside0.mk (HT3.out.after hb4); have HW4 := Aside0.mk k4; have HL4 := Aside0.mk l4; have HB4 := Aside0.mk (below_then HB3.out HB3.out.size hb4); clear hb4 k4 l4)
      | (go_at_call 13; refine (HRW.out _ _ _ _ _ HT4.out).mono ?_; rintro e w5 ⟨B5, c5, rfl, l5, k5, hb5⟩; have HT5 := Aside0.mk (HT4.out.after hb5); have HW5 := Aside0.mk (Kd.C_below HW4.out hb5); have HG5 := Aside0.mk k5; have HL5 := Aside0.mk l5; have HB5 := Aside0.mk (below_then HB4.out HB4.out.size hb5); have HP := Aside0.mk (Below.refl w5.heap.size w5); clear hb5 k5 l5)
      | (go_at_call 14; (with_reducible refine (HBL.out _ _ _ _ _ (HT5.out.after HP.out)).mono ?_); rintro e w6 ⟨rfl, hb6⟩; have HP := Aside0.mk (below_then HP.out HP.out.size hb6); clear hb6))
    go_loopg [74] (got.length + 1) (fun kq v74 wr => ∃ (j : Nat), v74 = .int .i64 (j : Int) ∧ Aside0 (Below w5.heap.size w5 wr ∧ j + kq = got.length + 1 ∧ j ≤ got.length))
    case atStart => exact ⟨0, rfl, ⟨HP.out, by omega, by omega⟩⟩
    case round =>
      obtain ⟨j, rfl, HI⟩ := hrel
      obtain ⟨hb, hj1, hj2⟩ := HI.out
      have hg60 := HLL.out.len
      by_cases hl : j < got.length
      · have q7 : decide ((j : Int) < (got.length : Int)) = true := decide_eq_true (by omega)
        have q8 : decide (j < got.length) = true := decide_eq_true hl
        obtain ⟨ad, hA, x0, x1, x2⟩ := at_T41 (Kd.C_below HG5.out hb) (j : Int) (by omega) (by omega)
        subst hA
        obtain ⟨ae, hE, y0, y1, y2⟩ := at_T47 (Kd.C_below HW5.out hb) (j : Int) (by omega) (by omega)
        subst hE
        rw [Int.toNat_natCast] at x0 x1 x2 y0 y1 y2
        obtain ⟨g1, g2⟩ := rd_g47 got j hl
        rw [HLL.out.eq] at g1
        rw [g1] at y0 y1 y2
        have hgr := HLL.out.gr _ g2
        generalize rd_T41 got (j : Int) = x at x0 x1 x2 y0 y1 y2 hgr
        obtain ⟨f0, f1, f2⟩ := x
        unfold g47 at y0 y1 y2
        simp only at x0 x1 x2 y0 y1 y2 hgr
        have m0 : wrap64 f0 = f0 := w64 (by omega)
        have m1 : wrap64 f1 = f1 := w64 (by omega)
        have hblk := blk_new wr (.cells #[.int .i32 f0, .int .i32 f1, .int .i64 f2] 41)
        have ba := below_alloc (Below.refl wr.heap.size wr) (.cells #[.int .i32 f0, .int .i32 f1, .int .i64 f2] 41)
        have b0 := blk_cell hblk 0
        have b1 := blk_cell hblk 1
        have b2 := blk_cell hblk 2
        replace y0 := pw_cell_below ba y0
        replace y1 := pw_cell_below ba y1
        replace y2 := pw_cell_below ba y2
        have p1 : (0 ≤ (j : Int)) = True := eq_true (by omega)
        have p2 : ((j : Int) < (got.length : Int)) = True := eq_true (by omega)
        have p3 : (j < got.length) = True := eq_true hl
        have HX := Aside0.mk (show Below w5.heap.size w5 (wr.alloc (.cells #[.int .i32 f0, .int .i32 f1, .int .i64 f2] 41)) from below_alloc hb _)
        have HLJ := Aside0.mk hl
        clear hb hj1 hj2 hg60 hl g1 g2 hgr hblk ba
        go_wp2
        go_region
        go_wp2
        cases gk with
        | zero => have := HI.out.2.1; have := HLJ.out; omega
        | succ q =>
        go_roundg q
        case measure => omega
        case rel => exact ⟨j + 1, by rw [w64 (by have := HLJ.out; have := HLL.out.len; omega)]; rfl, ⟨⟨HX.out.os, HX.out.tape, HX.out.output, HX.out.size, HX.out.block⟩, by have := HI.out.2.1; omega, by have := HLJ.out; omega⟩⟩
      · have q7 : decide ((j : Int) < (got.length : Int)) = false := decide_eq_false (by omega)
        have q8 : decide (j < got.length) = false := decide_eq_false hl
        have HB6 := Aside0.mk hb
        have HG6 := Aside0.mk (Kd.C_below HG5.out hb)
        have HT6 := Aside0.mk (HT5.out.after hb)
        clear hb hj1 hj2 hg60 hl
        go_wp2_with (first
          | (go_at_call 8; (with_reducible refine (HBU2.out _ _ _ HG6.out HL5.out).mono ?_); rintro e w7 ⟨TU, IU, bu, rfl, ht, hb7⟩; have HU7 := Aside0.mk ht; have HT7 := Aside0.mk (HT6.out.after hb7); have HB7 := Aside0.mk (below_then HB6.out HB6.out.size hb7); have HQ := Aside0.mk (Below.refl w7.heap.size w7); clear ht hb7)
          | (go_at_call 14; (with_reducible refine (HBM.out _ _ _ _ _ (HU7.out.after HQ.out)).mono ?_); rintro e w8 ⟨rfl, hb8⟩; have HQ := Aside0.mk (below_then HQ.out HQ.out.size hb8); clear hb8)
          | (go_at_call 14; (with_reducible refine (HBL.out _ _ _ _ _ (HT7.out.after HQ.out)).mono ?_); rintro e w8 ⟨rfl, hb8⟩; have HQ := Aside0.mk (below_then HQ.out HQ.out.size hb8); clear hb8))
        have HW7 := Aside0.mk (below_then HB5.out HB5.out.size HB7.out)
        go_loopg [132] (ls.length + 1) (fun kq v132 wr => ∃ (i : Nat), v132 = .int .i64 (i : Int) ∧ Aside0 (Below w7.heap.size w7 wr ∧ i + kq = ls.length + 1 ∧ i ≤ ls.length))
        case atStart => exact ⟨0, rfl, ⟨HQ.out, by omega, by omega⟩⟩
        case round =>
          obtain ⟨i, rfl, HJ⟩ := hrel
          obtain ⟨hbq, hi1, hi2⟩ := HJ.out
          have hl60 := HL60.out
          by_cases hlt : i < ls.length
          · have r7 : decide ((i : Int) < (ls.length : Int)) = true := decide_eq_true (by omega)
            have r8 : decide (i < ls.length) = true := decide_eq_true hlt
            obtain ⟨ad, hA, x0, x1, x2⟩ := at_T35 (Kd.C_below (Kd.C_below HC.out HW7.out) hbq) (i : Int) (by omega) (by omega)
            subst hA
            rw [Int.toNat_natCast] at x0 x1 x2
            have hmem : rd_T35 ls (i : Int) ∈ ls := by
              have := drop35 ls i hlt
              exact List.mem_of_mem_drop (by rw [this]; exact List.mem_cons_self ..)
            have hrg := HLL.out.rg _ hmem
            generalize rd_T35 ls (i : Int) = x at x0 x1 x2 hrg
            obtain ⟨f0, f1, f2⟩ := x
            simp only at x0 x1 x2 hrg
            have hblk := blk_new wr (.cells #[.int .i32 f0, .int .i32 f1, .int .u8 f2] 35)
            have bb := below_alloc hbq (.cells #[.int .i32 f0, .int .i32 f1, .int .u8 f2] 35)
            have p1 : (0 ≤ (i : Int)) = True := eq_true (by omega)
            have p2 : ((i : Int) < (ls.length : Int)) = True := eq_true (by omega)
            have p3 : (i < ls.length) = True := eq_true hlt
            have HU := Aside0.mk (fun (w' : World) (hb : Below w7.heap.size w7 w') (r : Int) (h0 : 0 ≤ r ∧ r ≤ 1114111) => show Calls Try.prog 10 #[.pointer (some ⟨TU, 0, none⟩), .int .i32 r] w' (fun e w'' => e = .returned (.int .i64 (getS o s r)) ∧ Below w'.heap.size w' w'') by
              have := get_calls w' _ TU IU bu o u (HU7.out.after hb) r
              rw [HLL.out.gt r h0.1 h0.2] at this
              exact this)
            have HS := Aside0.mk (fun (w' : World) (hb : Below w7.heap.size w7 w') (r : Int) => get_calls w' _ TB IX bv o s (HT7.out.after hb) r)
            have HRG := Aside0.mk hrg
            have HLT := Aside0.mk hlt
            have HBX := Aside0.mk bb
            have HBK := Aside0.mk hblk
            clear hbq hi1 hi2 hl60 hlt hmem hrg hblk bb
            cases gk with
            | zero => have := HJ.out.2.1; have := HLT.out; omega
            | succ q =>
            go_wp2
            have hX4 := HBK.out
            have hB4 := HBX.out
            generalize (wr.alloc (.cells #[.int .i32 f0, .int .i32 f1, .int .u8 f2] 35)) = W4 at hX4 hB4 ⊢
            generalize wr.heap.size = g at hX4 ⊢
            have n0 : W4.drew.cell? ⟨g, 0, none⟩ = some (.int .i32 f0) := (blk_cell hX4 0).trans rfl
            have n1' : W4.drew.cell? ⟨g, 1, none⟩ = some (.int .i32 f1) := (blk_cell hX4 1).trans rfl
            have n3 : Below w7.heap.size w7 W4.drew := ⟨hB4.os, hB4.tape, hB4.output, hB4.size, hB4.block⟩
            clear hX4 hB4
            go_region_held3 (fun W' => W'.cell? ⟨g, 0, none⟩ = some (.int .i32 f0) ∧ W'.cell? ⟨g, 1, none⟩ = some (.int .i32 f1) ∧ Below w7.heap.size w7 W') (refine ⟨?_, ?_, ?_⟩ <;> assumption) (first
              | (go_at_call 10; (with_reducible refine (HU.out _ (by assumption) _ HRG.out.1).mono ?_); rintro e w5 ⟨rfl, hb5⟩; have k0 := pw_cell_below hb5 (v := .int .i32 f0) (a := ⟨g, 0, none⟩) (by assumption); have k1 := pw_cell_below hb5 (v := .int .i32 f1) (a := ⟨g, 1, none⟩) (by assumption); have hb6 : Below w7.heap.size w7 w5 := below_then (by assumption) (Below.size (by assumption)) hb5; clear hb5)
              | (go_at_call 10; (with_reducible refine (HS.out _ (by assumption) f0).mono ?_); rintro e w5 ⟨rfl, hb5⟩; have k0 := pw_cell_below hb5 (v := .int .i32 f0) (a := ⟨g, 0, none⟩) (by assumption); have k1 := pw_cell_below hb5 (v := .int .i32 f1) (a := ⟨g, 1, none⟩) (by assumption); have hb6 : Below w7.heap.size w7 w5 := below_then (by assumption) (Below.size (by assumption)) hb5; clear hb5)
              | (go_at_call 10; (with_reducible refine (HU.out _ (by assumption) _ HRG.out.2).mono ?_); rintro e w5 ⟨rfl, hb5⟩; have k0 := pw_cell_below hb5 (v := .int .i32 f0) (a := ⟨g, 0, none⟩) (by assumption); have k1 := pw_cell_below hb5 (v := .int .i32 f1) (a := ⟨g, 1, none⟩) (by assumption); have hb6 : Below w7.heap.size w7 w5 := below_then (by assumption) (Below.size (by assumption)) hb5; clear hb5)
              | (go_at_call 10; (with_reducible refine (HS.out _ (by assumption) f1).mono ?_); rintro e w5 ⟨rfl, hb5⟩; have k0 := pw_cell_below hb5 (v := .int .i32 f0) (a := ⟨g, 0, none⟩) (by assumption); have k1 := pw_cell_below hb5 (v := .int .i32 f1) (a := ⟨g, 1, none⟩) (by assumption); have hb6 : Below w7.heap.size w7 w5 := below_then (by assumption) (Below.size (by assumption)) hb5; clear hb5))
            all_goals go_wp2
            all_goals go_roundg q
            case measure => omega
            case rel => exact ⟨i + 1, by rw [w64 (by have := HLT.out; have := HL60.out; omega)]; rfl, ⟨by assumption, by have := HJ.out.2.1; omega, by have := HLT.out; omega⟩⟩
          · have r7 : decide ((i : Int) < (ls.length : Int)) = false := decide_eq_false (by omega)
            have r8 : decide (i < ls.length) = false := decide_eq_false hlt
            have HBQ := Aside0.mk hbq
            clear hbq hi1 hi2 hl60 hlt
            go_wp2_with (go_at_call 6; refine (awake_calls _).mono ?_; rintro e w9 ⟨rfl, hb9⟩; have HX := Aside0.mk (below_then HBQ.out HBQ.out.size hb9); clear hb9)
            go_ret
            exact ⟨rfl, below_then HW7.out HW7.out.size HX.out⟩
  · have HBU := Aside0.mk (fun (w : World) (A : Option Addr) (c : Nat) (h : Kd.C k41 w A ls.length (ls.map to41)) (hc : ls.length ≤ c) => show Calls Try.prog 8 #[.slice A ls.length c, .int .i64 o] w (fun e w' => e = .returned (.tuple #[.pointer none, .int .i64 (chkS (ls.map to41))]) ∧ Below w.heap.size w w') by
      have h' : Kd.C k41 w A (ls.map to41).length (ls.map to41) := by rw [List.length_map]; exact h
      have := build_bad w A c (ls.map to41) o h' (by rw [List.length_map]; exact hc) hk
      rw [List.length_map] at this
      exact this)
    generalize chkS (ls.map to41) = ck at HBU HCK hk
    have q3 : (ck != 0) = true := bne_iff_ne.2 hk
    clear h hc hok ho hb1 hl60
    go_enter Try.func5, Try.ntmps5
    go_wp2_with (first
      | (go_at_call 7; refine HRO.out.mono ?_; rintro e w1 ⟨B1, c1, B2, c2, rfl, k1, l1, k2, l2, hb1⟩; have HK1 := Aside0.mk (And.intro k1 l1); have HK2 := Aside0.mk (And.intro k2 l2); have HB1 := Aside0.mk hb1; clear k1 l1 k2 l2 hb1)
      | (go_at_call 8; refine (HBU.out _ _ _ HK1.out.1 HK1.out.2).mono ?_; rintro e w2 ⟨rfl, hb2⟩; have HK3 := Aside0.mk (Kd.C_below HK2.out.1 hb2); have HB2 := Aside0.mk (below_then HB1.out HB1.out.size hb2); clear hb2)
      | (go_at_call 9; refine (HCK.out _ _ _ HK3.out HK2.out.2).mono ?_; rintro e w3 ⟨rfl, hb3⟩; have HB3 := Aside0.mk (below_then HB2.out HB2.out.size hb3); clear hb3)
      | (go_at_call 6; refine (awake_calls _).mono ?_; rintro e w4 ⟨rfl, hb4⟩; have HX := Aside0.mk (below_then HB3.out HB3.out.size hb4); clear hb4))
    go_ret
    exact ⟨rfl, HX.out⟩
end Go.Proofs.Ytonmollpimoaoaa.Sa
