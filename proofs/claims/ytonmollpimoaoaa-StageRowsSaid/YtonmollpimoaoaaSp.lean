/- StageTells, walked. -/
import Derived.Test.YtonmollpimoaoaaSo
namespace Go.Proofs.Ytonmollpimoaoaa.Sa
open Go.RowKit Go.Proofs.Ytonmollpimoaoaa.Stg Go.Proofs.YtonmollpimoaoaaW.PrintWords Go.Proofs.YtonmollpimoaoaaW.PrintLast Go.Proofs.YtonmollpimoaoaaW.PrintMore Go.Proofs.Ytonmollpimoaoaa.PStageTells
set_option linter.unusedVariables false
set_option linter.unusedSimpArgs false
theorem rows_calls (W : World) (A : Option Addr) (c : Nat) (ls : List S35) (h : Kd.C k35 W A ls.length ls) (hc : ls.length ≤ c) (hl : ls.length ≤ 60) :
    Calls Try.prog 7 #[.slice A ls.length c] W fun e w' => ∃ A1 c1 A2 c2, e = .returned (.tuple #[.slice A1 ls.length c1, .slice A2 ls.length c2]) ∧ Kd.C k41 w' A1 ls.length (ls.map to41) ∧ ls.length ≤ c1 ∧ Kd.C k47 w' A2 ls.length (ls.map to47) ∧ ls.length ≤ c2 ∧ Below W.heap.size W w' := by
  refine (monikerlaw05_rows.calls 100 A c ls _ _ W h hc (rows_ev ls hl)).mono ?_
  rintro e w' ⟨v0, v1, rfl, h0, h1, hb⟩
  obtain ⟨A1, c1, rfl, l1, C1⟩ := Kd.R_reads h0
  obtain ⟨A2, c2, rfl, l2, C2⟩ := Kd.R_reads h1
  rw [List.length_map] at l1 l2 C1 C2
  exact ⟨A1, c1, A2, c2, by rw [List.length_map, List.length_map], C1, l1, C2, l2, hb⟩
attribute [-go_sem] Builtin.append_
set_option maxHeartbeats 16000000 in
theorem tells_walk (W : World) (A : Option Addr) (cap : Nat) (ls : List S35) (o : Int) (A2 : Option Addr) (n2 cap2 : Nat) (asks : List Int) (h : Kd.C k35 W A ls.length ls) (hc : ls.length ≤ cap) (hok : ∀ x ∈ ls, Ok35 x) (ho : 0 ≤ o ∧ o ≤ 255) (ha : RI W A2 n2 asks) (hc2 : n2 ≤ cap2) :
    Calls Try.prog 3 #[.slice A ls.length cap, .int .u8 o, .slice A2 n2 cap2] W fun e w' => e = .returned (.bool true) ∧ Below W.heap.size W w' := by
  have HW0 := Aside0.mk (Below.refl W.heap.size W)
  by_cases hbig : 60 < ls.length ∨ 60 < n2
  · by_cases hb1 : 60 < ls.length
    · have q1 : decide (60 < (ls.length : Int)) = true := decide_eq_true (by omega)
      clear h hc hok ho ha hc2 hbig hb1
      go_enter Try.func3, Try.ntmps3
      go_wp2_with (go_at_call 6; refine (awake_calls _).mono ?_; rintro e w4 ⟨rfl, hb4⟩; have HX := Aside0.mk hb4; clear hb4)
      go_ret
      exact ⟨rfl, HX.out⟩
    · have q1 : decide (60 < (ls.length : Int)) = false := decide_eq_false (by omega)
      have q2 : decide (60 < (n2 : Int)) = true := decide_eq_true (by omega)
      clear h hc hok ho ha hc2 hbig hb1
      go_enter Try.func3, Try.ntmps3
      go_wp2_with (go_at_call 6; refine (awake_calls _).mono ?_; rintro e w4 ⟨rfl, hb4⟩; have HX := Aside0.mk hb4; clear hb4)
      go_ret
      exact ⟨rfl, HX.out⟩
  have hl60 : ls.length ≤ 60 := by omega
  have q1 : decide (60 < (ls.length : Int)) = false := decide_eq_false (by omega)
  have q2 : decide (60 < (n2 : Int)) = false := decide_eq_false (by omega)
  have wo : wrap64 o = o := w64 (by omega)
  have HRO := Aside0.mk (rows_calls W A cap ls h hc hl60)
  have HOK := Aside0.mk hok
  have HL60 := Aside0.mk (And.intro hl60 (show n2 ≤ 60 by omega))
  have HC := Aside0.mk h
  have HA := Aside0.mk (And.intro ha hc2)
  have HO := Aside0.mk (show (Lit.int .i64 o).wf = true by simp [Lit.wf, IntKind.min, IntKind.max, IntKind.signed, IntKind.bits]; omega)
  have HCK := Aside0.mk (fun (w : World) (A : Option Addr) (c : Nat) (h : Kd.C k47 w A ls.length (ls.map to47)) (hc : ls.length ≤ c) => show Calls Try.prog 9 #[.slice A ls.length c] w (fun e w' => e = .returned (.int .i64 (chkS (ls.map to41))) ∧ Below w.heap.size w w') by
    have h' : Kd.C k47 w A (ls.map to47).length (ls.map to47) := by rw [List.length_map]; exact h
    have := monikerref05_Check.calls 200 A c (ls.map to47) _ w h' (by rw [List.length_map]; exact hc) (check47_ev (ls.map to41) (ls.map to47) (same_of ls hok) (by rw [List.length_map]; exact hl60))
    rw [List.length_map] at this
    exact this.mono fun e w' ⟨he, hd⟩ => ⟨he, hd.below⟩)
  have HGT := Aside0.mk (fun (w : World) (A : Option Addr) (c : Nat) (r : Int) (h : Kd.C k47 w A ls.length (ls.map to47)) (hc : ls.length ≤ c) => show Calls Try.prog 11 #[.slice A ls.length c, .int .i64 o, .int .i64 r] w (fun e w' => e = .returned (.int .i64 (rGet o (ls.map to47) r)) ∧ Below w.heap.size w w') by
    have h' : Kd.C k47 w A (ls.map to47).length (ls.map to47) := by rw [List.length_map]; exact h
    have := monikerref05_Get.calls 100 A c (ls.map to47) o r _ w h' (by rw [List.length_map]; exact hc) (get47_ev o r (ls.map to47) (by rw [List.length_map]; exact hl60))
    rw [List.length_map] at this
    exact this.mono fun e w' ⟨he, hd⟩ => ⟨he, hd.below⟩)
  by_cases hk : chkS (ls.map to41) = 0
  · have HBU := Aside0.mk (fun (w : World) (A : Option Addr) (c : Nat) (h : Kd.C k41 w A ls.length (ls.map to41)) (hc : ls.length ≤ c) => show Calls Try.prog 8 #[.slice A ls.length c, .int .i64 o] w (fun e w' => ∃ TB IX bv, e = .returned (.tuple #[.pointer (some ⟨TB, 0, none⟩), .int .i64 0]) ∧ Tb w' w.heap.size TB IX bv o (build o (rows3 (ls.map to41))) ∧ Below w.heap.size w w') by
      have h' : Kd.C k41 w A (ls.map to41).length (ls.map to41) := by rw [List.length_map]; exact h
      have := build_good w A c (ls.map to41) o h' (by rw [List.length_map]; exact hc) HO.out (fun x hx => by
        obtain ⟨y, hy, rfl⟩ := List.mem_map.1 hx
        obtain ⟨_, _, b⟩ := hok y hy
        show (Lit.int .i64 (wrap64 y.f2)).wf = true
        exact wrap64_wf _) hk
      rw [List.length_map] at this
      exact this)
    have HEQ := Aside0.mk (fun r => tells_eq o ls hok hk r)
    rw [hk] at HCK
    generalize build o (rows3 (ls.map to41)) = s at HBU HEQ
    clear h hc hok ho ha hc2 hbig hl60 hk
    go_enter Try.func3, Try.ntmps3
    go_wp2_with (first
      | (go_at_call 7; refine HRO.out.mono ?_; rintro e w1 ⟨B1, c1, B2, c2, rfl, k1, l1, k2, l2, hb1⟩; have HK1 := Aside0.mk (And.intro k1 l1); have HK2 := Aside0.mk (And.intro k2 l2); have HB1 := Aside0.mk hb1; clear k1 l1 k2 l2 hb1)
      | (go_at_call 8; refine (HBU.out _ _ _ HK1.out.1 HK1.out.2).mono ?_; rintro e w2 ⟨TB, IX, bv, rfl, ht, hb2⟩; have HT := Aside0.mk ht; have HK3 := Aside0.mk (Kd.C_below HK2.out.1 hb2); have HB2 := Aside0.mk (below_then HB1.out HB1.out.size hb2); clear ht hb2)
      | (go_at_call 9; refine (HCK.out _ _ _ HK3.out HK2.out.2).mono ?_; rintro e w3 ⟨rfl, hb3⟩; have HT3 := Aside0.mk (HT.out.after hb3); have HK4 := Aside0.mk (Kd.C_below HK3.out hb3); have HB3 := Aside0.mk (below_then HB2.out HB2.out.size hb3); clear hb3))
    go_loopg [2, 60] (ls.length + 1) (fun kq v2 v60 wr => ∃ (j : Nat) (B : Option Addr) (m c : Nat), v2 = .slice B m c ∧ v60 = .int .i64 (j : Int) ∧ Aside0 (∃ la, RI wr B m la ∧ m ≤ c ∧ m ≤ 60 + 4 * j ∧ Below w3.heap.size w3 wr ∧ j + kq = ls.length + 1 ∧ j ≤ ls.length))
    case atStart => exact ⟨0, A2, n2, cap2, rfl, rfl, ⟨asks, HA.out.1.after HB3.out, HA.out.2, by have := HL60.out.2; omega, Below.refl _ _, by omega, by omega⟩⟩
    case round =>
      obtain ⟨j, B, m, c, rfl, rfl, HI⟩ := hrel
      obtain ⟨la, hri, hmc, hm, hb, hj1, hj2⟩ := HI.out
      have hl60 := HL60.out.1
      by_cases hl : j < ls.length
      · have q3 : decide ((j : Int) < (ls.length : Int)) = true := decide_eq_true (by omega)
        have q4 : decide (j < ls.length) = true := decide_eq_true hl
        obtain ⟨ad, hA, x0, x1, x2⟩ := at_T35 (Kd.C_below (Kd.C_below HC.out HB3.out) hb) (j : Int) (by omega) (by omega)
        subst hA
        rw [Int.toNat_natCast] at x0 x1 x2
        have hmem : rd_T35 ls (j : Int) ∈ ls := by
          have := drop35 ls j hl
          exact List.mem_of_mem_drop (by rw [this]; exact List.mem_cons_self ..)
        have hok35 := HOK.out _ hmem
        generalize rd_T35 ls (j : Int) = x at x0 x1 x2 hok35
        obtain ⟨f0, f1, f2⟩ := x
        simp only at x0 x1 x2
        obtain ⟨o1, o2, o3⟩ := hok35
        replace o1 : R32 f0 := o1
        replace o2 : R32 f1 := o2
        have r1 : R32 (wrap32 (f0 - 1)) := by unfold R32 wrap32; omega
        have r2 : R32 (wrap32 (f1 + 1)) := by unfold R32 wrap32; omega
        have ba := below_alloc (Below.refl wr.heap.size wr) (.cells #[.int .i32 f0, .int .i32 f1, .int .u8 f2] 35)
        have bb := below_alloc ba (.cells #[.int .i32 f0, .int .i32 f1, .int .i32 (wrap32 (f0 - 1)), .int .i32 (wrap32 (f1 + 1))] 21)
        obtain ⟨B', c', w5, hrun, hc', hri', hb5⟩ := ask_append ((wr.alloc (.cells #[.int .i32 f0, .int .i32 f1, .int .u8 f2] 35)).alloc (.cells #[.int .i32 f0, .int .i32 f1, .int .i32 (wrap32 (f0 - 1)), .int .i32 (wrap32 (f1 + 1))] 21)).drew B m la (wr.heap.size + 1) f0 f1 (wrap32 (f0 - 1)) (wrap32 (f1 + 1)) (hri.after ⟨bb.os, bb.tape, bb.output, bb.size, bb.block⟩) (by omega) ⟨o1, o2, r1, r2⟩ (by
          have := blk_new (wr.alloc (.cells #[.int .i32 f0, .int .i32 f1, .int .u8 f2] 35)) (.cells #[.int .i32 f0, .int .i32 f1, .int .i32 (wrap32 (f0 - 1)), .int .i32 (wrap32 (f1 + 1))] 21)
          rw [show (wr.alloc (.cells #[.int .i32 f0, .int .i32 f1, .int .u8 f2] 35)).heap.size = wr.heap.size + 1 from Array.size_push _] at this
          exact this)
        have hblk := blk_new wr (.cells #[.int .i32 f0, .int .i32 f1, .int .u8 f2] 35)
        have b0 := blk_cell hblk 0
        have b1 := blk_cell hblk 1
        have b3 := blk_cell (blk_alloc hblk (.cells #[.int .i32 f0, .int .i32 f1, .int .i32 (wrap32 (f0 - 1)), .int .i32 (wrap32 (f1 + 1))] 21)) 0
        have b4 := blk_cell (blk_alloc hblk (.cells #[.int .i32 f0, .int .i32 f1, .int .i32 (wrap32 (f0 - 1)), .int .i32 (wrap32 (f1 + 1))] 21)) 1
        have p1 : (0 ≤ (j : Int)) = True := eq_true (by omega)
        have p2 : ((j : Int) < (ls.length : Int)) = True := eq_true (by omega)
        have p3 : (m ≤ c) = True := eq_true hmc
        have p4 : ((m : Int) ≤ (c : Int)) = True := eq_true (by omega)
        have p5 : (0 ≤ (m : Int)) = True := eq_true (by omega)
        have HX := Aside0.mk (show RI w5 B' (m + 4) (la ++ [f0, f1, wrap32 (f0 - 1), wrap32 (f1 + 1)]) ∧ m + 4 ≤ c' ∧ m + 4 ≤ 60 + 4 * (j + 1) ∧ Below w3.heap.size w3 w5 ∧ j + gk = ls.length + 1 ∧ j < ls.length ∧ ls.length ≤ 60 from ⟨hri', hc', by omega, below_then hb hb.size ⟨hb5.os.trans bb.os, hb5.tape.trans bb.tape, hb5.output.trans bb.output, Nat.le_trans bb.size hb5.size, fun i hi => (hb5.block i (Nat.lt_of_lt_of_le hi bb.size)).trans (bb.block i hi)⟩, hj1, hl, hl60⟩)
        have HMC := Aside0.mk hmc
        have hBn := HI.out
        clear hri hmc hm hb hj1 hj2 hl60 hl hmem o1 o2 o3 r1 r2 ba bb hri' hb5 hblk hc' hBn
        go_wp2
        go_region
        go_wp2
        cases gk with
        | zero => have := HX.out.2.2.2.2.1; have := HX.out.2.2.2.2.2.1; omega
        | succ q =>
        go_roundg q
        case measure => omega
        case rel => exact ⟨j + 1, B', m + 4, c', rfl, by rw [w64 (by have := HX.out.2.2.2.2.2; omega)]; rfl, ⟨_, HX.out.1, HX.out.2.1, HX.out.2.2.1, HX.out.2.2.2.1, by have := HX.out.2.2.2.2.1; omega, by have := HX.out.2.2.2.2.2.1; omega⟩⟩
      · have q3 : decide ((j : Int) < (ls.length : Int)) = false := decide_eq_false (by omega)
        have q4 : decide (j < ls.length) = false := decide_eq_false hl
        have HM := Aside0.mk (show m ≤ 300 by omega)
        have HRI := Aside0.mk hri
        have HB6 := Aside0.mk hb
        clear hri hmc hm hb hj1 hj2 hl60 hl
        go_wp2
        go_loopg [85] (m + 1) (fun kq v85 wq => ∃ (i : Nat), v85 = .int .i64 (i : Int) ∧ Aside0 (Below w3.heap.size w3 wq ∧ RI wq B m la ∧ i + kq = m + 1 ∧ i ≤ m))
        case atStart => exact ⟨0, rfl, ⟨HB6.out, HRI.out, by omega, by omega⟩⟩
        case round =>
          obtain ⟨i, rfl, HJ⟩ := hrel
          obtain ⟨hbq, hrq, hi1, hi2⟩ := HJ.out
          have hm300 := HM.out
          by_cases hlt : i < m
          · have q5 : decide ((i : Int) < (m : Int)) = true := decide_eq_true (by omega)
            have q6 : decide (i < m) = true := decide_eq_true hlt
            obtain ⟨ad, hBe, hcell⟩ := hrq.cell i hlt
            subst hBe
            have hr32 : R32 (la.getD i 0) := hrq.ok _ (by
              rw [List.getD_eq_getElem?_getD, List.getElem?_eq_getElem (by rw [hrq.len]; exact hlt)]
              exact List.getElem_mem _)
            generalize la.getD i 0 = r at hcell hr32
            have hwr : wrap64 r = r := w64 (by unfold R32 at hr32; omega)
            have HG1 := Aside0.mk (get_calls _ _ TB IX bv o s (HT3.out.after hbq) r)
            rw [HEQ.out r] at HG1
            have p1 : (0 ≤ (i : Int)) = True := eq_true (by omega)
            have p2 : ((i : Int) < (m : Int)) = True := eq_true (by omega)
            have p3 : (i < m) = True := eq_true hlt
            have HBQ := Aside0.mk hbq
            have HLT := Aside0.mk (And.intro hlt hm300)
            clear hbq hrq hi1 hi2 hm300 hlt hr32
            go_wp2_with (first
              | (go_at_call 10; (with_reducible refine HG1.out.mono ?_); rintro e w7 ⟨rfl, hb7⟩; have HB7 := Aside0.mk (below_then HBQ.out HBQ.out.size hb7); have HK7 := Aside0.mk hb7; clear hb7)
              | (go_at_call 11; refine (HGT.out _ _ _ r (Kd.C_below HK4.out HB7.out) HK2.out.2).mono ?_; rintro e w8 ⟨rfl, hb8⟩; have HB8 := Aside0.mk (below_then HB7.out HB7.out.size hb8); have HK8 := Aside0.mk (below_then HK7.out HK7.out.size hb8); clear hb8))
            cases gk with
            | zero => have := HJ.out.2.2.1; have := HLT.out.1; omega
            | succ q =>
            go_roundg q
            case measure => omega
            case rel => exact ⟨i + 1, by rw [w64 (by have := HLT.out; omega)]; rfl, ⟨HB8.out, HJ.out.2.1.after HK8.out, by have := HJ.out.2.2.1; omega, by have := HLT.out.1; omega⟩⟩
          · have q5 : decide ((i : Int) < (m : Int)) = false := decide_eq_false (by omega)
            have q6 : decide (i < m) = false := decide_eq_false hlt
            have HBQ := Aside0.mk hbq
            clear hbq hrq hi1 hi2 hm300 hlt
            go_wp2_with (go_at_call 6; refine (awake_calls _).mono ?_; rintro e w9 ⟨rfl, hb9⟩; have HX := Aside0.mk (below_then HBQ.out HBQ.out.size hb9); clear hb9)
            go_ret
            exact ⟨rfl, below_then HB3.out HB3.out.size HX.out⟩
  · have HBU := Aside0.mk (fun (w : World) (A : Option Addr) (c : Nat) (h : Kd.C k41 w A ls.length (ls.map to41)) (hc : ls.length ≤ c) => show Calls Try.prog 8 #[.slice A ls.length c, .int .i64 o] w (fun e w' => e = .returned (.tuple #[.pointer none, .int .i64 (chkS (ls.map to41))]) ∧ Below w.heap.size w w') by
      have h' : Kd.C k41 w A (ls.map to41).length (ls.map to41) := by rw [List.length_map]; exact h
      have := build_bad w A c (ls.map to41) o h' (by rw [List.length_map]; exact hc) hk
      rw [List.length_map] at this
      exact this)
    generalize chkS (ls.map to41) = ck at HBU HCK hk
    have q3 : (ck != 0) = true := bne_iff_ne.2 hk
    clear h hc hok ho ha hc2 hbig hl60
    go_enter Try.func3, Try.ntmps3
    go_wp2_with (first
      | (go_at_call 7; refine HRO.out.mono ?_; rintro e w1 ⟨B1, c1, B2, c2, rfl, k1, l1, k2, l2, hb1⟩; have HK1 := Aside0.mk (And.intro k1 l1); have HK2 := Aside0.mk (And.intro k2 l2); have HB1 := Aside0.mk hb1; clear k1 l1 k2 l2 hb1)
      | (go_at_call 8; refine (HBU.out _ _ _ HK1.out.1 HK1.out.2).mono ?_; rintro e w2 ⟨rfl, hb2⟩; have HK3 := Aside0.mk (Kd.C_below HK2.out.1 hb2); have HB2 := Aside0.mk (below_then HB1.out HB1.out.size hb2); clear hb2)
      | (go_at_call 9; refine (HCK.out _ _ _ HK3.out HK2.out.2).mono ?_; rintro e w3 ⟨rfl, hb3⟩; have HB3 := Aside0.mk (below_then HB2.out HB2.out.size hb3); clear hb3)
      | (go_at_call 6; refine (awake_calls _).mono ?_; rintro e w4 ⟨rfl, hb4⟩; have HX := Aside0.mk (below_then HB3.out HB3.out.size hb4); clear hb4))
    go_ret
    exact ⟨rfl, HX.out⟩
end Go.Proofs.Ytonmollpimoaoaa.Sa
