/- lay. -/
import Derived.Test.YtonmollpimoaoaaSf
namespace Go.Proofs.Ytonmollpimoaoaa.Sa
open Go.RowKit Go.Maps Go.Proofs.Ytonmollpimoaoaa.MapF Go.Proofs.Ytonmollpimoaoaa.Stg Go.Proofs.YtonmollpimoaoaaW.PrintWords Go.Proofs.YtonmollpimoaoaaW.PrintLast Go.Proofs.YtonmollpimoaoaaW.PrintMore
set_option linter.unusedVariables false
set_option linter.unusedSimpArgs false
theorem lay_fuel (o v : Int) (tt : Nat) : ∀ (n m f : Nat) (st : St), tt + 1 - f ≤ n → tt + 1 - f ≤ m → lay o v tt n f st = lay o v tt m f st
  | 0, 0, f, st, _, _ => rfl
  | 0, m + 1, f, st, h, _ => by rw [lay, lay, if_pos (by omega)]
  | n + 1, 0, f, st, _, h => by rw [lay, lay, if_pos (by omega)]
  | n + 1, m + 1, f, st, h1, h2 => by
    rw [lay, lay]
    by_cases e : tt < f
    · rw [if_pos e, if_pos e]
    · rw [if_neg e, if_neg e]
      by_cases e2 : f % 256 = 0 ∧ f + 255 ≤ tt
      · rw [if_pos e2, if_pos e2]
        exact lay_fuel o v tt n m _ _ (by omega) (by omega)
      · rw [if_neg e2, if_neg e2]
        have hm : f ≤ min tt (f / 256 * 256 + 255) := by rw [Nat.le_min]; omega
        exact lay_fuel o v tt n m _ _ (by omega) (by omega)
attribute [-simp] Try.sizeOf56 Try.typeInfo56
theorem Fr.drewR {base : Nat} {W W' : World} (h : Fr base W W') : Fr base W W'.drew := ⟨⟨h.below.os, h.below.tape, h.below.output, h.below.size, h.below.block⟩, h.others⟩
set_option maxHeartbeats 8000000 in
theorem lay_calls (W : World) (base M TB IX SM : Nat) (bv : Value) (o : Int) (s : St) (c f tt : Nat) (v : Int) (h : Mk W base M TB IX SM bv o s) (hI : Inv o s c) (hcf : c ≤ f) (hft : f ≤ tt) (hbase : base ≤ W.heap.size) (ho : (Lit.int .i64 o).wf = true) (hv : (Lit.int .i64 v).wf = true) (hto : tt ≤ 1114111) :
    Calls Try.prog 18 #[.pointer (some ⟨M, 0, none⟩), .agg #[.int .i32 (f : Int), .int .i32 (tt : Int), .int .i64 v]] W fun e w' => e = .returned (.tuple #[]) ∧ (∃ bv', Mk w' base M TB IX SM bv' o (layR o s (f, tt, v))) ∧ Fr base W w' := by
  have HM := Aside0.mk h
  have HI0 := Aside0.mk hI
  have HB := Aside0.mk hbase
  have HO := Aside0.mk ho
  have HV := Aside0.mk hv
  have HTO := Aside0.mk hto
  have HCF := Aside0.mk (And.intro hcf hft)
  obtain ⟨Fin, hF⟩ : ∃ x, x = layR o s (f, tt, v) := ⟨_, rfl⟩
  rw [← hF]
  have HF := Aside0.mk hF
  obtain ⟨fi, hfi⟩ : ∃ x : Int, x = (f : Int) := ⟨_, rfl⟩
  obtain ⟨ti, hti⟩ : ∃ x : Int, x = (tt : Int) := ⟨_, rfl⟩
  rw [← hfi, ← hti]
  have wf : wrap64 fi = fi := w64 (by omega)
  have wt : wrap64 ti = ti := w64 (by omega)
  have HFI := Aside0.mk hfi
  have HTI := Aside0.mk hti
  have hblk := blk_new W (.cells #[.int .i32 fi, .int .i32 ti, .int .i64 v] 41)
  have c0 := blk_cell hblk 0
  have c1 := blk_cell hblk 1
  have HBX := Aside0.mk hblk
  clear h hI hcf hft hbase ho hv hto hF hblk hfi hti
  go_enter Try.func18, Try.ntmps18
  go_wp2
  go_region
  go_wp2
  rw [wf, wt]
  clear c0 c1 wf wt
  go_loopg [4] (tt + 2) (fun kq v4 wr => ∃ (qi : Int), v4 = .int .i64 qi ∧ Aside0 (∃ (q cc : Nat) (s' : St) (bv' : Value), qi = (q : Int) ∧ Mk wr base M TB IX SM bv' o s' ∧ Fr base W wr ∧ wr.heap[W.heap.size]? = some (.cells #[.int .i32 fi, .int .i32 ti, .int .i64 v] 41) ∧ Inv o s' cc ∧ cc ≤ q ∧ q ≤ tt + 1 ∧ tt + 1 - q < kq ∧ lay o v tt (tt + 1 - q) q s' = Fin))
  case atStart =>
    have hb' : Below W.heap.size W (W.alloc (.cells #[.int .i32 fi, .int .i32 ti, .int .i64 v] 41)).drew := by
      have := below_alloc (Below.refl W.heap.size W) (.cells #[.int .i32 fi, .int .i32 ti, .int .i64 v] 41)
      exact ⟨this.os, this.tape, this.output, this.size, this.block⟩
    exact ⟨_, rfl, ⟨f, c, s, bv, HFI.out, HM.out.after hb', Fr.of_below hb' HB.out, HBX.out, HI0.out, HCF.out.1, by have := HCF.out.2; omega, by omega, HF.out.symm⟩⟩
  case round =>
    obtain ⟨qi, rfl, HI⟩ := hrel
    obtain ⟨q, cc, s', bv', hq, hk, hf, hx, hi, hc1, hc2, hfu, hla⟩ := HI.out
    have htt := HTO.out
    have hcur := hi.ca
    have hnb := hi.nb
    have hti := HTI.out
    by_cases hl : q ≤ tt
    · have q1 : decide (qi ≤ ti) = true := decide_eq_true (by omega)
      obtain ⟨n, hn⟩ : ∃ n, tt + 1 - q = n + 1 := ⟨tt - q, by omega⟩
      rw [hn, lay, if_neg (by omega)] at hla
      obtain ⟨bi, hbi⟩ : ∃ x : Int, x = ((q / 256 : Nat) : Int) := ⟨_, rfl⟩
      obtain ⟨ri, hri⟩ : ∃ x : Int, x = ((q % 256 : Nat) : Int) := ⟨_, rfl⟩
      have m1 : Int.tdiv qi 256 = bi := by rw [hq, hbi, Int.tdiv_eq_ediv_of_nonneg (by omega)]; omega
      have m2 : Int.tmod qi 256 = ri := by rw [hq, hri, Int.tmod_eq_emod_of_nonneg (by omega)]; omega
      have m5 : wrap64 (qi + 256) = qi + 256 := w64 (by omega)
      have m6 : wrap64 (qi + 256 - 1) = qi + 256 - 1 := w64 (by omega)
      have m7 : wrap64 bi = bi := w64 (by omega)
      have x2 : wr.cell? ⟨W.heap.size, 2, none⟩ = some (.int .i64 v) := (blk_cell hx 2).trans rfl
      have HQ := Aside0.mk hq
      have HBI := Aside0.mk hbi
      by_cases e2 : q % 256 = 0 ∧ q + 255 ≤ tt
      · rw [if_pos e2] at hla
        have hWH := whole_calls wr base M TB IX SM bv' o s' (q / 256) tt v hk (Nat.le_trans HB.out hf.below.size) (by omega) hcur HO.out HV.out htt (by omega)
        rw [← hbi, ← hti] at hWH
        obtain ⟨ei, hei⟩ : ∃ x : Int, x = (((tt + 1) / 256 * 256 : Nat) : Int) := ⟨_, rfl⟩
        rw [← hei] at hWH
        have HWH := Aside0.mk hWH
        obtain rfl : ri = 0 := by rw [hri, e2.1]; rfl
        have z2 : decide (qi + 256 - 1 ≤ ti) = true := decide_eq_true (by omega)
        have HLA := Aside0.mk hla
        have HE2 := Aside0.mk e2
        have HEI := Aside0.mk hei
        have HR := Aside0.mk (show Fr base W wr ∧ wr.heap[W.heap.size]? = some (.cells #[.int .i32 fi, .int .i32 ti, .int .i64 v] 41) ∧ Inv o s' cc ∧ cc ≤ q ∧ tt + 1 - q < gk ∧ q ≤ tt ∧ tt + 1 - q = n + 1 from ⟨hf, hx, hi, hc1, hfu, hl, hn⟩)
        clear hk hf hx hi hc1 hc2 hfu hla htt hcur hnb e2 hl hq hbi hri hti hWH hei hn
        go_wp2_with (first
          | (go_at_call 21; refine HWH.out.mono ?_; rintro e1 w1 ⟨rfl, ⟨bv1, hk1⟩, hf1⟩; have HK1 := Aside0.mk hk1; have HF1 := Aside0.mk hf1; clear hk1 hf1))
        cases gk with
        | zero => have := HR.out.2.2.2.2.1; omega
        | succ g =>
        go_roundg g
        case measure => omega
        case rel =>
          obtain ⟨hf, hx, hi, hc1, hfu, hl, hn⟩ := HR.out
          have hE2 := HE2.out
          have htt := HTO.out
          have hI2 := whole_inv (v := v) (k := (tt + 1) / 256 - q / 256) (b := q / 256) hi (by omega) (by omega) (by omega)
          rw [show (q / 256 + ((tt + 1) / 256 - q / 256)) * 256 = (tt + 1) / 256 * 256 by congr 1; omega] at hI2
          exact ⟨_, rfl, ⟨(tt + 1) / 256 * 256, _, _, bv1, HEI.out, HK1.out, hf.trans HF1.out HB.out, HF1.out.others _ _ _ hx (by decide) (by decide) (by decide) (by decide), hI2, Nat.le_refl _, by omega, by omega, (lay_fuel o v tt _ n _ _ (by omega) (by omega)).trans HLA.out⟩⟩
      · rw [if_neg e2] at hla
        have hfa := fun W : World => congrArg (fun r => r.andThen fun a w' => Result.ok (Next.value a) w') (field3 W M)
        simp [go_sem] at hfa
        have hTU := turn_calls wr base M TB IX SM bv' o s' (q / 256) hk (Nat.le_trans HB.out hf.below.size) (by omega) hcur (by omega) HO.out
        rw [← hbi] at hTU
        have HTU := Aside0.mk hTU
        have hm : min tt (q / 256 * 256 + 255) = if tt ≤ q / 256 * 256 + 255 then tt else q / 256 * 256 + 255 := Nat.min_def
        generalize min tt (q / 256 * 256 + 255) = e3 at hm hla
        have HE3 := Aside0.mk (show (q ≤ e3 ∧ e3 ≤ tt ∧ e3 ≤ q / 256 * 256 + 255 ∧ (e3 = tt ∨ e3 = q / 256 * 256 + 255)) by split at hm <;> omega)
        have HLA := Aside0.mk hla
        have HE2 := Aside0.mk e2
        have HR := Aside0.mk (show Fr base W wr ∧ wr.heap[W.heap.size]? = some (.cells #[.int .i32 fi, .int .i32 ti, .int .i64 v] 41) ∧ Inv o s' cc ∧ cc ≤ q ∧ tt + 1 - q < gk ∧ q ≤ tt ∧ tt + 1 - q = n + 1 from ⟨hf, hx, hi, hc1, hfu, hl, hn⟩)
        cases gk with
        | zero => have := HR.out.2.2.2.2.1; omega
        | succ g =>
        by_cases hr0 : ri = 0
        · subst hr0
          have z2 : decide (qi + 256 - 1 ≤ ti) = false := decide_eq_false (by omega)
          have HRI := Aside0.mk hri
          clear hk hf hx hi hc1 hc2 hfu hla htt hcur hnb e2 hl hq hbi hri hti hTU hm hn
          
          go_wp2_with (first
            | (go_at_call 22; refine HTU.out.mono ?_; rintro e1 w1 ⟨rfl, ⟨bv1, hk1⟩, hf1⟩; have HK1 := Aside0.mk hk1; have HX1 := Aside0.mk (hf1.others _ _ _ HR.out.2.1 (by decide) (by decide) (by decide) (by decide)); have HF1 := Aside0.mk (HR.out.1.trans hf1 HB.out); clear hk1 hf1))
          go_loopg [4] 258 (fun kq v4 wr => ∃ (qj : Int), v4 = .int .i64 qj ∧ Aside0 (∃ (i : Nat), qj = ((q + i : Nat) : Int) ∧ Mk wr base M TB IX SM bv1 o { turn o s' (q / 256) with now := putR v i (q % 256) (turn o s' (q / 256)).now } ∧ Fr base W wr ∧ wr.heap[W.heap.size]? = some (.cells #[.int .i32 fi, .int .i32 ti, .int .i64 v] 41) ∧ i ≤ e3 + 1 - q ∧ (e3 + 1 - q) - i < kq))
          case atStart => exact ⟨qi, rfl, ⟨0, by rw [HQ.out]; rfl, HK1.out, HF1.out, HX1.out, Nat.zero_le _, by have := HE3.out; omega⟩⟩
          case round =>
            obtain ⟨qj, rfl, HJ⟩ := hrel
            obtain ⟨i, hqj, hk2, hf2, hx2, hi1, hi2⟩ := HJ.out
            have he3 := HE3.out
            have hti := HTI.out
            have htt := HTO.out
            have hbi := HBI.out
            by_cases hlt : i < e3 + 1 - q
            · obtain ⟨rj, hrj⟩ : ∃ x : Int, x = (((q + i) % 256 : Nat) : Int) := ⟨_, rfl⟩
              have n1 : Int.tdiv qj 256 = bi := by rw [hqj, hbi, Int.tdiv_eq_ediv_of_nonneg (by omega)]; omega
              have n2 : Int.tmod qj 256 = rj := by rw [hqj, hrj, Int.tmod_eq_emod_of_nonneg (by omega)]; omega
              have n3 : decide (qj ≤ ti) = true := decide_eq_true (by omega)
              have n4 : wrap64 (qj + 1) = qj + 1 := w64 (by omega)
              have n5 : (0 ≤ rj) = True := eq_true (by omega)
              have n6 : (rj < 256) = True := eq_true (by omega)
              have hrn : rj.toNat = q % 256 + i := by omega
              have x2 : wr.cell? ⟨W.heap.size, 2, none⟩ = some (.int .i64 v) := (blk_cell hx2 2).trans rfl
              have y0 := (blk_cell hk2.hm (3 + rj.toNat)).trans ((cmr _ _ _ _ _).trans (nA_get _ _ (by rw [hk2.ln]; omega)))
              have y1 := blk_frozen hk2.hm (3 + rj.toNat)
              have HLT := Aside0.mk hlt
              have hk2' := Aside0.mk hk2
              have HFX := Aside0.mk (And.intro hf2 (And.intro hx2 (And.intro hqj (And.intro hi1 hi2))))
              have HRN := Aside0.mk hrn
              clear hqj hk2 hf2 hx2 hi1 hi2 he3 hti htt hbi hlt hrj hrn
              go_wp2
              go_region
              go_wp2
              cases gk with
              | zero => have := HJ.out; obtain ⟨i', h1, _, _, _, h2, h3⟩ := this; omega
              | succ g2 =>
              go_roundg g2
              case measure => omega
              case rel =>
                have hlt := HLT.out
                have hrn := HRN.out
                have hM := hk2'.out.drew.setNow rj.toNat v HV.out
                rw [hrn] at hM
                rw [hrn]
                refine ⟨_, rfl, ⟨i + 1, ?_, ?_, (HFX.out.1.drewR).setM hk2'.out.drew (3 + (q % 256 + i)) _, blk_far HFX.out.2.1 (blk_ne HFX.out.2.1 hk2'.out.hm (by decide)) _, by omega, by have := HFX.out.2.2.2.2; omega⟩⟩
                · have := HFX.out.2.2.1
                  have htt := HTO.out
                  have he3 := HE3.out
                  rw [w64 (by omega)]
                  omega
                · rw [putR_snoc]
                  exact hM
            · have hie : i = e3 + 1 - q := by omega
              subst hie
              have HK9 := Aside0.mk hk2
              have HF9 := Aside0.mk hf2
              have HX9 := Aside0.mk hx2
              have hq9 : qj = ((e3 + 1 : Nat) : Int) := by omega
              have HQ9 := Aside0.mk hq9
              by_cases hle : qj ≤ ti
              · obtain ⟨bj, hbj⟩ : ∃ x : Int, x = ((e3 + 1) / 256 : Nat) := ⟨_, rfl⟩
                have n1 : Int.tdiv qj 256 = bj := by rw [hq9, hbj, Int.tdiv_eq_ediv_of_nonneg (by omega)]; omega
                have n2 : (bj == bi) = false := beq_eq_false_iff_ne.2 (by omega)
                have n5 : wrap64 bj = bj := w64 (by omega)
                have n3 : decide (qj ≤ ti) = true := decide_eq_true hle
                clear hqj hk2 hf2 hx2 hi1 hi2 he3 hti htt hbi hlt hle hbj hq9
                go_wp2
                go_roundg g
                case measure => omega
                case rel =>
                  obtain ⟨hf, hx, hi, hc1, hfu, hl, hn⟩ := HR.out
                  have he3 := HE3.out
                  have htt := HTO.out
                  have hI2 := part_inv (v := v) (n := e3 + 1 - q) hi hc1 (by omega) (by omega) (by omega)
                  rw [show q + (e3 + 1 - q) = e3 + 1 by omega] at hI2
                  exact ⟨_, rfl, ⟨e3 + 1, _, _, bv1, HQ9.out, HK9.out, HF9.out, HX9.out, hI2, Nat.le_refl _, by omega, by omega, (lay_fuel o v tt _ n _ _ (by omega) (by omega)).trans HLA.out⟩⟩
              · have n3 : decide (qj ≤ ti) = false := decide_eq_false hle
                clear hqj hk2 hf2 hx2 hi1 hi2 he3 hti htt hbi hlt hle hq9
                go_wp2
                go_roundg g
                case measure => omega
                case rel =>
                  obtain ⟨hf, hx, hi, hc1, hfu, hl, hn⟩ := HR.out
                  have he3 := HE3.out
                  have htt := HTO.out
                  have hI2 := part_inv (v := v) (n := e3 + 1 - q) hi hc1 (by omega) (by omega) (by omega)
                  rw [show q + (e3 + 1 - q) = e3 + 1 by omega] at hI2
                  exact ⟨_, rfl, ⟨e3 + 1, _, _, bv1, HQ9.out, HK9.out, HF9.out, HX9.out, hI2, Nat.le_refl _, by omega, by omega, (lay_fuel o v tt _ n _ _ (by omega) (by omega)).trans HLA.out⟩⟩
        · have z1 : (ri == 0) = false := beq_eq_false_iff_ne.2 hr0
          clear hk hf hx hi hc1 hc2 hfu hla htt hcur hnb e2 hl hq hbi hri hti hTU hm hn hr0
          go_wp2_with (first
            | (go_at_call 22; refine HTU.out.mono ?_; rintro e1 w1 ⟨rfl, ⟨bv1, hk1⟩, hf1⟩; have HK1 := Aside0.mk hk1; have HX1 := Aside0.mk (hf1.others _ _ _ HR.out.2.1 (by decide) (by decide) (by decide) (by decide)); have HF1 := Aside0.mk (HR.out.1.trans hf1 HB.out); clear hk1 hf1))
          go_loopg [4] 258 (fun kq v4 wr => ∃ (qj : Int), v4 = .int .i64 qj ∧ Aside0 (∃ (i : Nat), qj = ((q + i : Nat) : Int) ∧ Mk wr base M TB IX SM bv1 o { turn o s' (q / 256) with now := putR v i (q % 256) (turn o s' (q / 256)).now } ∧ Fr base W wr ∧ wr.heap[W.heap.size]? = some (.cells #[.int .i32 fi, .int .i32 ti, .int .i64 v] 41) ∧ i ≤ e3 + 1 - q ∧ (e3 + 1 - q) - i < kq))
          case atStart => exact ⟨qi, rfl, ⟨0, by rw [HQ.out]; rfl, HK1.out, HF1.out, HX1.out, Nat.zero_le _, by have := HE3.out; omega⟩⟩
          case round =>
            obtain ⟨qj, rfl, HJ⟩ := hrel
            obtain ⟨i, hqj, hk2, hf2, hx2, hi1, hi2⟩ := HJ.out
            have he3 := HE3.out
            have hti := HTI.out
            have htt := HTO.out
            have hbi := HBI.out
            by_cases hlt : i < e3 + 1 - q
            · obtain ⟨rj, hrj⟩ : ∃ x : Int, x = (((q + i) % 256 : Nat) : Int) := ⟨_, rfl⟩
              have n1 : Int.tdiv qj 256 = bi := by rw [hqj, hbi, Int.tdiv_eq_ediv_of_nonneg (by omega)]; omega
              have n2 : Int.tmod qj 256 = rj := by rw [hqj, hrj, Int.tmod_eq_emod_of_nonneg (by omega)]; omega
              have n3 : decide (qj ≤ ti) = true := decide_eq_true (by omega)
              have n4 : wrap64 (qj + 1) = qj + 1 := w64 (by omega)
              have n5 : (0 ≤ rj) = True := eq_true (by omega)
              have n6 : (rj < 256) = True := eq_true (by omega)
              have hrn : rj.toNat = q % 256 + i := by omega
              have x2 : wr.cell? ⟨W.heap.size, 2, none⟩ = some (.int .i64 v) := (blk_cell hx2 2).trans rfl
              have y0 := (blk_cell hk2.hm (3 + rj.toNat)).trans ((cmr _ _ _ _ _).trans (nA_get _ _ (by rw [hk2.ln]; omega)))
              have y1 := blk_frozen hk2.hm (3 + rj.toNat)
              have HLT := Aside0.mk hlt
              have hk2' := Aside0.mk hk2
              have HFX := Aside0.mk (And.intro hf2 (And.intro hx2 (And.intro hqj (And.intro hi1 hi2))))
              have HRN := Aside0.mk hrn
              clear hqj hk2 hf2 hx2 hi1 hi2 he3 hti htt hbi hlt hrj hrn
              go_wp2
              go_region
              go_wp2
              cases gk with
              | zero => have := HJ.out; obtain ⟨i', h1, _, _, _, h2, h3⟩ := this; omega
              | succ g2 =>
              go_roundg g2
              case measure => omega
              case rel =>
                have hlt := HLT.out
                have hrn := HRN.out
                have hM := hk2'.out.drew.setNow rj.toNat v HV.out
                rw [hrn] at hM
                rw [hrn]
                refine ⟨_, rfl, ⟨i + 1, ?_, ?_, (HFX.out.1.drewR).setM hk2'.out.drew (3 + (q % 256 + i)) _, blk_far HFX.out.2.1 (blk_ne HFX.out.2.1 hk2'.out.hm (by decide)) _, by omega, by have := HFX.out.2.2.2.2; omega⟩⟩
                · have := HFX.out.2.2.1
                  have htt := HTO.out
                  have he3 := HE3.out
                  rw [w64 (by omega)]
                  omega
                · rw [putR_snoc]
                  exact hM
            · have hie : i = e3 + 1 - q := by omega
              subst hie
              have HK9 := Aside0.mk hk2
              have HF9 := Aside0.mk hf2
              have HX9 := Aside0.mk hx2
              have hq9 : qj = ((e3 + 1 : Nat) : Int) := by omega
              have HQ9 := Aside0.mk hq9
              by_cases hle : qj ≤ ti
              · obtain ⟨bj, hbj⟩ : ∃ x : Int, x = ((e3 + 1) / 256 : Nat) := ⟨_, rfl⟩
                have n1 : Int.tdiv qj 256 = bj := by rw [hq9, hbj, Int.tdiv_eq_ediv_of_nonneg (by omega)]; omega
                have n2 : (bj == bi) = false := beq_eq_false_iff_ne.2 (by omega)
                have n5 : wrap64 bj = bj := w64 (by omega)
                have n3 : decide (qj ≤ ti) = true := decide_eq_true hle
                clear hqj hk2 hf2 hx2 hi1 hi2 he3 hti htt hbi hlt hle hbj hq9
                go_wp2
                go_roundg g
                case measure => omega
                case rel =>
                  obtain ⟨hf, hx, hi, hc1, hfu, hl, hn⟩ := HR.out
                  have he3 := HE3.out
                  have htt := HTO.out
                  have hI2 := part_inv (v := v) (n := e3 + 1 - q) hi hc1 (by omega) (by omega) (by omega)
                  rw [show q + (e3 + 1 - q) = e3 + 1 by omega] at hI2
                  exact ⟨_, rfl, ⟨e3 + 1, _, _, bv1, HQ9.out, HK9.out, HF9.out, HX9.out, hI2, Nat.le_refl _, by omega, by omega, (lay_fuel o v tt _ n _ _ (by omega) (by omega)).trans HLA.out⟩⟩
              · have n3 : decide (qj ≤ ti) = false := decide_eq_false hle
                clear hqj hk2 hf2 hx2 hi1 hi2 he3 hti htt hbi hlt hle hq9
                go_wp2
                go_roundg g
                case measure => omega
                case rel =>
                  obtain ⟨hf, hx, hi, hc1, hfu, hl, hn⟩ := HR.out
                  have he3 := HE3.out
                  have htt := HTO.out
                  have hI2 := part_inv (v := v) (n := e3 + 1 - q) hi hc1 (by omega) (by omega) (by omega)
                  rw [show q + (e3 + 1 - q) = e3 + 1 by omega] at hI2
                  exact ⟨_, rfl, ⟨e3 + 1, _, _, bv1, HQ9.out, HK9.out, HF9.out, HX9.out, hI2, Nat.le_refl _, by omega, by omega, (lay_fuel o v tt _ n _ _ (by omega) (by omega)).trans HLA.out⟩⟩
    · have hq9 : q = tt + 1 := by omega
      have n3 : decide (qi ≤ ti) = false := decide_eq_false (by omega)
      rw [hq9, Nat.sub_self, lay] at hla
      subst hla
      clear hfu hl
      go_wp2
      go_end0
      exact ⟨rfl, ⟨bv', hk⟩, hf⟩
end Go.Proofs.Ytonmollpimoaoaa.Sa
