/- Build. -/
import Derived.Test.YtonmollpimoaoaaSi
import Derived.Test.YtonmollpimoaoaaSg
namespace Go.Proofs.Ytonmollpimoaoaa.Sa
open Go.RowKit Go.Maps Go.Proofs.Ytonmollpimoaoaa.MapF Go.Proofs.Ytonmollpimoaoaa.Stg Go.Proofs.YtonmollpimoaoaaW.PrintWords Go.Proofs.YtonmollpimoaoaaW.PrintLast Go.Proofs.YtonmollpimoaoaaW.PrintMore Go.Proofs.Ytonmollpimoaoaa.PStageTells
set_option linter.unusedVariables false
set_option linter.unusedSimpArgs false
theorem info39 : (Try.prog.info? 39).map (fun i => (i.zero, i.size, i.bytes)) = some (some (.int .u16 0), 1, 2) := by kernel_rfl
theorem made_uA (n : Nat) : madeCells (Value.cells (.int .u16 0)) n = uA (List.replicate n 0) := by
  apply Array.toList_inj.1
  rw [show Value.cells (.int .u16 0) = #[.int .u16 0] from rfl, toList_madeCells_one]
  simp [uA]
theorem make_run (W : World) : (Instr.makeSlice 51 (.int .i64 4352) (.int .i64 4352)).run Try.prog W = .ok (.slice (some ⟨W.heap.size, 0, none⟩) 4352 4352) (W.alloc (.cells (uA (List.replicate 4352 0)) 39)) := by
  obtain ⟨i, hi, hz⟩ := Option.map_eq_some_iff.1 info39
  simp only [Prod.mk.injEq] at hz
  obtain ⟨hz, hs, hb⟩ := hz
  have := run_makeSlice (P := Try.prog) W 51 39 i _ Try.underlying51 hi hz .i64 .i64 4352 4352 (by decide) (by decide) (by rw [hs]; decide) (by rw [hb]; decide) (by decide)
  rw [this, hs]
  rw [show Int.toNat 4352 * 1 = 4352 from rfl, made_uA 4352]
  rfl
theorem make_exec {a : Act} {oo : Oper} (ho : oo.op = .makeSlice 51 (.const (.int .i64 4352)) (.const (.int .i64 4352))) (W : World) : (execOp a.eval oo).run Try.prog W = .ok (.value (.slice (some ⟨W.heap.size, 0, none⟩) 4352 4352)) (W.alloc (.cells (uA (List.replicate 4352 0)) 39)) := by
  unfold execOp
  simp only [ho, Act.eval, Sem.run_bind, make_run, Result.andThen_ok, Sem.run_pure]
attribute [-simp] Try.sizeOf56 Try.typeInfo56
def s00 : St := ⟨List.replicate 4352 0, [], 0, rep 0⟩
theorem mk00 (W w1 w2 : World) (o : Int) (hb : Below W.heap.size W w1) (hw2 : w2 = w1.alloc (.cells (uA (List.replicate 4352 0)) 39)) :
    Mk (((w2.alloc (.cells #[.slice (some ⟨w1.heap.size, 0, none⟩) 4352 4352, .slice none 0 0, .int .i64 o] 54)).alloc (.map #[] 0)).alloc (.cells (#[.pointer (some ⟨w2.heap.size, 0, none⟩), .map (some (w2.heap.size + 1)), .int .i64 0] ++ nA (rep 0)) 58)) W.heap.size (w2.heap.size + 1 + 1) w2.heap.size w1.heap.size (w2.heap.size + 1) (.slice none 0 0) o s00 ∧
    Below W.heap.size W (((w2.alloc (.cells #[.slice (some ⟨w1.heap.size, 0, none⟩) 4352 4352, .slice none 0 0, .int .i64 o] 54)).alloc (.map #[] 0)).alloc (.cells (#[.pointer (some ⟨w2.heap.size, 0, none⟩), .map (some (w2.heap.size + 1)), .int .i64 0] ++ nA (rep 0)) 58)) := by
  have e2 : w2.heap.size = w1.heap.size + 1 := by rw [hw2]; exact Array.size_push _
  obtain ⟨w3, hw3⟩ : ∃ w, w = w2.alloc (.cells #[.slice (some ⟨w1.heap.size, 0, none⟩) 4352 4352, .slice none 0 0, .int .i64 o] 54) := ⟨_, rfl⟩
  rw [← hw3]
  have e3 : w3.heap.size = w2.heap.size + 1 := by rw [hw3]; exact Array.size_push _
  obtain ⟨w4, hw4⟩ : ∃ w, w = w3.alloc (.map #[] 0) := ⟨_, rfl⟩
  rw [← hw4]
  have e4 : w4.heap.size = w2.heap.size + 1 + 1 := by rw [hw4, ← e3]; exact Array.size_push _
  have hbs := hb.size
  have b2 : Below W.heap.size W w2 := by rw [hw2]; exact below_alloc hb _
  have b3 : Below W.heap.size W w3 := by rw [hw3]; exact below_alloc b2 _
  have b4 : Below W.heap.size W w4 := by rw [hw4]; exact below_alloc b3 _
  have x2 : w2.heap[w1.heap.size]? = some (.cells (uA (List.replicate 4352 0)) 39) := by rw [hw2]; exact blk_new w1 _
  have t3 : w3.heap[w2.heap.size]? = some (.cells #[.slice (some ⟨w1.heap.size, 0, none⟩) 4352 4352, .slice none 0 0, .int .i64 o] 54) := by rw [hw3]; exact blk_new w2 _
  have x3 : w3.heap[w1.heap.size]? = some (.cells (uA (List.replicate 4352 0)) 39) := by rw [hw3]; exact blk_alloc x2 _
  have t4 : w4.heap[w2.heap.size]? = some (.cells #[.slice (some ⟨w1.heap.size, 0, none⟩) 4352 4352, .slice none 0 0, .int .i64 o] 54) := by rw [hw4]; exact blk_alloc t3 _
  have x4 : w4.heap[w1.heap.size]? = some (.cells (uA (List.replicate 4352 0)) 39) := by rw [hw4]; exact blk_alloc x3 _
  have m4 : MapF w4 Try.prog 56 (w2.heap.size + 1) 0 0 (seenF []) := by
    have h0 : seenF [] = fun _ => none := by
      funext v
      exact seenF_none (fun ⟨c, hc, _⟩ => by cases hc)
    rw [h0, ← e3, hw4]
    exact MapF.made w3 Try.prog 56
  refine ⟨⟨?_, blk_alloc t4 _, ⟨by rfl, .inl ⟨rfl, rfl⟩⟩, blk_alloc x4 _, ⟨0, m4.alloc _⟩, by omega, by omega, hbs, by omega, rep_len 0, rep_wf (by decide), List.length_replicate⟩, below_alloc b4 _⟩
  have := blk_new w4 (.cells (#[.pointer (some ⟨w2.heap.size, 0, none⟩), .map (some (w2.heap.size + 1)), .int .i64 0] ++ nA (rep 0)) 58)
  rw [e4] at this
  exact this
theorem done_ic {o : Int} {st : St} {c : Nat} (h : Inv o st c) (x : Nat) : (done st).idx.getD x 0 < (done st).blks.length := by
  show (st.idx.set _ _).getD x 0 < (addB _ _).length
  rw [set_getD]
  split
  · exact addB_lt _ _
  · exact Nat.lt_of_lt_of_le (h.ic x) (addB_le _ _).1
theorem done_lb {o : Int} {st : St} {c : Nat} (h : Inv o st c) : ∀ b ∈ (done st).blks, b.length = 256 := by
  intro b hb
  rcases addB_mem _ _ _ hb with hb | hb
  · exact h.lb b hb
  · rw [hb]; exact h.ln
theorem Mk.tb {W : World} {base M TB IX SM : Nat} {bv : Value} {o : Int} {st : St} {c : Nat} (h : Mk W base M TB IX SM bv o (done st)) (hi : Inv o st c) : Tb W base TB IX bv o (done st) :=
  ⟨h.ht, h.hr, h.hx, h.li, done_ic hi, done_lb hi⟩
set_option maxHeartbeats 8000000 in
theorem build_good (W : World) (A : Option Addr) (c : Nat) (xs : List S41) (o : Int) (h : Kd.C k41 W A xs.length xs) (hc : xs.length ≤ c) (ho : (Lit.int .i64 o).wf = true) (hv : ∀ x ∈ xs, (Lit.int .i64 x.f2).wf = true) (hk : chkS xs = 0) :
    Calls Try.prog 8 #[.slice A xs.length c, .int .i64 o] W fun e w' => ∃ TB IX bv, e = .returned (.tuple #[.pointer (some ⟨TB, 0, none⟩), .int .i64 0]) ∧ Tb w' W.heap.size TB IX bv o (build o (rows3 xs)) ∧ Below W.heap.size W w' := by
  have HC := Aside0.mk h
  have HO := Aside0.mk ho
  have HV := Aside0.mk hv
  have hlen : xs.length ≤ 4096 := by
    unfold chkS at hk
    split at hk
    · cases hk
    · omega
  have HL := Aside0.mk hlen
  have hk2 : chk (-1) xs = 0 := by
    unfold chkS at hk
    rwa [if_neg (by omega)] at hk
  have HG := Aside0.mk (chk_good xs (-1) (by decide) hk2)
  have hCK := check_calls W A c xs h hc
  rw [hk] at hCK
  have HCK := Aside0.mk hCK
  have hmm := @run_makeMap Try.prog
  have hfa := fun (W : World) (M : Nat) => congrArg (fun r => r.andThen fun a w' => Result.ok (Next.value a) w') (field3 W M)
  simp [go_sem] at hfa
  clear h hc ho hv hk hlen hk2 hCK
  go_enter Try.func8, Try.ntmps8
  go_wp2_with (first
    | (go_at_call 15; refine HCK.out.mono ?_; rintro e w1 ⟨rfl, hb⟩; have HB1 := Aside0.mk hb; clear hb)
    | ((with_reducible refine gate_dst (N := 15) rfl ?_); obtain ⟨w2, hw2⟩ : ∃ w2, w2 = w1.alloc (.cells (uA (List.replicate 4352 0)) 39) := ⟨_, rfl⟩; refine Kd.event_run rfl (v := .slice (some ⟨w1.heap.size, 0, none⟩) 4352 4352) (w1 := w2) ((make_exec rfl w1).trans (by rw [hw2])) ?_; have HW2 := Aside0.mk hw2; clear hw2)
    | ((with_reducible refine gate_dst (N := 20) rfl ?_); refine Kd.event_run rfl (v := .agg (#[.pointer (some ⟨w2.heap.size, 0, none⟩), .map (some (w2.heap.size + 1)), .int .i64 0] ++ nA (rep 0))) (w1 := (w2.alloc (.cells #[.slice (some ⟨w1.heap.size, 0, none⟩) 4352 4352, .slice none 0 0, .int .i64 o] 54)).alloc (.map #[] 0)) (by kernel_rfl) ?_))
  obtain ⟨hK1, hB3⟩ := mk00 W w1 w2 o HB1.out HW2.out
  have HK1 := Aside0.mk hK1
  have HB3 := Aside0.mk hB3
  clear hK1 hB3
  generalize hTB : w2.heap.size = TB at *
  generalize hIX : w1.heap.size = IX at *
  refine (blank_calls _ _ o).mono ?_
  rintro e w6 ⟨rfl, hb6⟩
  have HK2 := Aside0.mk (HK1.out.after hb6)
  have HF2 := Aside0.mk ((Fr.of_below HB3.out (Nat.le_refl _)).trans (Fr.of_below hb6 HB3.out.size) (Nat.le_refl _))
  clear hb6
  go_wp2_with (first
    | ((with_reducible refine gate_store (t := 56) (p := 27) (v := .tmp 25) rfl ?_); refine store_now rfl (.tmp 27) (.tmp 25) rfl rfl (rep o) rfl rfl HK2.out HF2.out (Nat.le_refl _) (rep_len o) (rep_wf HO.out) ?_; intro w7 hk7 hf7; have hl := congrArg (fun r => r.andThen fun a w' => Result.ok (Next.value a) w') (load56_run w7 (TB + 1 + 1) 3 (rep o) (rep_len o) hk7.now_range); simp [go_sem] at hl; have HK7 := Aside0.mk hk7; have HF7 := Aside0.mk hf7; clear hk7 hf7))
  refine (number_calls w7 W.heap.size (TB + 1 + 1) TB IX (TB + 1) (.slice none 0 0) o _ (rep o) HK7.out (rep_len o) (rep_wf HO.out) HF7.out.below.size (by show (0 : Nat) < 65535; decide)).mono ?_
  rintro e1 w8 ⟨rfl, ⟨bv8, hk8⟩, hf8⟩
  have HK8 := Aside0.mk hk8
  have HF8 := Aside0.mk (HF7.out.trans hf8 (Nat.le_refl _))
  clear hk8 hf8 hl
  go_wp2
  have HK9 : Aside0 (Mk w8 W.heap.size (TB + 1 + 1) TB IX (TB + 1) bv8 o (st0 o)) := ⟨by
    have := HK8.out
    rw [show addB ({ s00 with now := rep o } : St).blks (rep o) = [rep o] by unfold addB s00; simp] at this
    exact this⟩
  clear HK8 HK7 HK2 HK1
  obtain ⟨Fin, hFin⟩ : ∃ x, x = (rows3 xs).foldl (layR o) (st0 o) := ⟨_, rfl⟩
  have HFIN := Aside0.mk hFin
  clear hFin
  go_loopg [36] (xs.length + 1) (fun kq v36 wr => ∃ (j : Nat), v36 = .int .i64 (j : Int) ∧ Aside0 (∃ (st : St) (cc : Nat) (bv' : Value), Mk wr W.heap.size (TB + 1 + 1) TB IX (TB + 1) bv' o st ∧ Fr W.heap.size W wr ∧ Inv o st cc ∧ Stg.Good cc (rows3 (xs.drop j)) ∧ (rows3 (xs.drop j)).foldl (layR o) st = Fin ∧ j + kq = xs.length + 1 ∧ j ≤ xs.length))
  case atStart => exact ⟨0, rfl, ⟨st0 o, 0, bv8, HK9.out, HF8.out, st0_inv o, HG.out.1, HFIN.out.symm, by omega, by omega⟩⟩
  case round =>
    obtain ⟨j, rfl, HI⟩ := hrel
    obtain ⟨st, cc, bv', hk, hf, hi, hg, hfo, hj1, hj2⟩ := HI.out
    have hll := HL.out
    by_cases hl : j < xs.length
    · have q1 : decide ((j : Int) < (xs.length : Int)) = true := decide_eq_true (by omega)
      have q2 : decide (j < xs.length) = true := decide_eq_true hl
      obtain ⟨ad, hA, x0, x1, x2⟩ := at_T41 (Kd.C_below HC.out hf.below) (j : Int) (by omega) (by omega)
      subst hA
      rw [Int.toNat_natCast] at x0 x1 x2
      have hmem : rd_T41 xs (j : Int) ∈ xs := by
        have := drop41 xs j hl
        exact List.mem_of_mem_drop (by rw [this]; exact List.mem_cons_self ..)
      have hrg := HG.out.2 _ hmem
      have hvw := HV.out _ hmem
      rw [drop41 xs j hl] at hg hfo
      generalize rd_T41 xs (j : Int) = x at x0 x1 x2 hrg hvw hg hfo hmem
      obtain ⟨f0, f1, f2⟩ := x
      simp only at x0 x1 x2 hrg hvw
      obtain ⟨g1, g2, g3, g4⟩ := hg
      replace g1 : cc ≤ f0.toNat := g1
      replace g2 : f0.toNat ≤ f1.toNat := g2
      have hfo2 : (rows3 (xs.drop (j + 1))).foldl (layR o) (layR o st (f0.toNat, f1.toNat, f2)) = Fin := hfo
      obtain ⟨⟨c', k1, k2, k3, k4⟩, k5⟩ := lay_ok o f2 f1.toNat (by omega) (f1.toNat + 1 - f0.toNat) f0.toNat st cc (Nat.le_refl _) g1 (by omega) hi
      rw [k2 g2] at k4
      have hba := below_alloc (Below.refl wr.heap.size wr) (.cells #[.int .i32 f0, .int .i32 f1, .int .i64 f2] 41)
      have hLA := lay_calls (wr.alloc (.cells #[.int .i32 f0, .int .i32 f1, .int .i64 f2] 41)) W.heap.size (TB + 1 + 1) TB IX (TB + 1) bv' o st cc f0.toNat f1.toNat f2 (hk.after hba) hi g1 g2 (Nat.le_trans hf.below.size hba.size) HO.out hvw (by omega)
      rw [show ((f0.toNat : Nat) : Int) = f0 by omega, show ((f1.toNat : Nat) : Int) = f1 by omega] at hLA
      have HLA := Aside0.mk hLA
      have hblk := blk_new wr (.cells #[.int .i32 f0, .int .i32 f1, .int .i64 f2] 41)
      have b0 := blk_cell hblk 0
      have b1 := blk_cell hblk 1
      have b2 := blk_cell hblk 2
      have p1 : (0 ≤ (j : Int)) = True := eq_true (by omega)
      have p2 : ((j : Int) < (xs.length : Int)) = True := eq_true (by omega)
      have HX := Aside0.mk (show Fr W.heap.size W (wr.alloc (.cells #[.int .i32 f0, .int .i32 f1, .int .i64 f2] 41)) ∧ Inv o (layR o st (f0.toNat, f1.toNat, f2)) (f1.toNat + 1) ∧ Stg.Good (f1.toNat + 1) (rows3 (xs.drop (j + 1))) ∧ (rows3 (xs.drop (j + 1))).foldl (layR o) (layR o st (f0.toNat, f1.toNat, f2)) = Fin ∧ j + gk = xs.length + 1 from ⟨hf.trans (Fr.of_below hba hf.below.size) (Nat.le_refl _), k4, g4, hfo2, hj1⟩)
      have HLJ := Aside0.mk (And.intro hl hll)
      clear hk hf hi hfo hj1 hj2 hll hl hmem hrg hvw g1 g2 g3 g4 hfo2 k1 k2 k3 k4 k5 hba hLA hblk
      go_wp2_with (go_at_call 18; refine HLA.out.mono ?_; rintro e1 w9 ⟨rfl, ⟨bv9, hk9⟩, hf9⟩; have HK10 := Aside0.mk hk9; have HF10 := Aside0.mk (HX.out.1.trans hf9 (Nat.le_refl _)); clear hk9 hf9)
      cases gk with
      | zero => have := HX.out.2.2.2.2; have := HLJ.out.1; omega
      | succ q =>
      go_roundg q
      case measure => omega
      case rel => exact ⟨j + 1, by rw [w64 (by have := HLJ.out; omega)]; rfl, ⟨_, _, _, HK10.out, HF10.out, HX.out.2.1, HX.out.2.2.1, HX.out.2.2.2.1, by have := HX.out.2.2.2.2; omega, by have := HLJ.out.1; omega⟩⟩
    · have q1 : decide ((j : Int) < (xs.length : Int)) = false := decide_eq_false (by omega)
      have q2 : decide (j < xs.length) = false := decide_eq_false hl
      rw [List.drop_eq_nil_of_le (by omega)] at hfo
      replace hfo : st = Fin := hfo
      subst hfo
      have hD := done_calls wr W.heap.size (TB + 1 + 1) TB IX (TB + 1) bv' o st hk hf.below.size (by have := hi.nb; have := hi.ca; omega) hi.ca
      have HD := Aside0.mk hD
      have HII := Aside0.mk hi
      have HFF := Aside0.mk hf
      clear hk hf hi hg hj1 hj2 hll hl hD
      go_wp2_with (go_at_call 19; refine HD.out.mono ?_; rintro e1 w9 ⟨rfl, ⟨bv9, hk9⟩, hf9⟩; have c0 := (blk_cell hk9.hm 0).trans (cm0 _ _ _ _); have HK10 := Aside0.mk hk9; have HF10 := Aside0.mk (HFF.out.trans hf9 (Nat.le_refl _)); clear hk9 hf9)
      go_ret2
      refine ⟨TB, IX, bv9, rfl, ?_, HF10.out.below⟩
      have e : build o (rows3 xs) = done st := by unfold build; rw [← HFIN.out]
      rw [e]
      exact HK10.out.tb HII.out
/-- A table of rows that may not be: none. -/
theorem build_bad (W : World) (A : Option Addr) (c : Nat) (xs : List S41) (o : Int) (h : Kd.C k41 W A xs.length xs) (hc : xs.length ≤ c) (hk : chkS xs ≠ 0) :
    Calls Try.prog 8 #[.slice A xs.length c, .int .i64 o] W fun e w' => e = .returned (.tuple #[.pointer none, .int .i64 (chkS xs)]) ∧ Below W.heap.size W w' := by
  have HCK := Aside0.mk (check_calls W A c xs h hc)
  obtain ⟨r, hr⟩ : ∃ r, r = chkS xs := ⟨_, rfl⟩
  rw [← hr] at HCK hk ⊢
  have q : (r != 0) = true := bne_iff_ne.2 hk
  clear h hc hr
  go_enter Try.func8, Try.ntmps8
  go_wp2_with (go_at_call 15; refine HCK.out.mono ?_; rintro e w1 ⟨rfl, hb⟩; have HB1 := Aside0.mk hb; clear hb)
  go_ret2
  exact ⟨rfl, HB1.out⟩
end Go.Proofs.Ytonmollpimoaoaa.Sa
