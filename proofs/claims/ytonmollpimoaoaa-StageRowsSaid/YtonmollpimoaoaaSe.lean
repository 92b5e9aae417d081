/- turn. -/
import Derived.Test.YtonmollpimoaoaaSd
namespace Go.Proofs.Ytonmollpimoaoaa.Sa
open Go.RowKit Go.Maps Go.Proofs.Ytonmollpimoaoaa.MapF Go.Proofs.Ytonmollpimoaoaa.Stg Go.Proofs.YtonmollpimoaoaaW.PrintWords Go.Proofs.YtonmollpimoaoaaW.PrintLast Go.Proofs.YtonmollpimoaoaaW.PrintMore
set_option linter.unusedVariables false
set_option linter.unusedSimpArgs false
theorem rep_len (v : Int) : (rep v).length = 256 := List.length_replicate
theorem rep_wf {v : Int} (h : (Lit.int .i64 v).wf = true) : Wf (rep v) := fun x hx => by
  rw [List.eq_of_mem_replicate hx]
  exact h
attribute [-simp] Try.sizeOf56 Try.typeInfo56
/-- 'm.now = b'. -/
theorem store_now {ops : Array Oper} {rest : List Oper} {oo : Oper} {a : Act} {W0 W : World} {Q : Exit → Act → World → Prop} {base M TB IX SM : Nat} {bv : Value} {o : Int} {s : St} (hgd : oo.guard = none) (x y : Operand) (ho : oo.op = .store 56 x y) (hd : oo.dst = none)
    (b : List Int) (hx : a.eval x = .pointer (some ⟨M, 3, none⟩)) (hy : a.eval y = .agg (nA b)) (h : Mk W base M TB IX SM bv o s) (hf : Fr base W0 W) (hb0 : base ≤ W0.heap.size) (hb : b.length = 256) (hw : Wf b)
    (hK : ∀ w', Mk w' base M TB IX SM bv o { s with now := b } → Fr base W0 w' → wpList Try.prog ops Q rest a w') : wpList Try.prog ops Q (oo :: rest) a W := by
  obtain ⟨w', hrun, hk, hf2⟩ := store3_run h b hb hw
  refine wpList_plain hgd fun K hKK => ?_
  unfold Oper.wp execOp
  simp only [ho, hx, hy, Sem.run_bind, hrun, Result.andThen_ok, Sem.run_pure]
  rw [Oper.upon_skip]
  have e : a.put oo.dst undef = a := by rw [hd]; rfl
  rw [e]
  exact hKK _ _ (hK w' hk (hf.trans hf2 hb0))
set_option maxHeartbeats 4000000 in
theorem turn_calls (W : World) (base M TB IX SM : Nat) (bv : Value) (o : Int) (s : St) (b : Nat) (h : Mk W base M TB IX SM bv o s) (hbase : base ≤ W.heap.size) (hn : s.blks.length < 65535) (hc : s.cur < 4352) (hb : b < 4352) (ho : (Lit.int .i64 o).wf = true) :
    Calls Try.prog 22 #[.pointer (some ⟨M, 0, none⟩), .int .i64 (b : Int)] W fun e w' => e = .returned (.tuple #[]) ∧ (∃ bv', Mk w' base M TB IX SM bv' o (turn o s b)) ∧ Fr base W w' := by
  have HD := Aside0.mk (done_calls W base M TB IX SM bv o s h hbase hn hc)
  have HB := Aside0.mk hbase
  have HCU := Aside0.mk hc
  have HO := Aside0.mk ho
  have HM := Aside0.mk h
  obtain ⟨c0, c2, d0, d2, x0, f0, f2⟩ := h.cellsOf hc
  by_cases e : b = s.cur
  · have q : ((b : Int) != (s.cur : Int)) = false := by rw [e]; simp
    have q2 : (b : Int) = (s.cur : Int) := by rw [e]
    rw [show turn o s b = s by unfold turn; rw [if_pos e]]
    clear h hbase hn hc hb ho e
    go_enter Try.func22, Try.ntmps22
    go_wp2
    go_end0
    exact ⟨rfl, ⟨bv, HM.out⟩, Fr.refl _ _⟩
  · have q : ((b : Int) != (s.cur : Int)) = true := bne_iff_ne.2 (by omega)
    have q2 : (b != s.cur) = true := bne_iff_ne.2 e
    rw [show turn o s b = { done s with cur := b, now := rep o } by unfold turn; rw [if_neg e]]
    have hfa := fun W : World => congrArg (fun r => r.andThen fun a w' => Result.ok (Next.value a) w') (field3 W M)
    simp [go_sem] at hfa
    clear h hbase hn hc hb ho e
    go_enter Try.func22, Try.ntmps22
    go_wp2_with (first
      | (go_at_call 19; refine HD.out.mono ?_; rintro e w1 ⟨rfl, ⟨bv', hk⟩, hf⟩; obtain ⟨c01, c21, d01, d21, x01, f01, f21⟩ := hk.cellsOf (s := done s) HCU.out; have hk2 := hk.setCur b; have c02 := (blk_cell hk2.hm 0).trans (cm0 _ _ _ _); have d22 := (blk_cell hk2.ht 2).trans rfl; have HK := Aside0.mk hk; have HF := Aside0.mk (hf.setM hk 2 (.int .i64 (b : Int))); have HK2 := Aside0.mk hk2; clear hk hf hk2)
      | (go_at_call 16; refine (blank_calls _ _ o).mono ?_; rintro e w2 ⟨rfl, hb2⟩; have HK3 := Aside0.mk (HK2.out.after hb2); have HF3 := Aside0.mk (HF.out.trans (Fr.of_below hb2 (Nat.le_trans HB.out HF.out.below.size)) HB.out); clear hb2)
      | ((with_reducible refine gate_store (t := 56) (p := 27) (v := .tmp 25) rfl ?_); refine store_now rfl (.tmp 27) (.tmp 25) rfl rfl (rep o) rfl rfl HK3.out HF3.out HB.out (rep_len o) (rep_wf HO.out) ?_; intro w' hk4 hf4; have HK4 := Aside0.mk hk4; have HF4 := Aside0.mk hf4; clear hk4 hf4))
    go_end0
    exact ⟨rfl, ⟨bv', HK4.out⟩, HF4.out⟩
end Go.Proofs.Ytonmollpimoaoaa.Sa
