/- dev: pair.New -/
import Derived.Test.YtejkfochijgkdaaPr1
namespace Go.Proofs.Ytejkfochijgkdaa.Pr
open Go.RowKit Go.Maps Go.Proofs.Ytejkfochijgkdaa.MapF Go.Proofs.YtejkfochijgkdaaW.PrintWords Go.Proofs.YtejkfochijgkdaaW.PrintLast Go.Proofs.YtejkfochijgkdaaW.PrintMore
set_option linter.unusedVariables false
/-- The texts that a function's code bears, in order. -/
def strsA : List Operand → List ByteArray
  | [] => []
  | .const (.string s) :: r => s :: strsA r
  | _ :: r => strsA r
def strsO (o : Oper) : List ByteArray := match o.op with
  | .build _ xs => strsA (xs.toList.map (·.2))
  | .call c => strsA c.args.toList
  | _ => []
def strsC : Code → List ByteArray
  | .region _ ops _ => ops.toList.flatMap strsO
  | .seq a b => strsC a ++ strsC b
  | _ => []
noncomputable def strs (i : Nat) : ByteArray := (match Try.f7.body with
  | some c => strsC c
  | none => []).getD i ⟨#[]⟩
/-- The texts of the code as letters. -/
theorem cut7 {P : Program} {Q : Exit → Act → World → Prop} {a : Act} {w : World} {r0 r1 blk rest : Code} {i2 i7 : Nat} {d2 d7 : Option Tmp} {tb ty2 ty7 : TypeId} {p2 p7 : String} {af2 af7 : Array Edge} {g2 g7 : Option (Nat × Bool)} {o2 o7 : Oper} {m2 m7 : Bool} {ce : Callee} {x7 y7 : Operand} {at7 : Array TypeId}
    {s1 s2 s3 s4 s5 s6 s7 : ByteArray}
    (h : ∀ t1 t2 t3 t4 t5 t6 t7, t1 = s1 → t2 = s2 → t3 = s3 → t4 = s4 → t5 = s5 → t6 = s6 → t7 = s7 → Code.wp P (.seq r0 (.seq r1 (.seq (.seq (.region i2 #[{ dst := d2, op := .build tb #[(0, .const (.string t1)), (1, .const (.string t2)), (2, .const (.string t3)), (3, .const (.string t4)), (4, .const (.string t5)), (5, .const (.string t6))], type := ty2, pos := p2, after := af2, guard := g2 }, o2] m2) blk)
      (.seq (.region i7 #[o7, { dst := d7, op := .call { callee := ce, args := #[x7, .const (.string t7), y7], argTypes := at7 }, type := ty7, pos := p7, after := af7, guard := g7 }] m7) rest)))) Q a w) :
    Code.wp P (.seq r0 (.seq r1 (.seq (.seq (.region i2 #[{ dst := d2, op := .build tb #[(0, .const (.string s1)), (1, .const (.string s2)), (2, .const (.string s3)), (3, .const (.string s4)), (4, .const (.string s5)), (5, .const (.string s6))], type := ty2, pos := p2, after := af2, guard := g2 }, o2] m2) blk)
      (.seq (.region i7 #[o7, { dst := d7, op := .call { callee := ce, args := #[x7, .const (.string s7), y7], argTypes := at7 }, type := ty7, pos := p7, after := af7, guard := g7 }] m7) rest)))) Q a w :=
  h s1 s2 s3 s4 s5 s6 s7 rfl rfl rfl rfl rfl rfl rfl
def nextS (n : Nat) (st : S) (s : ByteArray) : S := finS n ⟨0, 0, 0, 0, st.m, st.dn, st.up, st.sec⟩ s
def S0 : S := ⟨0, 0, 0, 0, 0, fun _ => none, fun _ _ => none, fun _ => none⟩
noncomputable def stAt (j : Nat) : S := ((List.range j).map strs).foldl (nextS 2) S0
/-- What New has read. -/
noncomputable def tabS : S := nextS 1 (stAt 6) (strs 6)
theorem stAt_succ (j : Nat) : stAt (j + 1) = nextS 2 (stAt j) (strs j) := by
  unfold stAt
  rw [List.range_succ, List.map_append, List.foldl_append]
  rfl
theorem strs_size : ∀ i, i < 7 → (strs i).size ≤ 1048576 := by decide +kernel
theorem fD_none : fD (fun _ => none) = fun _ => none := by
  funext x
  unfold fD
  split <;> rfl
theorem fU_none : fU (fun _ _ => none) = fun _ => none := by
  funext x
  cases x with
  | agg cs =>
    show (match cs.toList with
      | [.int .i32 a, .int .i32 b] => (none : Option Int).map fun r => Value.int .i32 r
      | _ => none) = none
    split <;> rfl
  | _ => rfl
theorem fS_none : fS (fun _ => none) = fun _ => none := by
  funext x
  unfold fS
  split <;> rfl
theorem pz_start (w : World) : Pz ((((w.alloc (.map #[] 0)).alloc (.map #[] 0)).alloc (.map #[] 0)).alloc (.cells #[.map (some w.heap.size), .map (some (w.heap.size + 1)), .map (some (w.heap.size + 1 + 1))] 50))
    (w.heap.size + 1 + 1 + 1) w.heap.size (w.heap.size + 1) (w.heap.size + 1 + 1) (0 * 3145731) (stAt 0).m (stAt 0).dn (stAt 0).up (stAt 0).sec := by
  have s1 : (w.alloc (.map #[] 0)).heap.size = w.heap.size + 1 := by simp
  have s2 : ((w.alloc (.map #[] 0)).alloc (.map #[] 0)).heap.size = w.heap.size + 1 + 1 := by simp
  have s3 : (((w.alloc (.map #[] 0)).alloc (.map #[] 0)).alloc (.map #[] 0)).heap.size = w.heap.size + 1 + 1 + 1 := by simp
  refine ⟨⟨?_, ?_, ⟨0, ?_⟩, ⟨0, ?_⟩⟩, by omega, by omega, by omega, fun r c h => by cases h⟩
  · have := blk_new (((w.alloc (.map #[] 0)).alloc (.map #[] 0)).alloc (.map #[] 0)) (.cells #[.map (some w.heap.size), .map (some (w.heap.size + 1)), .map (some (w.heap.size + 1 + 1))] 50)
    rw [s3] at this
    exact this
  · show MapF _ _ _ _ 0 0 (fD fun _ => none)
    rw [fD_none]
    exact (((MapF.made w Try.prog 21).alloc _).alloc _).alloc _
  · show MapF _ _ _ _ 0 0 (fU fun _ _ => none)
    rw [fU_none]
    have := MapF.made (w.alloc (.map #[] 0)) Try.prog 28
    rw [s1] at this
    exact (this.alloc _).alloc _
  · show MapF _ _ _ _ 0 0 (fS fun _ => none)
    rw [fS_none]
    have := MapF.made ((w.alloc (.map #[] 0)).alloc (.map #[] 0)) Try.prog 21
    rw [s2] at this
    exact this.alloc _
theorem below_ke {w wr w' : World} (h : Below w.heap.size w wr) (k : Ke w.heap.size (w.heap.size + 1) (w.heap.size + 1 + 1) wr.heap.size wr w') : Below w.heap.size w w' :=
  ⟨k.os.trans h.os, k.tape.trans h.tape, k.output.trans h.output, Nat.le_trans h.size k.size, fun j hj => (k.block j (by have := h.size; omega) (by omega) (by omega) (by omega)).trans (h.block j hj)⟩
set_option maxRecDepth 1000000 in
set_option maxHeartbeats 4000000 in
theorem new_calls (w : World) :
    Calls Try.prog 7 #[] w fun e w' => e = .returned (.pointer (some ⟨w.heap.size + 1 + 1 + 1, 0, none⟩)) ∧ Pz w' (w.heap.size + 1 + 1 + 1) w.heap.size (w.heap.size + 1) (w.heap.size + 1 + 1) 1000000000 tabS.m tabS.dn tabS.up tabS.sec ∧ Below w.heap.size w w' := by
  have hmm := @run_makeMap Try.prog
  go_enter Try.func7, Try.ntmps7
  refine cut7 ?_
  intro t1 t2 t3 t4 t5 t6 t7 e1 e2 e3 e4 e5 e6 e7
  have E1 := Aside0.mk (e1.trans (show _ = strs 0 by kernel_rfl))
  clear e1
  have E2 := Aside0.mk (e2.trans (show _ = strs 1 by kernel_rfl))
  clear e2
  have E3 := Aside0.mk (e3.trans (show _ = strs 2 by kernel_rfl))
  clear e3
  have E4 := Aside0.mk (e4.trans (show _ = strs 3 by kernel_rfl))
  clear e4
  have E5 := Aside0.mk (e5.trans (show _ = strs 4 by kernel_rfl))
  clear e5
  have E6 := Aside0.mk (e6.trans (show _ = strs 5 by kernel_rfl))
  clear e6
  have E7 := Aside0.mk (e7.trans (show _ = strs 6 by kernel_rfl))
  clear e7
  go_wp2
  go_loopg [10] 7 (fun kq v10 wr => ∃ (j : Nat) (kk : Int), v10 = .int .i64 kk ∧ Aside0 (kk = (j : Int) ∧ j + kq = 7 ∧ j ≤ 6 ∧ Pz wr (w.heap.size + 1 + 1 + 1) w.heap.size (w.heap.size + 1) (w.heap.size + 1 + 1) (j * 3145731) (stAt j).m (stAt j).dn (stAt j).up (stAt j).sec ∧ Below w.heap.size w wr))
  case atStart =>
    refine ⟨0, 0, rfl, ⟨rfl, rfl, by decide, ?_, ?_⟩⟩
    · exact pz_start w
    · exact below_alloc (below_alloc (below_alloc (below_alloc (Below.refl _ _) _) _) _) _
  case round =>
    obtain ⟨j, kk, rfl, HI⟩ := hrel
    have hj6 := HI.out.2.2.1
    by_cases hj : j = 6
    · subst hj
      obtain rfl : kk = 6 := HI.out.1
      have HC := Aside0.mk (read1_calls t7 (by rw [E7.out]; exact strs_size 6 (by decide)) _ (by decide) HI.out.2.2.2.1 tabS (by rw [E7.out]; rfl))
      go_wp2_with (go_at_call 23; refine HC.out.mono ?_; rintro e w' ⟨rfl, hz⟩; have HZ := Aside0.mk hz; clear hz)
      go_ret
      exact ⟨rfl, HZ.out.1.mono (by rw [E7.out]; have := strs_size 6 (by decide); omega), below_ke HI.out.2.2.2.2 HZ.out.2⟩
    have h5 : j = 0 ∨ j = 1 ∨ j = 2 ∨ j = 3 ∨ j = 4 ∨ j = 5 := by omega
    have ix0 := fun W : World => show (Instr.index 51 (.agg #[.string t1, .string t2, .string t3, .string t4, .string t5, .string t6]) (.int .i64 0)).run Try.prog W = .ok (.string t1) W by kernel_rfl
    have ix1 := fun W : World => show (Instr.index 51 (.agg #[.string t1, .string t2, .string t3, .string t4, .string t5, .string t6]) (.int .i64 1)).run Try.prog W = .ok (.string t2) W by kernel_rfl
    have ix2 := fun W : World => show (Instr.index 51 (.agg #[.string t1, .string t2, .string t3, .string t4, .string t5, .string t6]) (.int .i64 2)).run Try.prog W = .ok (.string t3) W by kernel_rfl
    have ix3 := fun W : World => show (Instr.index 51 (.agg #[.string t1, .string t2, .string t3, .string t4, .string t5, .string t6]) (.int .i64 3)).run Try.prog W = .ok (.string t4) W by kernel_rfl
    have ix4 := fun W : World => show (Instr.index 51 (.agg #[.string t1, .string t2, .string t3, .string t4, .string t5, .string t6]) (.int .i64 4)).run Try.prog W = .ok (.string t5) W by kernel_rfl
    have ix5 := fun W : World => show (Instr.index 51 (.agg #[.string t1, .string t2, .string t3, .string t4, .string t5, .string t6]) (.int .i64 5)).run Try.prog W = .ok (.string t6) W by kernel_rfl
    rcases h5 with hj0 | hj1 | hj2 | hj3 | hj4 | hj5
    · subst hj0
      obtain rfl : kk = 0 := HI.out.1
      have hg : gk = 7 := by have := HI.out.2.1; omega
      subst hg
      have HC := Aside0.mk (read2_calls t1 (by rw [E1.out]; exact strs_size 0 (by decide)) _ (by decide) HI.out.2.2.2.1 (stAt 1) (by rw [E1.out]; exact (stAt_succ 0).symm))
      go_wp2_with (go_at_call 23; refine HC.out.mono ?_; rintro e w' ⟨rfl, hz⟩; have HZ := Aside0.mk hz; clear hz)
      go_roundg 6
      case measure => omega
      case rel => exact ⟨1, _, rfl, ⟨rfl, rfl, by decide, HZ.out.1.mono (by rw [E1.out]; have := strs_size 0 (by decide); omega), below_ke HI.out.2.2.2.2 HZ.out.2⟩⟩
    · subst hj1
      obtain rfl : kk = 1 := HI.out.1
      have hg : gk = 6 := by have := HI.out.2.1; omega
      subst hg
      have HC := Aside0.mk (read2_calls t2 (by rw [E2.out]; exact strs_size 1 (by decide)) _ (by decide) HI.out.2.2.2.1 (stAt 2) (by rw [E2.out]; exact (stAt_succ 1).symm))
      go_wp2_with (go_at_call 23; refine HC.out.mono ?_; rintro e w' ⟨rfl, hz⟩; have HZ := Aside0.mk hz; clear hz)
      go_roundg 5
      case measure => omega
      case rel => exact ⟨2, _, rfl, ⟨rfl, rfl, by decide, HZ.out.1.mono (by rw [E2.out]; have := strs_size 1 (by decide); omega), below_ke HI.out.2.2.2.2 HZ.out.2⟩⟩
    · subst hj2
      obtain rfl : kk = 2 := HI.out.1
      have hg : gk = 5 := by have := HI.out.2.1; omega
      subst hg
      have HC := Aside0.mk (read2_calls t3 (by rw [E3.out]; exact strs_size 2 (by decide)) _ (by decide) HI.out.2.2.2.1 (stAt 3) (by rw [E3.out]; exact (stAt_succ 2).symm))
      go_wp2_with (go_at_call 23; refine HC.out.mono ?_; rintro e w' ⟨rfl, hz⟩; have HZ := Aside0.mk hz; clear hz)
      go_roundg 4
      case measure => omega
      case rel => exact ⟨3, _, rfl, ⟨rfl, rfl, by decide, HZ.out.1.mono (by rw [E3.out]; have := strs_size 2 (by decide); omega), below_ke HI.out.2.2.2.2 HZ.out.2⟩⟩
    · subst hj3
      obtain rfl : kk = 3 := HI.out.1
      have hg : gk = 4 := by have := HI.out.2.1; omega
      subst hg
      have HC := Aside0.mk (read2_calls t4 (by rw [E4.out]; exact strs_size 3 (by decide)) _ (by decide) HI.out.2.2.2.1 (stAt 4) (by rw [E4.out]; exact (stAt_succ 3).symm))
      go_wp2_with (go_at_call 23; refine HC.out.mono ?_; rintro e w' ⟨rfl, hz⟩; have HZ := Aside0.mk hz; clear hz)
      go_roundg 3
      case measure => omega
      case rel => exact ⟨4, _, rfl, ⟨rfl, rfl, by decide, HZ.out.1.mono (by rw [E4.out]; have := strs_size 3 (by decide); omega), below_ke HI.out.2.2.2.2 HZ.out.2⟩⟩
    · subst hj4
      obtain rfl : kk = 4 := HI.out.1
      have hg : gk = 3 := by have := HI.out.2.1; omega
      subst hg
      have HC := Aside0.mk (read2_calls t5 (by rw [E5.out]; exact strs_size 4 (by decide)) _ (by decide) HI.out.2.2.2.1 (stAt 5) (by rw [E5.out]; exact (stAt_succ 4).symm))
      go_wp2_with (go_at_call 23; refine HC.out.mono ?_; rintro e w' ⟨rfl, hz⟩; have HZ := Aside0.mk hz; clear hz)
      go_roundg 2
      case measure => omega
      case rel => exact ⟨5, _, rfl, ⟨rfl, rfl, by decide, HZ.out.1.mono (by rw [E5.out]; have := strs_size 4 (by decide); omega), below_ke HI.out.2.2.2.2 HZ.out.2⟩⟩
    · subst hj5
      obtain rfl : kk = 5 := HI.out.1
      have hg : gk = 2 := by have := HI.out.2.1; omega
      subst hg
      have HC := Aside0.mk (read2_calls t6 (by rw [E6.out]; exact strs_size 5 (by decide)) _ (by decide) HI.out.2.2.2.1 (stAt 6) (by rw [E6.out]; exact (stAt_succ 5).symm))
      go_wp2_with (go_at_call 23; refine HC.out.mono ?_; rintro e w' ⟨rfl, hz⟩; have HZ := Aside0.mk hz; clear hz)
      go_roundg 1
      case measure => omega
      case rel => exact ⟨6, _, rfl, ⟨rfl, rfl, by decide, HZ.out.1.mono (by rw [E6.out]; have := strs_size 5 (by decide); omega), below_ke HI.out.2.2.2.2 HZ.out.2⟩⟩
end Go.Proofs.Ytejkfochijgkdaa.Pr
