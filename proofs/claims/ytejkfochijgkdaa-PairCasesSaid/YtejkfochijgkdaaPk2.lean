/- The document's kana, Width, shifts, Lower, walked. -/
import Derived.Test.YtejkfochijgkdaaPk
namespace Go.Proofs.Ytejkfochijgkdaa.Pk
open Go.RowKit Go.Proofs.YtejkfochijgkdaaW.PrintWords Go.Proofs.YtejkfochijgkdaaW.PrintLast Go.Proofs.YtejkfochijgkdaaW.PrintMore
open Go.Proofs.Ytejkfochijgkdaa.Pt (opsOf)
set_option linter.unusedVariables false
set_option linter.unusedSimpArgs false
/-- A whole array into the block that was made last. -/
theorem store_new {ops : Array Oper} {rest : List Oper} {o : Oper} {a : Act} {w : World} {P : Program} {Q : Exit → Act → World → Prop} (hgd : o.guard = none) (t : TypeId) (x y : Operand) (ho : o.op = .store t x y) (hd : o.dst = none)
    (c c' : Array Value) (hx : a.eval x = .pointer (some ⟨w.heap.size, 0, none⟩)) (hy : a.eval y = .agg c') (hi : (P.info? t).map (·.size) = some c'.size) (hc : c.size = c'.size) (h1 : c'.all (·.oneCell') = true)
    (h : wpList P ops Q rest a (w.alloc (.cells c' t))) : wpList P ops Q (o :: rest) a (w.alloc (.cells c t)) :=
  wpList_plain hgd fun K hK => by
    unfold Oper.wp execOp
    simp only [ho, hx, hy, Sem.run_bind, run_storeAt_new w t c c' hi hc h1, Result.andThen_ok, Sem.run_pure]
    rw [Oper.upon_skip]
    have e : a.put o.dst undef = a := by rw [hd]; rfl
    rw [e]
    exact hK _ _ h
/-- The constants of a build. -/
def partsO (o : Oper) : List (List Int) := match o.op with
  | .build _ ps => [ps.toList.map fun (p : Nat × Operand) => Pt.intOf p.2]
  | _ => []
def buildsOf (f : Func) : List (List Int) := match f.body with
  | some c => (opsOf c).flatMap fun ops => ops.toList.flatMap partsO
  | none => []
noncomputable def KT : List Int := (buildsOf Try.f36).getD 0 []
def nums64 (l : List Int) : List Value := l.map (Value.int .i64)
theorem info61 : (Try.prog.info? 61).map (fun i => (i.zero, i.size)) = some (some (.agg (Array.replicate 58 (.int .i64 0))), 58) := by kernel_rfl
theorem info61s : (Try.prog.info? 61).map (·.size) = some 58 := by kernel_rfl
set_option maxRecDepth 1000000 in
set_option maxHeartbeats 4000000 in
theorem kana_calls (w : World) : Calls Try.prog 36 #[] w fun e w' => e = .returned (.agg (nums64 KT).toArray) ∧ Below w.heap.size w w' := by
  refine calls_of_wp Try.func36 rfl ?_
  apply wp_seq_k
  intro K1 hK1
  apply wp_region_lit
  refine Kd.event_run rfl (v := .pointer (some ⟨w.heap.size, 0, none⟩)) (w1 := w.alloc (.cells (Array.replicate 58 (.int .i64 0)) 61)) (by kernel_rfl) (wpList_nil (hK1 _ _ ?_))
  apply wp_seq_k
  intro K2 hK2
  apply wp_region_lit
  refine Kd.event_run rfl (v := .agg (nums64 KT).toArray) (w1 := w.alloc (.cells (Array.replicate 58 (.int .i64 0)) 61)) (by kernel_rfl) ?_
  refine store_new rfl 61 (.tmp 0) (.tmp 1) rfl rfl _ (nums64 KT).toArray rfl rfl (by kernel_rfl) (by kernel_rfl) (by kernel_rfl) (wpList_nil (hK2 _ _ ?_))
  apply wp_ret
  refine bodyPost_ret (results_cell_row rfl _ _ w.heap.size 61 _ (0, 0) _ rfl (heap_alloc_new _ _) Try.underlying61 rfl (by kernel_rfl)) rfl ?_
  exact ⟨rfl, below_alloc (Below.refl _ _) _⟩
/-! ### the document's Width -/
noncomputable def rWidth (r : Int) : Int :=
  if 65281 ≤ r ∧ r ≤ 65374 then r - 65281 + 33 else if r = 65377 then 12290 else if r = 65381 then 12539 else if 65382 ≤ r ∧ r ≤ 65439 then KT.getD (r - 65382).toNat 0 else r
theorem KT_len : KT.length = 58 := by decide +kernel
theorem nums64_at (l : List Int) (i : Nat) (h : i < l.length) : (nums64 l).toArray[i]? = some (.int .i64 (l.getD i 0)) := by
  unfold nums64
  simp [List.getElem?_map, List.getD_eq_getElem?_getD, List.getElem?_eq_getElem h]
set_option maxHeartbeats 4000000 in
theorem rwidth_calls (w : World) (r : Int) (hr : -2147483648 ≤ r ∧ r ≤ 2147483647) : Calls Try.prog 17 #[.int .i64 r] w fun e w' => e = .returned (.int .i64 (rWidth r)) ∧ Below w.heap.size w w' := by
  unfold rWidth
  by_cases h1 : 65281 ≤ r ∧ r ≤ 65374
  · rw [if_pos h1]
    have q1 := h1.1
    have q2 := h1.2
    have e : wrap64 (wrap64 (r - 65281) + 33) = r - 65281 + 33 := by unfold wrap64; omega
    have e2 : wrap64 (r - 65281 + 33) = r - 65281 + 33 := by unfold wrap64; omega
    have e3 : wrap64 (r - 65281) = r - 65281 := by unfold wrap64; omega
    clear h1
    go_enter Try.func17, Try.ntmps17
    go_wp2
    go_ret
    exact ⟨rfl, Below.refl _ _⟩
  rw [if_neg h1]
  by_cases h2 : r = 65377
  · subst h2
    rw [if_pos rfl]
    clear h1
    go_enter Try.func17, Try.ntmps17
    go_wp2
    go_ret
    exact ⟨rfl, Below.refl _ _⟩
  rw [if_neg h2]
  by_cases h3 : r = 65381
  · subst h3
    rw [if_pos rfl]
    clear h1
    go_enter Try.func17, Try.ntmps17
    go_wp2
    go_ret
    exact ⟨rfl, Below.refl _ _⟩
  rw [if_neg h3]
  have n2 : (r == 65377) = false := beq_eq_false_iff_ne.2 h2
  have n3 : (r == 65381) = false := beq_eq_false_iff_ne.2 h3
  by_cases h4 : 65382 ≤ r ∧ r ≤ 65439
  · rw [if_pos h4]
    have q4 := h4.1
    have q5 := h4.2
    have q7 : decide (r ≤ 65374) = false := decide_eq_false (by omega)
    have HK := Aside0.mk kana_calls
    have hi : ∀ W : World, (Instr.index 61 (.agg (nums64 KT).toArray) (.int .i64 (r - 65382))).run Try.prog W = .ok (.int .i64 (KT.getD (r - 65382).toNat 0)) W := fun W => by
      have u3 := Try.underlying3
      have a3 := Try.isAgg3
      have z3 := Try.sizeOf3
      have hb : (r - 65382).toNat < KT.length := by rw [KT_len]; omega
      have ha := nums64_at KT _ hb
      have hlt : 0 ≤ r - 65382 ∧ r - 65382 < 58 := by omega
      unfold Instr.index
      simp only [Sem.run_bind, asIntOf, Sem.run_pure, Result.andThen_ok, run_underlying Try.underlying61]
      rw [if_pos (show 0 ≤ r - 65382 ∧ r - 65382 < ((58 : Nat) : Int) from ⟨by omega, by omega⟩)]
      simp only [Sem.run_bind, z3, Result.andThen_ok, Nat.mul_one, part, a3, Bool.false_eq_true, if_false, ha, Sem.run_pure]
    have e3 : wrap64 (r - 65382) = r - 65382 := by unfold wrap64; omega
    generalize (nums64 KT).toArray = ka at HK hi
    generalize KT.getD (r - 65382).toNat 0 = kv at hi
    clear h1 h2 h3 h4
    go_enter Try.func17, Try.ntmps17
    go_wp2_with (go_at_call 36; refine (HK.out _).mono ?_; rintro e w1 ⟨rfl, hb⟩; have HB := Aside0.mk hb; clear hb)
    go_ret
    exact ⟨rfl, HB.out⟩
  · rw [if_neg h4]
    have H1 := Aside0.mk h1
    have H4 := Aside0.mk h4
    clear h1 h2 h3 h4
    by_cases q6 : 65281 ≤ r
    · have q7 : decide (r ≤ 65374) = false := decide_eq_false (fun h => H1.out ⟨q6, h⟩)
      by_cases q4 : 65382 ≤ r
      · have q5 : decide (r ≤ 65439) = false := decide_eq_false (fun h => H4.out ⟨q4, h⟩)
        go_enter Try.func17, Try.ntmps17
        go_wp2
        go_ret
        exact ⟨rfl, Below.refl _ _⟩
      · have q4' : decide (65382 ≤ r) = false := decide_eq_false q4
        clear q4
        go_enter Try.func17, Try.ntmps17
        go_wp2
        go_ret
        exact ⟨rfl, Below.refl _ _⟩
    · have q4 : decide (65382 ≤ r) = false := decide_eq_false (by omega)
      have q6' : decide (65281 ≤ r) = false := decide_eq_false q6
      clear q6
      go_enter Try.func17, Try.ntmps17
      go_wp2
      go_ret
      exact ⟨rfl, Below.refl _ _⟩
/-! ### the document's Lower -/
abbrev T4 : Type := Int × Int × Int × Int
def flat4 : List T4 → List Value
  | [] => []
  | x :: t => .int .i64 x.1 :: .int .i64 x.2.1 :: .int .i64 x.2.2.1 :: .int .i64 x.2.2.2 :: flat4 t
theorem flat4_at : ∀ (l : List T4) (j : Nat), j < l.length → (flat4 l)[j * 4]? = some (.int .i64 (l.getD j (0, 0, 0, 0)).1) ∧ (flat4 l)[j * 4 + 1]? = some (.int .i64 (l.getD j (0, 0, 0, 0)).2.1) ∧ (flat4 l)[j * 4 + 2]? = some (.int .i64 (l.getD j (0, 0, 0, 0)).2.2.1) ∧ (flat4 l)[j * 4 + 3]? = some (.int .i64 (l.getD j (0, 0, 0, 0)).2.2.2)
  | [], j, h => by simp at h
  | x :: t, 0, _ => ⟨rfl, rfl, rfl, rfl⟩
  | x :: t, j + 1, h => by
    have := flat4_at t j (by simpa using h)
    rw [show (j + 1) * 4 = j * 4 + 4 by omega]
    exact this
def row4 (l : List Int) : T4 := (l.getD 0 0, l.getD 1 0, l.getD 2 0, l.getD 3 0)
noncomputable def ST : List T4 := ((buildsOf Try.f35).take 27).map row4
theorem ST_len : ST.length = 27 := by decide +kernel
theorem build4_step {ops : Array Oper} {rest : List Oper} {a : Act} {Q : Exit → Act → World → Prop} {W : World} {d : Option Tmp} {ty : TypeId} {p : String} {af : Array Edge} {x y z u : Int}
    (h : wpList Try.prog ops Q rest (a.put d (.agg #[.int .i64 x, .int .i64 y, .int .i64 z, .int .i64 u])) W) :
    wpList Try.prog ops Q ({ dst := d, op := .build 58 #[(0, .const (.int .i64 x)), (1, .const (.int .i64 y)), (2, .const (.int .i64 z)), (3, .const (.int .i64 u))], type := ty, pos := p, after := af, guard := none } :: rest) a W :=
  Kd.event_run rfl (by kernel_rfl) h
set_option maxRecDepth 1000000 in
set_option maxHeartbeats 4000000 in
theorem shifts_calls (w : World) : Calls Try.prog 35 #[] w fun e w' => e = .returned (.agg (flat4 ST).toArray) ∧ Below w.heap.size w w' := by
  refine calls_of_wp Try.func35 rfl ?_
  apply wp_seq_k
  intro K1 hK1
  apply wp_region_lit
  refine Kd.event_run rfl (v := .pointer (some ⟨w.heap.size, 0, none⟩)) (w1 := w.alloc (.cells (Array.replicate 108 (.int .i64 0)) 59)) (by kernel_rfl) (wpList_nil (hK1 _ _ ?_))
  apply wp_seq_k
  intro K2 hK2
  apply wp_region_lit
  iterate 27 (refine build4_step ?_)
  refine Kd.event_run rfl (v := .agg (flat4 ST).toArray) (w1 := w.alloc (.cells (Array.replicate 108 (.int .i64 0)) 59)) (by kernel_rfl) ?_
  refine store_new rfl 59 (.tmp 0) (.tmp 28) rfl rfl _ (flat4 ST).toArray (by kernel_rfl) (by kernel_rfl) (by kernel_rfl) (by kernel_rfl) (by kernel_rfl) (wpList_nil (hK2 _ _ ?_))
  apply wp_ret
  refine bodyPost_ret (results_cell_row rfl _ _ w.heap.size 59 _ (0, 0) _ (by kernel_rfl) (heap_alloc_new _ _) Try.underlying59 rfl (by kernel_rfl)) (by kernel_rfl) ?_
  exact ⟨rfl, below_alloc (Below.refl _ _) _⟩
def lk : List T4 → Int → Int
  | [], r => r
  | x :: t, r => if x.1 ≤ r ∧ r ≤ x.2.1 ∧ Int.tmod (r - x.1) x.2.2.1 = 0 then r + x.2.2.2 else lk t r
theorem ST_ok : ∀ x ∈ ST, (0 ≤ x.1 ∧ x.1 ≤ 1114111) ∧ (0 < x.2.2.1 ∧ x.2.2.1 ≤ 1114111) ∧ (-1114111 ≤ x.2.2.2 ∧ x.2.2.2 ≤ 1114111) := by decide +kernel
theorem drop4 (xs : List T4) (j : Nat) (h : j < xs.length) : xs.drop j = xs.getD j (0, 0, 0, 0) :: xs.drop (j + 1) := by
  rw [List.drop_eq_getElem_cons h, List.getD_eq_getElem?_getD, List.getElem?_eq_getElem h]
  rfl
theorem nxs {j n : Nat} (h : j < n) (hn : n ≤ 100000) : Value.int .i64 (wrap64 ((j : Int) + 1)) = .int .i64 ((j + 1 : Nat) : Int) := by
  congr 1
  unfold wrap64
  omega
set_option maxHeartbeats 8000000 in
theorem rlower_walk (SH : Array Value) (L : List T4) (hL : L.length = 27) (hc : ∀ w, Calls Try.prog 35 #[] w fun e w' => e = .returned (.agg SH) ∧ Below w.heap.size w w') (hs : SH.size = 108) (h1 : SH.all (·.oneCell') = true)
    (hat : ∀ j, j < 27 → SH[j * 4]? = some (.int .i64 (L.getD j (0, 0, 0, 0)).1) ∧ SH[j * 4 + 1]? = some (.int .i64 (L.getD j (0, 0, 0, 0)).2.1) ∧ SH[j * 4 + 2]? = some (.int .i64 (L.getD j (0, 0, 0, 0)).2.2.1) ∧ SH[j * 4 + 3]? = some (.int .i64 (L.getD j (0, 0, 0, 0)).2.2.2))
    (hok : ∀ x ∈ L, (0 ≤ x.1 ∧ x.1 ≤ 1114111) ∧ (0 < x.2.2.1 ∧ x.2.2.1 ≤ 1114111) ∧ (-1114111 ≤ x.2.2.2 ∧ x.2.2.2 ≤ 1114111))
    (w : World) (r : Int) (hr : -2147483648 ≤ r ∧ r ≤ 2147483647) : Calls Try.prog 16 #[.int .i64 r] w fun e w' => e = .returned (.int .i64 (lk L r)) ∧ Below w.heap.size w w' := by
  have HC := Aside0.mk (hc w)
  have HS := Aside0.mk hs
  have H1 := Aside0.mk h1
  have HAT := Aside0.mk hat
  have HOK := Aside0.mk hok
  have HR := Aside0.mk hr
  have HL := Aside0.mk hL
  obtain ⟨Fin, hF⟩ : ∃ f, f = lk L r := ⟨_, rfl⟩
  rw [← hF]
  have HF := Aside0.mk hF
  clear hc hs h1 hat hok hr hF hL
  go_enter Try.func16, Try.ntmps16
  go_wp2_with (first
    | (go_at_call 35; refine HC.out.mono ?_; rintro e w1 ⟨rfl, hb⟩; have HB := Aside0.mk hb; clear hb)
    | ((with_reducible refine gate_dst (N := 3) rfl ?_); refine Kd.event_run rfl (v := .pointer (some ⟨w1.heap.size, 0, none⟩)) (w1 := w1.alloc (.cells (Array.replicate 108 (.int .i64 0)) 59)) (by kernel_rfl) ?_)
    | ((with_reducible refine gate_store (t := 59) (p := 3) (v := .tmp 5) rfl ?_); refine store_new rfl 59 (.tmp 3) (.tmp 5) rfl rfl _ SH rfl rfl (by rw [HS.out]; kernel_rfl) (by rw [HS.out]; kernel_rfl) H1.out ?_))
  go_loopg [4] 28 (fun kq v4 wr => ∃ (j : Nat), v4 = .int .i64 (j : Int) ∧ Aside0 (wr.heap[w1.heap.size]? = some (.cells SH 59) ∧ Below w.heap.size w wr ∧ j + kq = 28 ∧ j ≤ 27 ∧ lk (L.drop j) r = Fin))
  case atStart => exact ⟨0, rfl, ⟨blk_new w1 _, below_alloc HB.out _, by omega, by omega, HF.out.symm⟩⟩
  case round =>
    obtain ⟨j, rfl, HI⟩ := hrel
    have hj := HI.out.2.2.2.1
    by_cases hl : j < 27
    · have q2 : decide ((j : Int) < 27) = true := decide_eq_true (by omega)
      have hd := HI.out.2.2.2.2
      obtain ⟨a0, a1, a2, a3⟩ := HAT.out j hl
      have hmem : L.getD j (0, 0, 0, 0) ∈ L := by
        rw [List.getD_eq_getElem?_getD, List.getElem?_eq_getElem (by rw [HL.out]; exact hl)]
        exact List.getElem_mem _
      have ho := HOK.out _ hmem
      rw [drop4 L j (by rw [HL.out]; exact hl), lk] at hd
      have c0 := (blk_cell HI.out.1 (j * 4)).trans a0
      have c1 := (blk_cell HI.out.1 (j * 4 + 1)).trans a1
      have c2 := (blk_cell HI.out.1 (j * 4 + 2)).trans a2
      have c3 := (blk_cell HI.out.1 (j * 4 + 3)).trans a3
      clear a0 a1 a2 a3 hmem
      generalize L.getD j (0, 0, 0, 0) = y at hd c0 c1 c2 c3 ho
      obtain ⟨f, t, s, b⟩ := y
      simp only at hd c0 c1 c2 c3 ho
      have p1 : (0 ≤ (j : Int)) = True := eq_true (by omega)
      have p2 : ((j : Int) < 27) = True := eq_true (by omega)
      have p3 : (j < 27) = True := eq_true hl
      have s0 : (s == 0) = false := beq_eq_false_iff_ne.2 (by omega)
      have s1 : s ≠ 0 := by omega
      have hwr : wrap64 (r - f) = r - f := by have := HR.out; unfold wrap64; omega
      have hwb : wrap64 (r + b) = r + b := by have := HR.out; unfold wrap64; omega
      have HLJ := Aside0.mk hl
      clear hl hj ho
      by_cases e1 : f ≤ r
      · by_cases e2 : r ≤ t
        · by_cases e3 : Int.tmod (r - f) s = 0
          · rw [if_pos ⟨e1, e2, e3⟩] at hd
            subst hd
            go_wp2
            go_region
            go_wp2
            go_ret
            exact ⟨by show Ending.returned (.int .i64 (wrap64 (r + b))) = _; rw [hwb], by repeat (first | (with_reducible exact HI.out.2.1) | apply pw_below_drewN | apply below_drew1 | exact HI.out.2.1)⟩
          · rw [if_neg (fun h => e3 h.2.2)] at hd
            have HD := Aside0.mk hd
            have e4 : (Int.tmod (r - f) s == 0) = false := beq_eq_false_iff_ne.2 e3
            have e5 : ((r - f) % s == 0) = false := by rw [← Int.tmod_eq_emod_of_nonneg (by omega)]; exact e4
            clear hd
            go_wp2
            go_region
            go_wp2
            cases gk with
            | zero => have := HI.out.2.2.1; have := HLJ.out; omega
            | succ q =>
            go_roundg q
            case measure => omega
            case rel => exact ⟨j + 1, nxs HLJ.out (by decide), ⟨HI.out.1, (by repeat (first | (with_reducible exact HI.out.2.1) | apply pw_below_drewN | apply below_drew1 | exact HI.out.2.1)), by have := HI.out.2.2.1; omega, by have := HLJ.out; omega, HD.out⟩⟩
        · rw [if_neg (fun h => e2 h.2.1)] at hd
          have HD := Aside0.mk hd
          have e4 : decide (r ≤ t) = false := decide_eq_false e2
          clear hd
          go_wp2
          go_region
          go_wp2
          cases gk with
          | zero => have := HI.out.2.2.1; have := HLJ.out; omega
          | succ q =>
          go_roundg q
          case measure => omega
          case rel => exact ⟨j + 1, nxs HLJ.out (by decide), ⟨HI.out.1, (by repeat (first | (with_reducible exact HI.out.2.1) | apply pw_below_drewN | apply below_drew1 | exact HI.out.2.1)), by have := HI.out.2.2.1; omega, by have := HLJ.out; omega, HD.out⟩⟩
      · rw [if_neg (fun h => e1 h.1)] at hd
        have HD := Aside0.mk hd
        have e4 : decide (f ≤ r) = false := decide_eq_false e1
        clear hd
        go_wp2
        go_region
        go_wp2
        cases gk with
        | zero => have := HI.out.2.2.1; have := HLJ.out; omega
        | succ q =>
        go_roundg q
        case measure => omega
        case rel => exact ⟨j + 1, nxs HLJ.out (by decide), ⟨HI.out.1, (by repeat (first | (with_reducible exact HI.out.2.1) | apply pw_below_drewN | apply below_drew1 | exact HI.out.2.1)), by have := HI.out.2.2.1; omega, by have := HLJ.out; omega, HD.out⟩⟩
    · have q2 : decide ((j : Int) < 27) = false := decide_eq_false (by omega)
      have q3 : decide (j < 27) = false := decide_eq_false hl
      have hd := HI.out.2.2.2.2
      rw [List.drop_eq_nil_of_le (by rw [HL.out]; omega), lk] at hd
      subst hd
      clear hj hl
      go_wp2
      go_ret
      exact ⟨rfl, HI.out.2.1⟩
theorem SH_size : (flat4 ST).toArray.size = 108 := by decide +kernel
theorem SH_one : (flat4 ST).toArray.all (·.oneCell') = true := by decide +kernel
theorem rlower_calls (w : World) (r : Int) (hr : -2147483648 ≤ r ∧ r ≤ 2147483647) : Calls Try.prog 16 #[.int .i64 r] w fun e w' => e = .returned (.int .i64 (lk ST r)) ∧ Below w.heap.size w w' :=
  rlower_walk (flat4 ST).toArray ST ST_len shifts_calls SH_size SH_one (fun j hj => by
    have := flat4_at ST j (by rw [ST_len]; exact hj)
    simpa using this) ST_ok w r hr
end Go.Proofs.Ytejkfochijgkdaa.Pk
