-- SPLICED by sprint.py: out of the kit's printer, with some functions by this session's own texts. No printed file. Lean checks it.
import Derived.Test.YtedaalklakokkaaPAllx0
import Derived.Test.YtedaalklakokkaaPAllx1
import Derived.Test.YtedaalklakokkaaPAllx3
namespace Go.Proofs.Ytedaalklakokkaa.PAll
open Go.RowKit Go.Proofs.YtedaalklakokkaaW.PrintWords Go.Proofs.YtedaalklakokkaaW.PrintLast Go.Proofs.YtedaalklakokkaaW.PrintMore
attribute [local go_sem] max2_int min2_int max_two min_two max_three min_three max_four min_four   -- for this text's walks alone
set_option linter.unusedVariables false
set_option linter.unusedSimpArgs false

/-- A whole value stored over a whole row: the world behind it is told by what its blocks hold. -/
theorem wpList_store_whole {P : Program} {ops : Array Oper} {rest : List Oper} {o : Oper} {a : Act} {Q : Exit → Act → World → Prop} {W : World} (hgd : o.guard = none) (hN : o.dst = none) (t : TypeId) (p x : Operand) (ho : o.op = .store t p x)
    {g : Nat} {e : TypeId} {cur : Array Value} (u : Value) (seg : List Value) (haddr : a.eval p = .pointer (some ⟨g, 0, none⟩)) (hx : a.eval x = u) (hu : u.cells.toList = seg) (ht : (P.info? t).map (·.size) = some seg.length)
    (hh : W.heap[g]? = some (.cells cur e (0, 0))) (hsz : cur.size = seg.length) (h1 : ∀ q ∈ seg, q.oneCell' = true)
    (h : ∀ w1, w1.heap[g]? = some (.cells seg.toArray e (0, 0)) → W.grownBy w1 (some g) → w1.heap.size = W.heap.size → wpList P ops Q rest a w1) : wpList P ops Q (o :: rest) a W := by
  refine wpList_plain hgd fun K hK => ?_
  have hrun := run_store_run (P := P) (o := 0) t u seg hh hu ht (by omega) h1
  unfold Oper.wp execOp
  simp only [ho, haddr, hx, Sem.run_bind, Sem.run_pure, Result.andThen_ok, hrun]
  show K (a.put o.dst undef) _
  rw [hN]
  obtain ⟨cur', h2, h3, h4⟩ := setCells_row seg 0 W cur hh (by omega)
  obtain ⟨s1, s2, s3, s4⟩ := setCells_same g seg 0 W
  have e : cur' = seg.toArray := by
    apply Array.ext'
    rw [h4]
    simp [List.drop_eq_nil_of_le, hsz]
  subst e
  exact hK a _ (h _ h2 ⟨s1, s2, s3, by rw [s4]; exact Nat.le_refl _, fun k _ hk => setCells_far seg 0 k (fun e => hk (by rw [e]))⟩ s4)

def rowL (i : Nat) : List Int :=
  match i with
  | 0 => [0, 127, 0, 0, 1] | 1 => [194, 223, 128, 191, 2] | 2 => [224, 224, 160, 191, 3] | 3 => [225, 236, 128, 191, 3] | 4 => [237, 237, 128, 159, 3]
  | 5 => [238, 239, 128, 191, 3] | 6 => [240, 240, 144, 191, 4] | 7 => [241, 243, 128, 191, 4] | _ => [244, 244, 128, 143, 4]
def rowV (l : List Int) : Value := .agg #[.int .i64 (l.getD 0 0), .int .i64 (l.getD 1 0), .int .i64 (l.getD 2 0), .int .i64 (l.getD 3 0), .int .i64 (l.getD 4 0)]
def rowCells : List Int := [0, 127, 0, 0, 1, 194, 223, 128, 191, 2, 224, 224, 160, 191, 3, 225, 236, 128, 191, 3, 237, 237, 128, 159, 3, 238, 239, 128, 191, 3, 240, 240, 144, 191, 4, 241, 243, 128, 191, 4, 244, 244, 128, 143, 4]
theorem rowCells_at : ∀ i : Fin 9, ∀ j : Fin 5, rowCells[i.val * 5 + j.val]? = some ((rowL i.val).getD j.val 0) := by decide
theorem rows_one (l : List Int) : ∀ q ∈ l.map (Value.int .i64), q.oneCell' = true := by
  intro q hq
  obtain ⟨x, _, rfl⟩ := List.mem_map.1 hq
  rfl
theorem row_size : (Try.prog.info? 60).map (·.size) = some (rowCells.map (Value.int .i64)).length := by kernel_rfl
set_option maxHeartbeats 2000000 in
set_option maxRecDepth 100000 in
theorem row_any (i : Nat) (hi : i < 9) (w : World) :
    Calls Try.prog 28 #[.int .i64 i] w fun e w' => e = .returned (rowV (rowL i)) ∧ Below w.heap.size w w' := by
  unfold rowV
  obtain ⟨x0, e0⟩ : ∃ x, x = (rowL i).getD 0 0 := ⟨_, rfl⟩
  obtain ⟨x1, e1⟩ : ∃ x, x = (rowL i).getD 1 0 := ⟨_, rfl⟩
  obtain ⟨x2, e2⟩ : ∃ x, x = (rowL i).getD 2 0 := ⟨_, rfl⟩
  obtain ⟨x3, e3⟩ : ∃ x, x = (rowL i).getD 3 0 := ⟨_, rfl⟩
  obtain ⟨x4, e4⟩ : ∃ x, x = (rowL i).getD 4 0 := ⟨_, rfl⟩
  rw [← e0, ← e1, ← e2, ← e3, ← e4]
  have E := Aside0.mk (And.intro e0 (And.intro e1 (And.intro e2 (And.intro e3 e4))))
  clear e0 e1 e2 e3 e4
  go_enter Try.func28, Try.ntmps28
  go_wp2_with (first | ((with_reducible refine gate_ (.store 60 (.tmp 3) (.tmp 13)) rfl ?_); (refine wpList_store_whole rfl rfl 60 (.tmp 3) (.tmp 13) rfl (g := w.heap.size + 1) (e := 60) (cur := (List.replicate 45 (Value.int .i64 0)).toArray) _ (rowCells.map (Value.int .i64)) rfl rfl rfl row_size ?aH rfl (rows_one _) ?_)))
  case aH => exact heap_alloc2_new _ _ _
  intro w1 h1 hg hs
  have h0 : w1.heap[w.heap.size]? = some (.cells #[.int .i64 0, .int .i64 0, .int .i64 0, .int .i64 0, .int .i64 0] 54 (0, 0)) := by
    rw [hg.block w.heap.size (by simp; omega) (by simp)]
    exact heap_alloc2_old _ _ _
  have hb : Below w.heap.size w w1 := (below_alloc (below_alloc (Below.refl w.heap.size w) _) _).grown hg (by simp; omega) (by intro k hk; injection hk with hk; omega)
  have hc : ∀ j : Fin 5, w1.cell? ⟨w.heap.size + 1, i * 5 + j.val, none⟩ = some (.int .i64 ((rowL i).getD j.val 0)) := by
    intro j
    rw [blk_cell h1, List.getElem?_toArray, List.getElem?_map, rowCells_at ⟨i, hi⟩ j]
    rfl
  have d0 := hc 0
  have d1 := hc 1
  have d2 := hc 2
  have d3 := hc 3
  have d4 := hc 4
  simp only [Fin.val_zero, Fin.val_one, show (2 : Fin 5).val = 2 from rfl, show (3 : Fin 5).val = 3 from rfl, show (4 : Fin 5).val = 4 from rfl, Nat.add_zero] at d0 d1 d2 d3 d4
  have HB := Aside0.mk hb
  have H0 := Aside0.mk h0
  rw [← E.out.1] at d0
  rw [← E.out.2.1] at d1
  rw [← E.out.2.2.1] at d2
  rw [← E.out.2.2.2.1] at d3
  rw [← E.out.2.2.2.2] at d4
  clear h1 hg hs h0 hb hc
  go_wp2_with (first | ((with_reducible refine gate_ (.store 54 (.tmp 2) (.tmp 16)) rfl ?_); (refine wpList_store_whole rfl rfl 54 (.tmp 2) (.tmp 16) rfl (g := w.heap.size) (e := 54) (cur := #[.int .i64 0, .int .i64 0, .int .i64 0, .int .i64 0, .int .i64 0]) _ [.int .i64 x0, .int .i64 x1, .int .i64 x2, .int .i64 x3, .int .i64 x4] rfl rfl rfl (by kernel_rfl) H0.out rfl (rows_one [x0, x1, x2, x3, x4]) ?_)))
  intro w2 h2 hg2 hs2
  have HB2 := Aside0.mk (HB.out.grown hg2 HB.out.size (by intro k hk; injection hk with hk; omega))
  have H2 := Aside0.mk h2
  clear h2 hg2 hs2
  go_wp2
  refine bodyPost_ret (results_cell_row rfl _ _ w.heap.size 54 #[.int .i64 x0, .int .i64 x1, .int .i64 x2, .int .i64 x3, .int .i64 x4] (0, 0) _ rfl H2.out Try.underlying54 rfl (by kernel_rfl)) rfl ?_
  exact ⟨rfl, HB2.out⟩

def loF (x0 x2 : Int) (j : Nat) : Int := if j = 0 then x0 else if j = 1 then x2 else 128
def hiF (x1 x3 : Int) (j : Nat) : Int := if j = 0 then x1 else if j = 1 then x3 else 191
/-- How many bytes of a text are a row's. -/
def fitsG (l : List Int) (x0 x1 x2 x3 x4 : Int) : Nat → Nat → Nat
  | 0, j => j
  | f + 1, j => if (j : Int) < x4 ∧ inr l j (loF x0 x2 j) (hiF x1 x3 j) = true then fitsG l x0 x1 x2 x3 x4 f (j + 1) else j
set_option maxHeartbeats 2000000 in
theorem fits_any (s : ByteArray) (x0 x1 x2 x3 x4 : Int) (h4 : x4 ≤ 4) (w : World) :
    Calls Try.prog 29 #[.string s, .agg #[.int .i64 x0, .int .i64 x1, .int .i64 x2, .int .i64 x3, .int .i64 x4]] w fun e w' => e = .returned (.int .i64 (fitsG (bytesOf s) x0 x1 x2 x3 x4 5 0 : Nat)) ∧ Below w.heap.size w w' := by
  obtain ⟨R, hR⟩ : ∃ R, R = fitsG (bytesOf s) x0 x1 x2 x3 x4 5 0 := ⟨_, rfl⟩
  rw [← hR]
  have HR := Aside0.mk hR.symm
  clear hR
  go_enter Try.func29, Try.ntmps29
  go_wp2
  go_loopg [5] 5 (fun kq v5 wr => ∃ (j : Nat), v5 = .int .i64 (j : Int) ∧ Aside0 (j ≤ 4 ∧ kq + j = 5 ∧ wr.heap[w.heap.size]? = some (.cells #[.int .i64 x0, .int .i64 x1, .int .i64 x2, .int .i64 x3, .int .i64 x4] 54 (0, 0)) ∧ Below w.heap.size w wr ∧ fitsG (bytesOf s) x0 x1 x2 x3 x4 kq j = R))
  case atStart => exact ⟨0, rfl, ⟨by omega, rfl, heap_alloc_new _ _, below_alloc (Below.refl _ _) _, HR.out⟩⟩
  case round =>
    obtain ⟨j, rfl, HI⟩ := hrel
    cases gk with
    | zero => have := HI.out.1; have := HI.out.2.1; omega
    | succ g =>
      obtain ⟨i1, i2, i3, i4, i5⟩ := HI.out
      have i2' : g + j = 4 := by omega
      have HC := Aside0.mk (And.intro i1 (And.intro i2' (And.intro i3 i4)))
      have d0 : wr.cell? ⟨w.heap.size, 0, none⟩ = some (.int .i64 x0) := by rw [blk_cell i3]; rfl
      have d1 : wr.cell? ⟨w.heap.size, 1, none⟩ = some (.int .i64 x1) := by rw [blk_cell i3]; rfl
      have d2 : wr.cell? ⟨w.heap.size, 2, none⟩ = some (.int .i64 x2) := by rw [blk_cell i3]; rfl
      have d3 : wr.cell? ⟨w.heap.size, 3, none⟩ = some (.int .i64 x3) := by rw [blk_cell i3]; rfl
      have d4 : wr.cell? ⟨w.heap.size, 4, none⟩ = some (.int .i64 x4) := by rw [blk_cell i3]; rfl
      unfold fitsG at i5
      clear i1 i2 i2' i3 i4 HI HR
      have e := inr_iff s j (loF x0 x2 j) (hiF x1 x3 j)
      obtain ⟨b, hb⟩ : ∃ b, b = bt s (j : Int) := ⟨_, rfl⟩
      have hw : wrap64 b = b := by have := bt_range s (j : Int); unfold wrap64; omega
      rw [← hb] at e
      by_cases cs : j < s.size
      · have cs1 : decide ((j : Int) < (s.size : Int)) = true := decide_eq_true (by omega)
        have p9 : (0 ≤ (j : Int)) = True := eq_true (by omega)
        have q9 : ((j : Int) < (s.size : Int)) = True := eq_true (by omega)
        by_cases c4 : (j : Int) < x4
        · have c41 : decide ((j : Int) < x4) = true := decide_eq_true c4
          by_cases j0 : j = 0
          · have j1 : j ≠ 1 := by omega
            have hx : ∀ h : j < s.size, ((s[j]'h).toNat : Int) = b := by rw [hb]; exact bt_at s j
            clear hb
            have z0 : ((j : Int) == 0) = true := by simp; try omega
            have z1 : ((j : Int) == 1) = false := by simp; try omega
            rw [show loF x0 x2 j = x0 by unfold loF; simp [*]] at e i5
            rw [show hiF x1 x3 j = x1 by unfold hiF; simp [*]] at e i5
            by_cases k0 : b < x0
            · have k01 : decide (wrap64 b < x0) = true := by rw [hw]; exact decide_eq_true k0
              rw [if_neg (fun h => by have := e.1 h.2; omega)] at i5
              subst i5
              try clear j0
              try clear j1
              try clear j2
              clear hw e cs c4 k0
              go_wp2
              go_ret
              exact ⟨by first | rfl | (simp [*]; done), HC.out.2.2.2⟩
            · have k01 : decide (wrap64 b < x0) = false := by rw [hw]; exact decide_eq_false k0
              by_cases k1 : x1 < b
              · have k11 : decide (x1 < wrap64 b) = true := by rw [hw]; exact decide_eq_true k1
                rw [if_neg (fun h => by have := e.1 h.2; omega)] at i5
                subst i5
                try clear j0
                try clear j1
                try clear j2
                clear hw e cs c4 k0 k1
                go_wp2
                go_ret
                exact ⟨by first | rfl | (simp [*]; done), HC.out.2.2.2⟩
              · have k11 : decide (x1 < wrap64 b) = false := by rw [hw]; exact decide_eq_false k1
                rw [if_pos ⟨c4, e.2 ⟨cs, by omega, by omega⟩⟩] at i5
                have HI := Aside0.mk (And.intro i5 c4)
                try clear j0
                try clear j1
                try clear j2
                clear hw e cs c4 k0 k1 i5
                go_wp2
                go_roundg g
                case measure => omega
                case rel =>
                  have := HI.out.2
                  refine ⟨j + 1, ?_, ⟨by omega, by have := HC.out.2.1; omega, HC.out.2.2.1, HC.out.2.2.2, HI.out.1⟩⟩
                  rw [show wrap64 ((j : Int) + 1) = ((j + 1 : Nat) : Int) by have := HC.out.1; unfold wrap64; omega]
          · by_cases j1 : j = 1
            · have j2 : j ≠ 0 := by omega
              have hx : ∀ h : j < s.size, ((s[j]'h).toNat : Int) = b := by rw [hb]; exact bt_at s j
              clear hb
              have z0 : ((j : Int) == 0) = false := by simp; try omega
              have z1 : ((j : Int) == 1) = true := by simp; try omega
              rw [show loF x0 x2 j = x2 by unfold loF; simp [*]] at e i5
              rw [show hiF x1 x3 j = x3 by unfold hiF; simp [*]] at e i5
              by_cases k0 : b < x2
              · have k01 : decide (wrap64 b < x2) = true := by rw [hw]; exact decide_eq_true k0
                rw [if_neg (fun h => by have := e.1 h.2; omega)] at i5
                subst i5
                try clear j0
                try clear j1
                try clear j2
                clear hw e cs c4 k0
                go_wp2
                go_ret
                exact ⟨by first | rfl | (simp [*]; done), HC.out.2.2.2⟩
              · have k01 : decide (wrap64 b < x2) = false := by rw [hw]; exact decide_eq_false k0
                by_cases k1 : x3 < b
                · have k11 : decide (x3 < wrap64 b) = true := by rw [hw]; exact decide_eq_true k1
                  rw [if_neg (fun h => by have := e.1 h.2; omega)] at i5
                  subst i5
                  try clear j0
                  try clear j1
                  try clear j2
                  clear hw e cs c4 k0 k1
                  go_wp2
                  go_ret
                  exact ⟨by first | rfl | (simp [*]; done), HC.out.2.2.2⟩
                · have k11 : decide (x3 < wrap64 b) = false := by rw [hw]; exact decide_eq_false k1
                  rw [if_pos ⟨c4, e.2 ⟨cs, by omega, by omega⟩⟩] at i5
                  have HI := Aside0.mk (And.intro i5 c4)
                  try clear j0
                  try clear j1
                  try clear j2
                  clear hw e cs c4 k0 k1 i5
                  go_wp2
                  go_roundg g
                  case measure => omega
                  case rel =>
                    have := HI.out.2
                    refine ⟨j + 1, ?_, ⟨by omega, by have := HC.out.2.1; omega, HC.out.2.2.1, HC.out.2.2.2, HI.out.1⟩⟩
                    rw [show wrap64 ((j : Int) + 1) = ((j + 1 : Nat) : Int) by have := HC.out.1; unfold wrap64; omega]
            · have hx : ∀ h : j < s.size, ((s[j]'h).toNat : Int) = b := by rw [hb]; exact bt_at s j
              clear hb
              have z0 : ((j : Int) == 0) = false := by simp; try omega
              have z1 : ((j : Int) == 1) = false := by simp; try omega
              rw [show loF x0 x2 j = 128 by unfold loF; simp [*]] at e i5
              rw [show hiF x1 x3 j = 191 by unfold hiF; simp [*]] at e i5
              by_cases k0 : b < 128
              · have k01 : decide (wrap64 b < 128) = true := by rw [hw]; exact decide_eq_true k0
                rw [if_neg (fun h => by have := e.1 h.2; omega)] at i5
                subst i5
                try clear j0
                try clear j1
                try clear j2
                clear hw e cs c4 k0
                go_wp2
                go_ret
                exact ⟨by first | rfl | (simp [*]; done), HC.out.2.2.2⟩
              · have k01 : decide (wrap64 b < 128) = false := by rw [hw]; exact decide_eq_false k0
                by_cases k1 : 191 < b
                · have k11 : decide (191 < wrap64 b) = true := by rw [hw]; exact decide_eq_true k1
                  rw [if_neg (fun h => by have := e.1 h.2; omega)] at i5
                  subst i5
                  try clear j0
                  try clear j1
                  try clear j2
                  clear hw e cs c4 k0 k1
                  go_wp2
                  go_ret
                  exact ⟨by first | rfl | (simp [*]; done), HC.out.2.2.2⟩
                · have k11 : decide (191 < wrap64 b) = false := by rw [hw]; exact decide_eq_false k1
                  rw [if_pos ⟨c4, e.2 ⟨cs, by omega, by omega⟩⟩] at i5
                  have HI := Aside0.mk (And.intro i5 c4)
                  try clear j0
                  try clear j1
                  try clear j2
                  clear hw e cs c4 k0 k1 i5
                  go_wp2
                  go_roundg g
                  case measure => omega
                  case rel =>
                    have := HI.out.2
                    refine ⟨j + 1, ?_, ⟨by omega, by have := HC.out.2.1; omega, HC.out.2.2.1, HC.out.2.2.2, HI.out.1⟩⟩
                    rw [show wrap64 ((j : Int) + 1) = ((j + 1 : Nat) : Int) by have := HC.out.1; unfold wrap64; omega]
        · have c41 : decide ((j : Int) < x4) = false := decide_eq_false c4
          rw [if_neg (fun h => c4 h.1)] at i5
          subst i5
          clear c4 e
          go_wp2
          go_ret
          exact ⟨by first | rfl | (simp [*]; done), HC.out.2.2.2⟩
      · have cs1 : decide ((j : Int) < (s.size : Int)) = false := decide_eq_false (by omega)
        rw [if_neg (fun h => cs (e.1 h.2).1)] at i5
        subst i5
        have cs2 : decide (j < s.size) = false := decide_eq_false cs
        clear hb hw e
        go_wp2
        go_ret
        exact ⟨by first | rfl | (simp [*]; done), HC.out.2.2.2⟩

def fitsR (l : List Int) (i : Nat) : Nat := fitsG l ((rowL i).getD 0 0) ((rowL i).getD 1 0) ((rowL i).getD 2 0) ((rowL i).getD 3 0) ((rowL i).getD 4 0) 5 0
/-- The document's rows, tried one by one. -/
def goR (l : List Int) : Nat → Nat → Nat → Int × Int × Bool
  | 0, _, best => (0, (best : Int), false)
  | f + 1, i, best => if (fitsR l i : Int) = (rowL i).getD 4 0 then (valI l (fitsR l i), (fitsR l i : Int), true) else goR l f (i + 1) (max best (fitsR l i))
def hitR (b : Int) (i : Nat) : Prop := (rowL i).getD 0 0 ≤ b ∧ b ≤ (rowL i).getD 1 0
theorem x4_range : ∀ i : Fin 9, 1 ≤ (rowL i.val).getD 4 0 ∧ (rowL i.val).getD 4 0 ≤ 4 := by decide
theorem shp_row (b : Int) (i : Nat) (hi : i < 9) (h : hitR b i) : shp b = ((rowL i).getD 4 0, (rowL i).getD 2 0, (rowL i).getD 3 0) := by
  unfold hitR at h
  have : i = 0 ∨ i = 1 ∨ i = 2 ∨ i = 3 ∨ i = 4 ∨ i = 5 ∨ i = 6 ∨ i = 7 ∨ i = 8 := by omega
  rcases this with rfl | rfl | rfl | rfl | rfl | rfl | rfl | rfl | rfl <;> simp [rowL] at h ⊢ <;> unfold shp <;> repeat' split
  all_goals (first | rfl | omega)
theorem shp_none (b : Int) (hb : 0 ≤ b) (h : ∀ i, i < 9 → ¬ hitR b i) : (shp b).1 = 0 := by
  have h0 := h 0 (by omega); have h1 := h 1 (by omega); have h2 := h 2 (by omega); have h3 := h 3 (by omega); have h4 := h 4 (by omega); have h5 := h 5 (by omega); have h6 := h 6 (by omega); have h7 := h 7 (by omega); have h8 := h 8 (by omega)
  simp [hitR, rowL] at h0 h1 h2 h3 h4 h5 h6 h7 h8
  unfold shp
  repeat' split
  all_goals (first | rfl | omega)
theorem hit_one (b : Int) (i j : Nat) (hi : i < 9) (hj : j < 9) (h : hitR b i) (h2 : hitR b j) : i = j := by
  unfold hitR at h h2
  have : i = 0 ∨ i = 1 ∨ i = 2 ∨ i = 3 ∨ i = 4 ∨ i = 5 ∨ i = 6 ∨ i = 7 ∨ i = 8 := by omega
  have : j = 0 ∨ j = 1 ∨ j = 2 ∨ j = 3 ∨ j = 4 ∨ j = 5 ∨ j = 6 ∨ j = 7 ∨ j = 8 := by omega
  rcases ‹i = 0 ∨ _› with rfl | rfl | rfl | rfl | rfl | rfl | rfl | rfl | rfl <;> rcases ‹j = 0 ∨ _› with rfl | rfl | rfl | rfl | rfl | rfl | rfl | rfl | rfl <;> simp [rowL] at h h2 ⊢ <;> omega
theorem fits_no (b : Int) (t : List Int) (i : Nat) (h : ¬ hitR b i) : fitsR (b :: t) i = 0 := by
  unfold fitsR fitsG
  rw [if_neg]
  intro h2
  apply h
  have := h2.2
  simpa [inr, loF, hiF, hitR] using this
theorem fits_yes (b : Int) (t : List Int) (i : Nat) (hi : i < 9) (h : hitR b i) : ((fitsR (b :: t) i : Nat) : Int) = (frontI (b :: t)).1 ∧ (frontI (b :: t)).2 = (rowL i).getD 4 0 := by
  have hs := shp_row b i hi h
  have hx := x4_range ⟨i, hi⟩
  simp only at hx
  have h0 : inr (b :: t) 0 ((rowL i).getD 0 0) ((rowL i).getD 1 0) = true := by simpa [inr, hitR] using h
  unfold fitsR frontI
  rw [if_neg (by simp)]
  simp only [List.getD_cons_zero, hs]
  generalize (rowL i).getD 4 0 = x4 at *
  generalize (rowL i).getD 0 0 = x0 at *
  generalize (rowL i).getD 1 0 = x1 at *
  generalize (rowL i).getD 2 0 = x2 at *
  generalize (rowL i).getD 3 0 = x3 at *
  have : x4 = 1 ∨ x4 = 2 ∨ x4 = 3 ∨ x4 = 4 := by omega
  cases e1 : inr (b :: t) 1 x2 x3 <;> cases e2 : inr (b :: t) 2 128 191 <;> cases e3 : inr (b :: t) 3 128 191 <;> rcases this with rfl | rfl | rfl | rfl <;> simp [fitsG, loF, hiF, h0, e1, e2, e3]
theorem goR_none (b : Int) (t : List Int) : ∀ (f i best : Nat), i + f ≤ 9 → (∀ j, i ≤ j → j < i + f → ¬ hitR b j) → goR (b :: t) f i best = (0, (best : Int), false)
  | 0, _, _, _, _ => rfl
  | f + 1, i, best, hf, h => by
    have hx := x4_range ⟨i, by omega⟩
    simp only at hx
    unfold goR
    rw [fits_no b t i (h i (by omega) (by omega)), if_neg (by omega), Nat.max_zero]
    exact goR_none b t f (i + 1) best (by omega) (fun j h1 h2 => h j (by omega) (by omega))
theorem goR_hit (b : Int) (t : List Int) (m : Nat) (hm : m < 9) (h : hitR b m) : ∀ (f i : Nat), i + f ≤ 9 → i ≤ m → m < i + f → goR (b :: t) f i 1 = if (fitsR (b :: t) m : Int) = (rowL m).getD 4 0 then (valI (b :: t) (fitsR (b :: t) m), (fitsR (b :: t) m : Int), true) else (0, ((max 1 (fitsR (b :: t) m) : Nat) : Int), false)
  | 0, _, _, _, _ => by omega
  | f + 1, i, hf, h1, h2 => by
    by_cases he : i = m
    · subst he
      conv => lhs; unfold goR
      rw [goR_none b t f (i + 1) _ (by omega) (fun j h3 h4 hj => by have := hit_one b i j hm (by omega) h hj; omega)]
    · have hx := x4_range ⟨i, by omega⟩
      simp only at hx
      conv => lhs; unfold goR
      rw [fits_no b t i (fun hj => he (hit_one b i m (by omega) hm hj h)), if_neg (by omega), Nat.max_zero]
      exact goR_hit b t m hm h f (i + 1) (by omega) (by omega) (by omega)
theorem frontI_pos (l : List Int) (h : l ≠ []) : 1 ≤ (frontI l).1 := by
  unfold frontI
  rw [if_neg h]
  simp only
  repeat' split
  all_goals simp
theorem frontI_le (l : List Int) (h : (frontI l).2 ≠ 0) : (frontI l).1 ≤ (frontI l).2 := by
  have hb := shp_bounds (l.getD 0 0)
  unfold frontI at h ⊢
  split
  · simp
  · rename_i hl
    rw [if_neg hl] at h
    simp only at h ⊢
    repeat' split
    all_goals simp_all
    all_goals omega
theorem goR_dec (b : Int) (t : List Int) (hb : 0 ≤ b) : goR (b :: t) 9 0 1 = dec (b :: t) := by
  by_cases h : ∃ m, m < 9 ∧ hitR b m
  · obtain ⟨m, hm, h⟩ := h
    rw [goR_hit b t m hm h 9 0 (by omega) (by omega) (by omega)]
    have hy := fits_yes b t m hm h
    have hx := x4_range ⟨m, hm⟩
    have hp := frontI_pos (b :: t) (by simp)
    have hq := frontI_le (b :: t) (by rw [hy.2]; simp only at hx; omega)
    unfold dec
    simp only at hx
    by_cases he : (fitsR (b :: t) m : Int) = (rowL m).getD 4 0
    · rw [if_pos he, if_neg (by omega)]
      rw [he, hy.2]
    · rw [if_neg he, if_pos (Or.inr (by omega)), show ((max 1 (fitsR (b :: t) m) : Nat) : Int) = (frontI (b :: t)).1 by omega]
  · have h' : ∀ i, i < 9 → ¬ hitR b i := fun i hi hh => h ⟨i, hi, hh⟩
    rw [goR_none b t 9 0 1 (by omega) (fun j _ hj => h' j (by omega))]
    have hs := shp_none b hb h'
    unfold dec frontI
    simp [hs]

theorem extract_bt (s : ByteArray) (n : Nat) (j : Nat) (hj : j < n) : bt (s.extract 0 n) (j : Int) = (bytesOf s).getD j 0 := by
  have e : bt (s.extract 0 n) j = (bytesOf (s.extract 0 n)).getD j 0 := by rw [← rd_bytesOf]; rfl
  have e2 : bytesOf (s.extract 0 n) = (bytesOf s).take n := by
    unfold bytesOf
    rw [Lib.extract_data, List.map_take, List.map_drop]
    simp
  rw [e, e2, List.getD_eq_getElem?_getD, List.getElem?_take, if_pos hj, ← List.getD_eq_getElem?_getD]
theorem ev_eq {α : Type} {f : Nat → Option α} {a b : α} (h : Ev f a) (e : a = b) : Ev f b := e ▸ h
theorem value_end (s : ByteArray) (x : Int) (j : Nat) (h : s.size ≤ j) : Ev (fun k => monikerref02_value.l0 k s x (j : Int)) x :=
  Ev.step (f := fun _ => some x) (fun k => by simp only [monikerref02_value.l0]; rw [if_neg (by omega)]) (Ev.now _)
theorem value_next (s : ByteArray) (x y : Int) (j : Nat) (h : j < s.size) (r : Int) (hx : 0 ≤ x) (hx2 : x < 16777216) (hy : bt s (j : Int) = y) (h0 : 128 ≤ y) (h1 : y < 256) (k : Ev (fun k => monikerref02_value.l0 k s (x * 64 + (y - 128)) ((j + 1 : Nat) : Int)) r) (hs : s.size ≤ 10) : Ev (fun k => monikerref02_value.l0 k s x (j : Int)) r := by
  refine Ev.step (f := fun k => monikerref02_value.l0 k s (x * 64 + (y - 128)) ((j + 1 : Nat) : Int)) (fun k => ?_) k
  simp only [monikerref02_value.l0]
  rw [if_pos (by omega), if_pos (by omega), hy]
  congr 1
  · unfold wrap64; omega
  · unfold wrap64; omega
theorem inr_getD {l : List Int} {k : Nat} {lo hi : Int} (h : inr l k lo hi = true) : lo ≤ l.getD k 0 ∧ l.getD k 0 ≤ hi := by
  unfold inr at h
  rw [List.getD_eq_getElem?_getD]
  split at h
  · rename_i c hc; rw [hc]; simpa using h
  · exact absurd h (by decide)
/-- What a row that fits says of the bytes. -/
theorem fits_all (l : List Int) (m : Nat) (hm : m < 9) (h : (fitsR l m : Int) = (rowL m).getD 4 0) : hitR (l.getD 0 0) m ∧ ∀ j : Nat, 1 ≤ j → (j : Int) < (rowL m).getD 4 0 → 128 ≤ l.getD j 0 ∧ l.getD j 0 ≤ 191 := by
  have hx := x4_range ⟨m, hm⟩
  have h23 : 1 < (rowL m).getD 4 0 → 128 ≤ (rowL m).getD 2 0 ∧ (rowL m).getD 3 0 ≤ 191 := by
    have : ∀ i : Fin 9, 1 < (rowL i.val).getD 4 0 → 128 ≤ (rowL i.val).getD 2 0 ∧ (rowL i.val).getD 3 0 ≤ 191 := by decide
    exact this ⟨m, hm⟩
  simp only at hx
  unfold hitR
  unfold fitsR at h
  generalize (rowL m).getD 4 0 = x4 at *
  generalize (rowL m).getD 0 0 = x0 at *
  generalize (rowL m).getD 1 0 = x1 at *
  generalize (rowL m).getD 2 0 = x2 at *
  generalize (rowL m).getD 3 0 = x3 at *
  have h4 : x4 = 1 ∨ x4 = 2 ∨ x4 = 3 ∨ x4 = 4 := by omega
  cases e0 : inr l 0 x0 x1 <;> cases e1 : inr l 1 x2 x3 <;> cases e2 : inr l 2 128 191 <;> cases e3 : inr l 3 128 191 <;> rcases h4 with rfl | rfl | rfl | rfl <;> simp [fitsG, loF, hiF, e0, e1, e2, e3] at h
  all_goals
    refine ⟨inr_getD e0, fun j hj hj2 => ?_⟩
    have hj3 : j = 1 ∨ j = 2 ∨ j = 3 := by omega
    rcases hj3 with rfl | rfl | rfl
    all_goals (first | (exfalso; omega) | (have := inr_getD e1; have := h23 (by omega); omega) | exact inr_getD e2 | exact inr_getD e3)
theorem value_ev (s : ByteArray) (m : Nat) (hm : m < 9) (h : (fitsR (bytesOf s) m : Int) = (rowL m).getD 4 0) (hle : fitsR (bytesOf s) m ≤ s.size) :
    Ev (fun k => monikerref02_value.f k (s.extract 0 (fitsR (bytesOf s) m))) (valI (bytesOf s) (fitsR (bytesOf s) m)) := by
  have hx := x4_range ⟨m, hm⟩
  simp only at hx
  obtain ⟨hh, hj⟩ := fits_all (bytesOf s) m hm h
  obtain ⟨n, hn⟩ : ∃ n, n = fitsR (bytesOf s) m := ⟨_, rfl⟩
  rw [← hn] at h hle ⊢
  have hsz : (s.extract 0 n).size = n := by simp; omega
  have b0 : bt (s.extract 0 n) 0 = (bytesOf s).getD 0 0 := extract_bt s n 0 (by omega)
  have hsh := shp_row _ m hm hh
  have hr0 : (n = 1 → 0 ≤ (bytesOf s).getD 0 0 ∧ (bytesOf s).getD 0 0 ≤ 127) ∧ (n = 2 → 194 ≤ (bytesOf s).getD 0 0 ∧ (bytesOf s).getD 0 0 ≤ 223) ∧ (n = 3 → 224 ≤ (bytesOf s).getD 0 0 ∧ (bytesOf s).getD 0 0 ≤ 239) ∧ (n = 4 → 240 ≤ (bytesOf s).getD 0 0 ∧ (bytesOf s).getD 0 0 ≤ 244) := by
    unfold hitR at hh
    generalize (bytesOf s).getD 0 0 = x at *
    have hm9 : m = 0 ∨ m = 1 ∨ m = 2 ∨ m = 3 ∨ m = 4 ∨ m = 5 ∨ m = 6 ∨ m = 7 ∨ m = 8 := by omega
    rcases hm9 with rfl | rfl | rfl | rfl | rfl | rfl | rfl | rfl | rfl <;> simp [rowL] at hh h <;> omega
  have hn4 : n = 1 ∨ n = 2 ∨ n = 3 ∨ n = 4 := by omega
  unfold monikerref02_value.f valI
  simp only [hsz, b0]
  generalize (bytesOf s).getD 0 0 = x at *
  have st : ∀ (y r : Int), Ev (fun k => monikerref02_value.l0 k (s.extract 0 n) y 1) r → n ≠ 4 → Ev (fun k => monikerref02_value.j0 k (s.extract 0 n) y) r := by
    intro y r hy h4
    refine Ev.step (f := fun k => monikerref02_value.j1 k (s.extract 0 n) y) (fun k => ?_) ?_
    · simp only [monikerref02_value.j0]; rw [hsz, if_neg (by omega)]
    · exact Ev.step (fun k => by simp only [monikerref02_value.j1]) hy
  have st4 : ∀ (y r : Int), Ev (fun k => monikerref02_value.l0 k (s.extract 0 n) (wrap64 (wrap64 x - 240)) 1) r → n = 4 → Ev (fun k => monikerref02_value.j0 k (s.extract 0 n) y) r := by
    intro y r hy h4
    refine Ev.step (f := fun k => monikerref02_value.j1 k (s.extract 0 n) (wrap64 (wrap64 x - 240))) (fun k => ?_) ?_
    · simp only [monikerref02_value.j0]; rw [hsz, if_pos (by omega), if_pos (by omega), b0]
    · exact Ev.step (fun k => by simp only [monikerref02_value.j1]) hy
  rcases hn4 with e | e | e | e
  · have := hr0.1 e
    have q1 : ((n : Int) = 1) := by omega
    have q2 : ¬ ((n : Int) = 2) := by omega
    have q3 : ¬ ((n : Int) = 3) := by omega
    have q0 : 0 < (n : Int) := by omega
    simp only [q0, q1, q2, q3, if_true, if_false]
    rw [show (wrap64 x) = x by unfold wrap64; omega]
    exact Ev.now _
  · have hx0 := hr0.2.1 e
    have h1 := hj 1 (by omega) (by omega)
    have e1 : bt (s.extract 0 n) ((1 : Nat) : Int) = (bytesOf s).getD 1 0 := extract_bt s n 1 (by omega)
    have q1 : ¬ ((n : Int) = 1) := by omega
    have q2 : ((n : Int) = 2) := by omega
    have q3 : ¬ ((n : Int) = 3) := by omega
    have q0 : 0 < (n : Int) := by omega
    simp only [q0, q1, q2, q3, if_true, if_false]
    generalize (bytesOf s).getD 1 0 = y1 at *
    refine st _ _ ?_ (by omega)
    rw [show wrap64 (wrap64 x - 192) = x - 192 by unfold wrap64; omega]
    refine value_next (s.extract 0 n) _ y1 1 (by omega) _ (by omega) (by omega) e1 (by omega) (by omega) ?_ (by omega)
    refine ev_eq (value_end _ _ _ (by omega)) ?_
    omega
  · have hx0 := hr0.2.2.1 e
    have h1 := hj 1 (by omega) (by omega)
    have e1 : bt (s.extract 0 n) ((1 : Nat) : Int) = (bytesOf s).getD 1 0 := extract_bt s n 1 (by omega)
    have h2 := hj 2 (by omega) (by omega)
    have e2 : bt (s.extract 0 n) ((2 : Nat) : Int) = (bytesOf s).getD 2 0 := extract_bt s n 2 (by omega)
    have q1 : ¬ ((n : Int) = 1) := by omega
    have q2 : ¬ ((n : Int) = 2) := by omega
    have q3 : ((n : Int) = 3) := by omega
    have q0 : 0 < (n : Int) := by omega
    simp only [q0, q1, q2, q3, if_true, if_false]
    generalize (bytesOf s).getD 1 0 = y1 at *
    generalize (bytesOf s).getD 2 0 = y2 at *
    refine st _ _ ?_ (by omega)
    rw [show wrap64 (wrap64 x - 224) = x - 224 by unfold wrap64; omega]
    refine value_next (s.extract 0 n) _ y1 1 (by omega) _ (by omega) (by omega) e1 (by omega) (by omega) ?_ (by omega)
    refine value_next (s.extract 0 n) _ y2 2 (by omega) _ (by omega) (by omega) e2 (by omega) (by omega) ?_ (by omega)
    refine ev_eq (value_end _ _ _ (by omega)) ?_
    simp only [show ¬ ((3 : Int) = 1) by decide, show ¬ ((3 : Int) = 2) by decide, if_false]
    omega
  · have hx0 := hr0.2.2.2 e
    have h1 := hj 1 (by omega) (by omega)
    have e1 : bt (s.extract 0 n) ((1 : Nat) : Int) = (bytesOf s).getD 1 0 := extract_bt s n 1 (by omega)
    have h2 := hj 2 (by omega) (by omega)
    have e2 : bt (s.extract 0 n) ((2 : Nat) : Int) = (bytesOf s).getD 2 0 := extract_bt s n 2 (by omega)
    have h3 := hj 3 (by omega) (by omega)
    have e3 : bt (s.extract 0 n) ((3 : Nat) : Int) = (bytesOf s).getD 3 0 := extract_bt s n 3 (by omega)
    have q1 : ¬ ((n : Int) = 1) := by omega
    have q2 : ¬ ((n : Int) = 2) := by omega
    have q3 : ¬ ((n : Int) = 3) := by omega
    have q0 : 0 < (n : Int) := by omega
    simp only [q0, q1, q2, q3, if_true, if_false]
    generalize (bytesOf s).getD 1 0 = y1 at *
    generalize (bytesOf s).getD 2 0 = y2 at *
    generalize (bytesOf s).getD 3 0 = y3 at *
    refine st4 _ _ ?_ (by omega)
    rw [show wrap64 (wrap64 x - 240) = x - 240 by unfold wrap64; omega]
    refine value_next (s.extract 0 n) _ y1 1 (by omega) _ (by omega) (by omega) e1 (by omega) (by omega) ?_ (by omega)
    refine value_next (s.extract 0 n) _ y2 2 (by omega) _ (by omega) (by omega) e2 (by omega) (by omega) ?_ (by omega)
    refine value_next (s.extract 0 n) _ y3 3 (by omega) _ (by omega) (by omega) e3 (by omega) (by omega) ?_ (by omega)
    refine ev_eq (value_end _ _ _ (by omega)) ?_
    omega

def gotZ : Array Value := #[.int .i64 0, .int .i64 0, .bool false]
theorem got_size : (Try.prog.info? 26).map (·.size) = some ([.int .i64 0, .int .i64 0, .bool false] : List Value).length := by kernel_rfl
theorem goR_step (l : List Int) (f i best : Nat) : goR l (f + 1) i best = if (fitsR l i : Int) = (rowL i).getD 4 0 then (valI l (fitsR l i), (fitsR l i : Int), true) else goR l f (i + 1) (max best (fitsR l i)) := rfl
theorem fitsR_le (s : ByteArray) (i : Nat) (hi : i < 9) : fitsR (bytesOf s) i ≤ s.size ∧ fitsR (bytesOf s) i ≤ 4 := by
  have key : ∀ (x0 x1 x2 x3 x4 : Int) (f j : Nat), j ≤ s.size → j + f ≤ 5 → (j : Int) ≤ x4 → x4 ≤ 4 → fitsG (bytesOf s) x0 x1 x2 x3 x4 f j ≤ s.size ∧ fitsG (bytesOf s) x0 x1 x2 x3 x4 f j ≤ 4 := by
    intro x0 x1 x2 x3 x4 f
    induction f with
    | zero => intro j h1 h2 h3 h4; unfold fitsG; omega
    | succ f ih =>
      intro j h1 h2 h3 h4
      unfold fitsG
      split
      · rename_i h
        have := (inr_iff s j _ _).1 h.2
        exact ih (j + 1) (by omega) (by omega) (by omega) h4
      · omega
  have hx := x4_range ⟨i, hi⟩
  simp only at hx
  exact key _ _ _ _ _ 5 0 (by omega) (by omega) (by omega) (by omega)
set_option maxHeartbeats 2000000 in
theorem refdecode_any (s : ByteArray) (hs : s.size ≤ 140737488355328) (h0 : s.size ≠ 0) (w : World) :
    Calls Try.prog 10 #[.string s] w fun e w' => e = .returned (.agg #[.int .i64 (goR (bytesOf s) 9 0 1).1, .int .i64 (goR (bytesOf s) 9 0 1).2.1, .bool (goR (bytesOf s) 9 0 1).2.2]) ∧ Below w.heap.size w w' := by
  obtain ⟨R, hR⟩ : ∃ R, R = goR (bytesOf s) 9 0 1 := ⟨_, rfl⟩
  rw [← hR]
  have HR := Aside0.mk hR.symm
  clear hR
  have hne : (s.toList == ([] : List UInt8)) = false := by
    rw [beq_eq_false_iff_ne]
    intro h
    rw [Lib.toList_data] at h
    exact h0 (by rw [← ByteArray.size_data, ← Array.length_toList, h]; rfl)
  have H0 := Aside0.mk h0
  clear h0
  go_enter Try.func10, Try.ntmps10
  go_wp2
  go_loopg [3, 4] 10 (fun kq v3 v4 wr => ∃ (i best : Nat), v3 = .int .i64 (best : Int) ∧ v4 = .int .i64 (i : Int) ∧ Aside0 (i ≤ 9 ∧ best ≤ 4 ∧ kq + i = 10 ∧ wr.heap[w.heap.size]? = some (.cells gotZ 26 (0, 0)) ∧ Below w.heap.size w wr ∧ goR (bytesOf s) (9 - i) i best = R))
  case atStart => exact ⟨0, 1, rfl, rfl, ⟨by omega, by omega, rfl, heap_alloc_new _ _, below_alloc (Below.refl _ _) _, HR.out⟩⟩
  case round =>
    obtain ⟨i, best, rfl, rfl, HI⟩ := hrel
    cases gk with
    | zero => have := HI.out.1; have := HI.out.2.2.1; omega
    | succ g =>
      obtain ⟨i1, i2, i3, i4, i5, i6⟩ := HI.out
      have i3' : g + i = 9 := by omega
      clear HI HR i3
      by_cases ci : i < 9
      · have ci1 : decide ((i : Int) < 9) = true := decide_eq_true (by omega)
        rw [show 9 - i = (9 - (i + 1)) + 1 by omega, goR_step] at i6
        obtain ⟨y0, e0⟩ : ∃ y, y = (rowL i).getD 0 0 := ⟨_, rfl⟩
        obtain ⟨y1, e1⟩ : ∃ y, y = (rowL i).getD 1 0 := ⟨_, rfl⟩
        obtain ⟨y2, e2⟩ : ∃ y, y = (rowL i).getD 2 0 := ⟨_, rfl⟩
        obtain ⟨y3, e3⟩ : ∃ y, y = (rowL i).getD 3 0 := ⟨_, rfl⟩
        obtain ⟨y4, e4⟩ : ∃ y, y = (rowL i).getD 4 0 := ⟨_, rfl⟩
        obtain ⟨n, hn⟩ : ∃ n, n = fitsR (bytesOf s) i := ⟨_, rfl⟩
        have hle := fitsR_le s i ci
        have hv := fun h => value_ev s i ci h hle.1
        rw [← hn] at i6 hle hv
        have hx4 := (x4_range ⟨i, ci⟩)
        simp only at hx4
        rw [← e4] at i6 hv hx4
        have hrow : rowV (rowL i) = .agg #[.int .i64 y0, .int .i64 y1, .int .i64 y2, .int .i64 y3, .int .i64 y4] := by rw [e0, e1, e2, e3, e4]; rfl
        have hfit : fitsG (bytesOf s) y0 y1 y2 y3 y4 5 0 = n := by rw [hn, e0, e1, e2, e3, e4]; rfl
        clear e0 e1 e2 e3 e4 hn
        have RC := fun w => row_any i ci w
        have FC := fun w => fits_any s y0 y1 y2 y3 y4 hx4.2 w
        rw [hrow] at RC
        rw [hfit] at FC
        clear hrow hfit
        have HX := Aside0.mk (And.intro i4 (And.intro i5 (And.intro i6 (And.intro hle hv))))
        have HY := Aside0.mk (And.intro i1 (And.intro i2 (And.intro i3' (And.intro hx4 ci))))
        have RC' := Aside0.mk RC
        have FC' := Aside0.mk FC
        clear i1 i2 i3' i4 i5 i6 hle hv hx4 ci RC FC
        by_cases cn : (n : Int) = y4
        · have cn1 : ((n : Int) == y4) = true := beq_iff_eq.mpr cn
          obtain ⟨K, hK0⟩ := HX.out.2.2.2.2 cn
          have hK : monikerref02_value.f K (s.extract 0 n) = some (valI (bytesOf s) n) := hK0 K (Nat.le_refl _)
          clear hK0
          obtain ⟨v, hv⟩ : ∃ v, v = valI (bytesOf s) n := ⟨_, rfl⟩
          have hR := HX.out.2.2.1
          rw [if_pos cn, ← hv] at hR
          subst hR
          rw [← hv] at hK
          have HK := Aside0.mk hK
          have hn0 : (0 ≤ (n : Int)) = True := eq_true (by omega)
          have hn1 : ((n : Int) ≤ (s.size : Int)) = True := eq_true (by have := HX.out.2.2.2.1.1; omega)
          clear hK hv cn
          go_wp2_with (first | (go_at_call 28; refine (RC'.out _).mono ?_; rintro e w1 ⟨rfl, hb1⟩; have HB1 := Aside0.mk hb1; clear hb1) | (go_at_call 29; refine (FC'.out _).mono ?_; rintro e w2 ⟨rfl, hb2⟩; have d4 : w2.cell? ⟨w1.heap.size, 4, none⟩ = some (.int .i64 y4) := (by rw [hb2.cell (by simp), blk_cell (heap_alloc_new _ _)]; rfl); have HW : Aside0 (Below wr.heap.size wr w2) := ⟨(HB1.out.alloc HB1.out.size _).trans (hb2.mono (by have := HB1.out.size; simp; omega))⟩; clear hb2) | (go_at_call 30; refine (monikerref02_value.calls K _ v _ HK.out).mono ?_; rintro e w3 ⟨rfl, hb3⟩; have HV : Aside0 (Below wr.heap.size wr w3) := ⟨HW.out.trans (hb3.below.mono HW.out.size)⟩; clear hb3; have h3 : w3.heap[w.heap.size]? = some (.cells gotZ 26 (0, 0)) := (by rw [HV.out.block _ (Array.getElem?_eq_some_iff.1 HX.out.1).1]; exact HX.out.1); have H3 := Aside0.mk h3; clear h3) | ((with_reducible refine gate_ (.store 26 (.tmp 2) (.tmp 28)) rfl ?_); (refine wpList_store_whole rfl rfl 26 (.tmp 2) (.tmp 28) rfl (g := w.heap.size) (e := 26) (cur := gotZ) _ [.int .i64 v, .int .i64 (n : Int), .bool true] rfl rfl rfl got_size H3.out rfl (by intro q hq; simp at hq; rcases hq with rfl | rfl | rfl <;> rfl) ?_)))
          intro w4 h4 hg4 hs4
          have HE : Aside0 (Below w.heap.size w w4) := ⟨(HX.out.2.1.trans (HV.out.mono HX.out.2.1.size)).grown hg4 (Nat.le_trans HX.out.2.1.size HV.out.size) (by intro k hk; injection hk with hk; omega)⟩
          have H4 := Aside0.mk h4
          clear h4 hg4 hs4
          go_wp2
          refine bodyPost_ret (results_cell_row rfl _ _ w.heap.size 26 #[.int .i64 v, .int .i64 (n : Int), .bool true] (0, 0) _ rfl H4.out Try.underlying26 rfl (by kernel_rfl)) rfl ?_
          exact ⟨rfl, HE.out⟩
        · have cn1 : ((n : Int) == y4) = false := beq_eq_false_iff_ne.mpr cn
          have hR := HX.out.2.2.1
          rw [if_neg cn] at hR
          have HR := Aside0.mk hR
          clear hR cn
          have hmx : (if (best : Int) ≤ (n : Int) then (n : Int) else (best : Int)) = ((max best n : Nat) : Int) := by split <;> omega
          go_wp2_with (first | (go_at_call 28; refine (RC'.out _).mono ?_; rintro e w1 ⟨rfl, hb1⟩; have HB1 := Aside0.mk hb1; clear hb1) | (go_at_call 29; refine (FC'.out _).mono ?_; rintro e w2 ⟨rfl, hb2⟩; have d4 : w2.cell? ⟨w1.heap.size, 4, none⟩ = some (.int .i64 y4) := (by rw [hb2.cell (by simp), blk_cell (heap_alloc_new _ _)]; rfl); have HW : Aside0 (Below wr.heap.size wr w2) := ⟨(HB1.out.alloc HB1.out.size _).trans (hb2.mono (by have := HB1.out.size; simp; omega))⟩; clear hb2))
          all_goals
            go_roundg g
            case measure => omega
            case rel =>
              have hy := HY.out
              have hx := HX.out
              refine ⟨i + 1, max best n, ?_, ?_, ⟨by omega, by omega, by omega, ?_, hx.2.1.trans (HW.out.mono hx.2.1.size), HR.out⟩⟩
              · congr 1; omega
              · rw [show wrap64 ((i : Int) + 1) = ((i + 1 : Nat) : Int) by unfold wrap64; omega]
              · rw [HW.out.block _ (Array.getElem?_eq_some_iff.1 hx.1).1]; exact hx.1
      · have ci1 : decide ((i : Int) < 9) = false := decide_eq_false (by omega)
        rw [show 9 - i = 0 by omega] at i6
        have hR : (0, (best : Int), false) = R := i6
        subst hR
        have HX := Aside0.mk (And.intro i4 i5)
        clear i1 i2 i3' i4 i5 i6 ci
        go_wp2_with (first | ((with_reducible refine gate_ (.store 26 (.tmp 2) (.tmp 33)) rfl ?_); (refine wpList_store_whole rfl rfl 26 (.tmp 2) (.tmp 33) rfl (g := w.heap.size) (e := 26) (cur := gotZ) _ [.int .i64 0, .int .i64 (best : Int), .bool false] rfl rfl rfl got_size HX.out.1 rfl (by intro q hq; simp at hq; rcases hq with rfl | rfl | rfl <;> rfl) ?_)))
        intro w4 h4 hg4 hs4
        have HE : Aside0 (Below w.heap.size w w4) := ⟨HX.out.2.grown hg4 HX.out.2.size (by intro k hk; injection hk with hk; omega)⟩
        have H4 := Aside0.mk h4
        clear h4 hg4 hs4
        go_wp2
        refine bodyPost_ret (results_cell_row rfl _ _ w.heap.size 26 #[.int .i64 0, .int .i64 (best : Int), .bool false] (0, 0) _ rfl H4.out Try.underlying26 rfl (by kernel_rfl)) rfl ?_
        exact ⟨rfl, HE.out⟩
theorem refdecode_nil (s : ByteArray) (h0 : s.size = 0) (w : World) :
    Calls Try.prog 10 #[.string s] w fun e w' => e = .returned (.agg #[.int .i64 0, .int .i64 0, .bool false]) ∧ Below w.heap.size w w' := by
  have hne : (s.toList == ([] : List UInt8)) = true := by
    rw [beq_iff_eq, Lib.toList_data]
    exact List.length_eq_zero_iff.1 (by rw [Array.length_toList, ByteArray.size_data]; exact h0)
  clear h0
  go_enter Try.func10, Try.ntmps10
  go_wp2_with (first | ((with_reducible refine gate_ (.store 26 (.tmp 2) (.tmp 9)) rfl ?_); (refine wpList_store_whole rfl rfl 26 (.tmp 2) (.tmp 9) rfl (g := w.heap.size) (e := 26) (cur := gotZ) _ [.int .i64 0, .int .i64 0, .bool false] rfl rfl rfl got_size (heap_alloc_new _ _) rfl (by intro q hq; simp at hq; rcases hq with rfl | rfl | rfl <;> rfl) ?_)))
  intro w4 h4 hg4 hs4
  have HE : Aside0 (Below w.heap.size w w4) := ⟨(below_alloc (Below.refl _ _) _).grown hg4 (by simp) (by intro k hk; injection hk with hk; omega)⟩
  have H4 := Aside0.mk h4
  clear h4 hg4 hs4
  go_wp2
  refine bodyPost_ret (results_cell_row rfl _ _ w.heap.size 26 #[.int .i64 0, .int .i64 0, .bool false] (0, 0) _ rfl H4.out Try.underlying26 rfl (by kernel_rfl)) rfl ?_
  exact ⟨rfl, HE.out⟩
theorem bytesOf_cons (s : ByteArray) (h : s.size ≠ 0) : bytesOf s = bt s 0 :: (bytesOf s).tail := by
  have e : bt s 0 = (bytesOf s).getD 0 0 := by rw [← rd_bytesOf]; rfl
  rw [e]
  cases hb : bytesOf s with
  | nil => exact absurd (by rw [← bytesOf_length, hb]; rfl) h
  | cons a t => rfl

/-! ### monikerref02_Decode: function 10 (own text) -/
def monikerref02_Decode.f (a0 : ByteArray) : Option (Int × Int × Bool) := if a0.size ≤ 140737488355328 then some (dec (bytesOf a0)) else none
theorem monikerref02_Decode.calls (a0 : ByteArray) (r1 : Int) (r2 : Int) (r3 : Bool) (w : World) (h : monikerref02_Decode.f a0 = some (r1, r2, r3)) :
    Calls Try.prog 10 #[.string a0] w fun e w' => e = .returned (.agg #[.int .i64 r1, .int .i64 r2, .bool r3]) ∧ Below w.heap.size w w' := by
  unfold monikerref02_Decode.f at h
  by_cases hs : a0.size ≤ 140737488355328
  · rw [if_pos hs] at h
    injection h with h
    by_cases h0 : a0.size = 0
    · have e : bytesOf a0 = [] := by rw [← List.length_eq_zero_iff, bytesOf_length]; exact h0
      rw [e] at h
      have e2 : dec [] = (0, 0, false) := by simp [dec, frontI]
      rw [e2] at h
      injection h with h1 h2
      injection h2 with h2 h3
      subst h1 h2 h3
      exact refdecode_nil a0 h0 w
    · have key := refdecode_any a0 hs h0 w
      have e := goR_dec (bt a0 0) (bytesOf a0).tail (bt_range a0 0).1
      rw [← bytesOf_cons a0 h0] at e
      rw [e, h] at key
      exact key
  · rw [if_neg hs] at h
    exact absurd h (by simp)

/-! ### monikerref02_Fault: function 12 -/
def monikerref02_Fault.l0 : Nat → ByteArray → Int → Option (Int)
  | 0, _, _ => none
  | k + 1, x0, x3 => if x3 < (x0.size : Int) then (if 0 ≤ x3 then (if x3 ≤ (x0.size : Int) then ((monikerref02_Decode.f (x0.extract (x3 : Int).toNat x0.size)).bind fun bt114 => (if bt114.2.2 = true then (monikerref02_Fault.l0 k x0 (wrap64 (x3 + bt114.2.1))) else (some x3))) else (none)) else (none)) else (some (-1))
def monikerref02_Fault.f (k : Nat) (a0 : ByteArray) : Option (Int) := monikerref02_Fault.l0 k a0 0
theorem monikerref02_Fault.mono_l : ∀ k, (∀ y0 y1, LeO (monikerref02_Fault.l0 k y0 y1) (monikerref02_Fault.l0 (k + 1) y0 y1))
  | 0 => fun _ _ r h => by simp [monikerref02_Fault.l0] at h
  | k + 1 => by
    have ih0 := monikerref02_Fault.mono_l k
    · intro y0 y1
      unfold monikerref02_Fault.l0
      repeat' first
      | (with_reducible exact ih0 _ _)
      | (with_reducible exact LeO.refl _)
      | (with_reducible exact LeO.none _)
      | (with_reducible refine LeO.ite ?_ ?_)
      | (with_reducible refine LeO.bind ?_ (fun _ => ?_))
      | exact ih0 _ _
      | exact LeO.none _
      | refine LeO.ite ?_ ?_
      | refine LeO.bind ?_ (fun _ => ?_)
theorem monikerref02_Fault.mono : ∀ a0 k, LeO (monikerref02_Fault.f k a0) (monikerref02_Fault.f (k + 1) a0) := by
  intro a0 k
  have ih0 := monikerref02_Fault.mono_l k
  unfold monikerref02_Fault.f
  repeat' first
      | (with_reducible exact ih0 _ _)
      | (with_reducible exact LeO.refl _)
      | (with_reducible exact LeO.none _)
      | (with_reducible refine LeO.ite ?_ ?_)
      | (with_reducible refine LeO.bind ?_ (fun _ => ?_))
      | exact ih0 _ _
      | exact LeO.none _
      | refine LeO.ite ?_ ?_
      | refine LeO.bind ?_ (fun _ => ?_)
set_option maxHeartbeats 8000000 in
set_option maxRecDepth 100000 in
theorem monikerref02_Fault.calls (k : Nat) (a0 : ByteArray) (r : Int) (w : World) (h : monikerref02_Fault.f k a0 = some r) :
    Calls Try.prog 12 #[.string a0] w fun e w' => e = .returned (.int .i64 r) ∧ Below w.heap.size w w' := by
  have hu26 := Try.underlying26
  have HB := Aside0.mk (Below.refl w.heap.size w)
  have H : (monikerref02_Fault.l0 k a0 0) = some r := h
  clear h
  have H' := Aside0.mk H
  clear H
  go_enter Try.func12, Try.ntmps12
  go_wp2
  go_loopg [3] k (fun kq v3 w' => ∃ (x3_1 : Int), v3 = .int .i64 x3_1 ∧ Aside0 (monikerref02_Fault.l0 kq a0 x3_1 = some r) ∧ Aside0 (kq ≤ k) ∧ Aside0 (Below w.heap.size w w'))
  case atStart => exact ⟨(0), (by first | rfl | (simp; done) | (simp [*]; done)), H', ⟨Nat.le_refl _⟩, ⟨by repeat (first | (with_reducible first | exact HB.out | apply below_alloc | apply pw_below_drewN | apply below_drew1) | exact HB.out)⟩⟩
  case round =>
    clear H'
    try clear c1
    obtain ⟨x3_1, rfl, HA, HK1, HB⟩ := hrel
    cases gk with
    | zero => exact absurd HA.out (by simp [monikerref02_Fault.l0])
    | succ k1 =>
      have H := HA.out
      clear HA
      simp only [monikerref02_Fault.l0] at H
      by_cases c2 : x3_1 < (a0.size : Int)
      · rw [if_pos c2] at H
        have c2b0 : decide (x3_1 < (a0.size : Int)) = true := decide_eq_true c2
        clear c2
        by_cases c3 : 0 ≤ x3_1
        · rw [if_pos c3] at H
          have c3b0 := eq_true c3
          have c3b1 : decide (0 ≤ x3_1) = true := decide_eq_true c3
          clear c3
          by_cases c4 : x3_1 ≤ (a0.size : Int)
          · rw [if_pos c4] at H
            have c4b0 := eq_true c4
            have c4b1 : decide (x3_1 ≤ (a0.size : Int)) = true := decide_eq_true c4
            clear c4
            replace H := Option.bind_eq_some_iff.mp H
            obtain ⟨⟨t114, t115, t116⟩, A50, H⟩ := H
            replace H : (if t116 = true then (monikerref02_Fault.l0 k1 a0 (wrap64 (x3_1 + t115))) else (some x3_1)) = some r := H
            have A5 := Aside0.mk A50
            clear A50
            by_cases c6 : t116 = true
            · subst c6
              have H1 : (monikerref02_Fault.l0 k1 a0 (wrap64 (x3_1 + t115))) = some r := by rw [if_pos rfl] at H; exact H
              clear H
              have H := H1
              clear H1
              have H' := Aside0.mk H
              clear H
              go_wp2_with (first | ((with_reducible refine gate_callee (f := 10) rfl ?_); refine goesL_ (some 12) rfl rfl Try.func10 (by kernel_rfl) rfl #[.string (a0.extract (x3_1 : Int).toNat a0.size)] rfl (by (try simp only [List.map_toArray, List.map_cons, List.map_nil]); first | done | rfl | (simp only [List.length_drop, List.length_take]; rfl)) ?_; (with_reducible refine (monikerref02_Decode.calls (a0.extract (x3_1 : Int).toNat a0.size) t114 t115 true _ A5.out).mono ?_); rintro e w7 ⟨rfl, hb⟩; refine ⟨_, rfl, ?_⟩; have n0_ := Aside0.mk (below_step (by repeat (first | (with_reducible first | exact HB.out | apply below_alloc | apply pw_below_drewN | apply below_drew1) | exact HB.out)) hb); clear HB; have HB := n0_; clear n0_; (try clear hb); (try clear hb2); (try clear hk); (try clear hi)) | ((with_reducible refine gate_dst (N := 4) rfl ?_); refine box_event ?hg (N := 4) ?hd (cs := #[.int .i64 0, .int .i64 0, .bool false]) (t := 26) ?hr ?_; (case hd => rfl); (case hg => rfl); (case hr => first | (go_simp; done) | (go_simp; rfl)); intro gb117 hg w8 hbox hb; have n0_ := Aside0.mk (below_step (by repeat (first | (with_reducible first | exact HB.out | apply below_alloc | apply pw_below_drewN | apply below_drew1) | exact HB.out)) hb); have n1_ := Aside0.mk (hbox); have n2_ := Aside0.mk ((by rw [hg]; exact (below_size (by repeat (first | (with_reducible first | exact HB.out | apply below_alloc | apply pw_below_drewN | apply below_drew1) | exact HB.out))) : w.heap.size ≤ gb117)); have n3_ := Aside0.mk ((by rw [hg]; exact (below_size (by repeat (first | (with_reducible first | exact HB.out | apply below_alloc | apply pw_below_drewN | apply below_drew1) | exact HB.out))) : w.heap.size ≤ gb117)); clear HB; have HB := n0_; have BK117 := n1_; have GW117 := n2_; have GE117 := n3_; clear n0_ n1_ n2_ n3_; clear hb hbox hg; have hcz9_0 : w8.cell? ⟨gb117, 0, none⟩ = some (.int .i64 0) := (blk_cell BK117.out 0).trans rfl; have hcz9_1 : w8.cell? ⟨gb117, 1, none⟩ = some (.int .i64 0) := (blk_cell BK117.out 1).trans rfl; have hcz9_2 : w8.cell? ⟨gb117, 2, none⟩ = some (.bool false) := (blk_cell BK117.out 2).trans rfl; have hfz9_0 := blk_frozen BK117.out 0; have hfz9_1 := blk_frozen BK117.out 1; have hfz9_2 := blk_frozen BK117.out 2))
              go_roundg k1
              case measure => have := HK1.out; omega
              case rel => exact ⟨(wrap64 (x3_1 + t115)), (by first | rfl | (simp; done) | (simp [*]; done)), H', ⟨by have := HK1.out; omega⟩, ⟨by repeat (first | (with_reducible first | exact HB.out | apply below_alloc | apply pw_below_drewN | apply below_drew1 | refine below_set ?_ GE117.out) | exact HB.out)⟩⟩
            · replace c6 := Bool.eq_false_iff.mpr c6
              subst c6
              have H1 : (some x3_1) = some r := by rw [if_neg (show ¬ (false = true) by decide)] at H; exact H
              clear H
              have H := H1
              clear H1
              obtain rfl := Option.some.inj H
              go_wp2_with (first | ((with_reducible refine gate_callee (f := 10) rfl ?_); refine goesL_ (some 12) rfl rfl Try.func10 (by kernel_rfl) rfl #[.string (a0.extract (x3_1 : Int).toNat a0.size)] rfl (by (try simp only [List.map_toArray, List.map_cons, List.map_nil]); first | done | rfl | (simp only [List.length_drop, List.length_take]; rfl)) ?_; (with_reducible refine (monikerref02_Decode.calls (a0.extract (x3_1 : Int).toNat a0.size) t114 t115 false _ A5.out).mono ?_); rintro e w10 ⟨rfl, hb⟩; refine ⟨_, rfl, ?_⟩; have n0_ := Aside0.mk (below_step (by repeat (first | (with_reducible first | exact HB.out | apply below_alloc | apply pw_below_drewN | apply below_drew1) | exact HB.out)) hb); clear HB; have HB := n0_; clear n0_; (try clear hb); (try clear hb2); (try clear hk); (try clear hi)) | ((with_reducible refine gate_dst (N := 4) rfl ?_); refine box_event ?hg (N := 4) ?hd (cs := #[.int .i64 0, .int .i64 0, .bool false]) (t := 26) ?hr ?_; (case hd => rfl); (case hg => rfl); (case hr => first | (go_simp; done) | (go_simp; rfl)); intro gb117 hg w11 hbox hb; have n0_ := Aside0.mk (below_step (by repeat (first | (with_reducible first | exact HB.out | apply below_alloc | apply pw_below_drewN | apply below_drew1) | exact HB.out)) hb); have n1_ := Aside0.mk (hbox); have n2_ := Aside0.mk ((by rw [hg]; exact (below_size (by repeat (first | (with_reducible first | exact HB.out | apply below_alloc | apply pw_below_drewN | apply below_drew1) | exact HB.out))) : w.heap.size ≤ gb117)); have n3_ := Aside0.mk ((by rw [hg]; exact (below_size (by repeat (first | (with_reducible first | exact HB.out | apply below_alloc | apply pw_below_drewN | apply below_drew1) | exact HB.out))) : w.heap.size ≤ gb117)); clear HB; have HB := n0_; have BK117 := n1_; have GW117 := n2_; have GE117 := n3_; clear n0_ n1_ n2_ n3_; clear hb hbox hg; have hcz12_0 : w11.cell? ⟨gb117, 0, none⟩ = some (.int .i64 0) := (blk_cell BK117.out 0).trans rfl; have hcz12_1 : w11.cell? ⟨gb117, 1, none⟩ = some (.int .i64 0) := (blk_cell BK117.out 1).trans rfl; have hcz12_2 : w11.cell? ⟨gb117, 2, none⟩ = some (.bool false) := (blk_cell BK117.out 2).trans rfl; have hfz12_0 := blk_frozen BK117.out 0; have hfz12_1 := blk_frozen BK117.out 1; have hfz12_2 := blk_frozen BK117.out 2))
              go_ret
              exact ⟨by first | rfl | (simp [errW_none, errW_some] <;> rfl) | (simp [*, errW_none, errW_some] <;> rfl), by repeat (first | (with_reducible first | exact HB.out | apply below_alloc | apply pw_below_drewN | apply below_drew1 | refine below_set ?_ GE117.out) | exact HB.out)⟩
          · rw [if_neg c4] at H
            exact absurd H (by simp)
        · rw [if_neg c3] at H
          exact absurd H (by simp)
      · rw [if_neg c2] at H
        have c2b0 : decide (x3_1 < (a0.size : Int)) = false := decide_eq_false c2
        clear c2
        obtain rfl := Option.some.inj H
        go_wp2
        go_ret
        exact ⟨by first | rfl | (simp [errW_none, errW_some] <;> rfl) | (simp [*, errW_none, errW_some] <;> rfl), by repeat (first | (with_reducible first | exact HB.out | apply below_alloc | apply pw_below_drewN | apply below_drew1) | exact HB.out)⟩

end Go.Proofs.Ytedaalklakokkaa.PAll
