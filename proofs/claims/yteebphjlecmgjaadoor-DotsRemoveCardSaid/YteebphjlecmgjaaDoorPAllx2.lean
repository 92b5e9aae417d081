-- SPLICED by sprint.py: out of the kit's printer, with some functions by this session's own texts. No printed file. Lean checks it.
import Derived.Test.YteebphjlecmgjaaDoorPAllx0
import Derived.Test.YteebphjlecmgjaaDoorPAllx1
namespace Go.Proofs.YteebphjlecmgjaaDoor.PAll
open Go.RowKit Go.Proofs.YteebphjlecmgjaaDoorW.PrintWords Go.Proofs.YteebphjlecmgjaaDoorW.PrintLast Go.Proofs.YteebphjlecmgjaaDoorW.PrintMore
attribute [local go_sem] max2_int min2_int max_two min_two max_three min_three max_four min_four   -- for this text's walks alone
set_option linter.unusedVariables false
set_option linter.unusedSimpArgs false

/-- A conversion's row: '[]byte(s)', written into. -/
def MRow (w : World) (e : TypeId) (g : Nat) (xs : List Int) : Prop :=
  ∃ cells : Array Value, w.heap[g]? = some (.cells cells e (cells.size, cells.size + 1)) ∧ xs.length ≤ cells.size ∧ ∀ j, j < xs.length → cells[j]? = some (.int .u8 (xs.getD j 0))
theorem MRow.made (W : World) (e : TypeId) (s : ByteArray) : MRow (Lib.bytesWorld W e s) e W.heap.size (bytesOf s) := by
  refine ⟨Lib.bytesCells W e s, Lib.bytesWorld_at_new W e s, ?_, fun j hj => ?_⟩
  · rw [bytesOf_length]; simp [Lib.bytesCells]
  · rw [bytesOf_length] at hj
    have h' : j < s.data.toList.length := by rw [data_length]; exact hj
    have h2 : j < s.data.size := hj
    have h3 : j < s.size := hj
    simp [Lib.bytesCells, Array.getElem?_append, bytesOf, List.getD_eq_getElem?_getD, h3]
theorem MRow.cell {w : World} {e : TypeId} {g : Nat} {xs : List Int} (h : MRow w e g xs) (j : Nat) (hj : j < xs.length) : w.cell? ⟨g, j, none⟩ = some (.int .u8 (xs.getD j 0)) := by
  obtain ⟨cells, hh, _, hc⟩ := h
  rw [cell_of_row w g j cells e _ hh]
  exact hc j hj
theorem MRow.frozen {w : World} {e : TypeId} {g : Nat} {xs : List Int} (h : MRow w e g xs) (j : Nat) (hj : j < xs.length) : w.frozen? ⟨g, j, none⟩ = false := by
  obtain ⟨cells, hh, hl, _⟩ := h
  simp [World.frozen?, hh]
  omega
theorem MRow.set_ {w : World} {e : TypeId} {g : Nat} {xs : List Int} (h : MRow w e g xs) (j : Nat) (x : Int) : MRow (w.setCell ⟨g, j, none⟩ (.int .u8 x)) e g (xs.set j x) := by
  obtain ⟨cells, hh, hl, hc⟩ := h
  refine ⟨cells.setIfInBounds j (.int .u8 x), ?_, by simpa using hl, fun i hi => ?_⟩
  · rw [setCell_eq_setRow w g j cells e _ _ hh]
    simpa using setRow_heap w g cells _ e _ hh
  · have hi' : i < xs.length := by simpa using hi
    by_cases e1 : j = i
    · subst e1
      simp [List.getD_eq_getElem?_getD, hi', show j < cells.size by omega]
    · rw [Array.getElem?_setIfInBounds_ne e1, hc i hi']
      simp [List.getD_eq_getElem?_getD, List.getElem?_set_ne e1]
theorem MRow.drewN {w : World} {e : TypeId} {g : Nat} {xs : List Int} (h : MRow w e g xs) (n : Nat) : MRow (w.drewN n) e g xs := h
theorem MRow.below {w w1 : World} {e : TypeId} {g : Nat} {xs : List Int} (h : MRow w e g xs) (hb : Below w.heap.size w w1) : MRow w1 e g xs := by
  obtain ⟨cells, hh, h2⟩ := h
  exact ⟨cells, blk_below hh hb, h2⟩
theorem MRow.part {P : Program} {w : World} {src dst e : TypeId} {g o n c : Nat} {xs : List Int} (hs : P.underlying src = some (.slice e)) (he : P.underlying e = some (.int .u8)) (hd : P.underlying dst = some .string) (h : MRow w e g xs) (hn : o + n ≤ xs.length) :
    (convert src dst (.slice (some ⟨g, o, none⟩) n c)).run P w = .ok (.string (strOfNums ((xs.drop o).take n))) w := by
  refine run_convert_bytes_arg w src e hs he g o n c ((xs.drop o).take n) (by simp; omega) (fun i hi => ?_) dst hd
  rw [h.cell (o + i) (by omega)]
  simp [List.getD_eq_getElem?_getD, hi]
/-- Some values laid over a row's. -/
def spl (xs : List Int) (o : Nat) (ys : List Int) : List Int := xs.take o ++ ys ++ xs.drop (o + ys.length)
theorem spl_length (xs : List Int) (o : Nat) (ys : List Int) (h : o + ys.length ≤ xs.length) : (spl xs o ys).length = xs.length := by
  simp [spl]; omega
theorem spl_cons (xs : List Int) (o : Nat) (y : Int) (ys : List Int) (h : o + (ys.length + 1) ≤ xs.length) : spl (xs.set o y) (o + 1) ys = spl xs o (y :: ys) := by
  unfold spl
  have h1 : (xs.set o y).take (o + 1) = xs.take o ++ [y] := by
    rw [List.take_set, List.take_succ_eq_append_getElem (by omega), List.set_append_right _ _ (by simp; omega)]
    rw [List.length_take, Nat.min_eq_left (by omega), Nat.sub_self]
    rfl
  have h2 : (xs.set o y).drop (o + 1 + ys.length) = xs.drop (o + (ys.length + 1)) := by
    rw [List.drop_set_of_lt (by omega)]
    congr 1; omega
  rw [h1, h2]
  simp
theorem mrow_store {P : Program} {e : TypeId} {g o : Nat} : ∀ (ys : List Int) (i : Nat) (xs : List Int) (w : World), MRow w e g xs → o + i + ys.length ≤ xs.length →
    ∃ w', (storeCells ⟨g, o, none⟩ (ys.map (Value.int .u8)) i).run P w = .ok () w' ∧ MRow w' e g (spl xs (o + i) ys) ∧ ∀ B a, B ≤ g → Below B a w → Below B a w'
  | [], i, xs, w, h, _ => ⟨w, rfl, by simpa [spl] using h, fun _ _ _ hb => hb⟩
  | y :: ys, i, xs, w, h, hl => by
    have hi : o + i < xs.length := by simp at hl; omega
    have hadd : (⟨g, o, none⟩ : Addr).add i = ⟨g, o + i, none⟩ := by unfold Addr.add; split <;> simp_all
    have hcell := h.cell (o + i) hi
    have hfro := h.frozen (o + i) hi
    have hst : (store ((⟨g, o, none⟩ : Addr).add i) (.int .u8 y)).run P w = .ok () (w.setCell ⟨g, o + i, none⟩ (.int .u8 y)) := by
      rw [hadd, run_store P w _ _ _ rfl, hcell]
      simp [hfro]
    obtain ⟨w', h1, h2, h3⟩ := mrow_store (P := P) (e := e) (g := g) (o := o) ys (i + 1) (xs.set (o + i) y) _ (h.set_ (o + i) y) (by simp at hl ⊢; omega)
    refine ⟨w', ?_, ?_, fun B a hB hb => h3 B a hB (hb.setCell hB _)⟩
    · simp only [List.map_cons, storeCells, Sem.run_bind, hst, Result.andThen_ok, h1]
    · rw [← Nat.add_assoc, spl_cons xs (o + i) y ys (by simp at hl; omega)] at h2
      exact h2
/-- 'copy' within one marked row, as one step of a region that draws its order. -/
theorem step_copy_m {P : Program} {ops : Array Oper} {o : Oper} {a : Act} {w : World} {K : Act → World → Prop} {Q : Exit → Act → World → Prop} {E : Prop} (hgd : o.guard = none) (d s : Operand) (dT sT : TypeId)
    (ho : o.op = .call { callee := .builtin .copy, args := #[d, s], argTypes := #[dT, sT] }) (elem : TypeId) (hu : P.underlying dT = some (.slice elem)) (hsz : (P.info? elem).map (·.size) = some 1)
    {g off so dLen dCap sLen sCap : Nat} (hd : a.eval d = .slice (some ⟨g, off, none⟩) dLen dCap) (hs : a.eval s = .slice (some ⟨g, so, none⟩) sLen sCap) {e : TypeId} (xs : List Int)
    (hM : MRow w e g xs) (hn : sLen ≤ dLen) (hso : so + sLen ≤ xs.length) (hoff : off + sLen ≤ xs.length) (B : Nat) (w0 : World) (hb : Below B w0 w) (hBg : B ≤ g)
    (h : ∀ w', Aside0 (MRow w' e g (spl xs off ((xs.drop so).take sLen))) → Aside0 (Below B w0 w') → K (a.put o.dst (goInt sLen)) w') :
    if Region.wanted o (yielded ops a.tmps) = true then Oper.wp P o a w K Q else E := by
  have hw : Region.wanted o (yielded ops a.tmps) = true := by simp [Region.wanted, hgd]
  rw [if_pos hw]
  have hlen : ((xs.drop so).take sLen).length = sLen := by simp; omega
  obtain ⟨w', h1, h2, h3⟩ := mrow_store (P := P) (e := e) (g := g) (o := off) ((xs.drop so).take sLen) 0 xs w hM (by rw [hlen]; omega)
  have hl := run_loadCells_list (P := P) w ⟨g, so, none⟩ (((xs.drop so).take sLen).map (Value.int .u8)) (by
    intro j v hv
    rw [List.getElem?_map, Option.map_eq_some_iff] at hv
    obtain ⟨x, hx, rfl⟩ := hv
    have hj : j < ((xs.drop so).take sLen).length := (List.getElem?_eq_some_iff.1 hx).1
    rw [hlen] at hj
    have hadd : (⟨g, so, none⟩ : Addr).add j = ⟨g, so + j, none⟩ := by unfold Addr.add; split <;> simp_all
    rw [hadd, hM.cell (so + j) (by omega)]
    rw [List.getElem?_take, if_pos hj, List.getElem?_drop] at hx
    rw [List.getD_eq_getElem?_getD, hx]
    rfl)
  have hmin : Nat.min sLen dLen = sLen := Nat.min_eq_left hn
  rw [List.length_map, hlen] at hl
  obtain ⟨cs, hcs⟩ : ∃ cs, cs = ((xs.drop so).take sLen).map (Value.int .u8) := ⟨_, rfl⟩
  rw [← hcs] at hl h1
  have hrun : (Builtin.copy_ #[dT, sT] o.type #[.slice (some ⟨g, off, none⟩) dLen dCap, .slice (some ⟨g, so, none⟩) sLen sCap]).run P w = .ok (goInt sLen) w' := by
    cases hq : P.info? elem with
    | none => simp [hq] at hsz
    | some i =>
      have hi : i.size = 1 := by simpa [hq] using hsz
      simp [Builtin.copy_, run_underlying hu, Builtin.lenOf, Builtin.firstCells, sizeOf, typeInfo, hq, hi, hmin, hl, h1]
  unfold Oper.wp
  simp [execOp, ho, resolve, invoke, builtin, hd, hs, hrun, Result.andThen]
  exact h w' ⟨h2⟩ ⟨h3 B w0 hBg hb⟩
theorem MRow.reads {w : World} {e : TypeId} {g : Nat} {xs : List Int} (h : MRow w e g xs) (n : Nat) (hn : n ≤ xs.length) (hmax : xs.length ≤ 9223372036854775807) : Kd.C (Kd.int .u8) w (some ⟨g, 0, none⟩) n (xs.take n) := by
  refine ⟨by simp; omega, by omega, fun _ => ⟨_, rfl, fun j p hp => ⟨[.int .u8 p], rfl, rfl, fun i u hu => ?_⟩⟩⟩
  have hj : j < (xs.take n).length := (List.getElem?_eq_some_iff.1 hp).1
  rw [List.length_take] at hj
  rw [List.getElem?_take, if_pos (by omega)] at hp
  have hi : i = 0 := by
    have := (List.getElem?_eq_some_iff.1 hu).1
    simpa using this
  subst hi
  have hu2 : Value.int .u8 p = u := by simpa using hu
  have hadd : (⟨g, 0, none⟩ : Addr).add (j * 1 + 0) = ⟨g, j, none⟩ := by unfold Addr.add; split <;> simp_all
  show w.cell? ((⟨g, 0, none⟩ : Addr).add (j * 1 + 0)) = some u
  rw [hadd, h.cell j (by omega), ← hu2, List.getD_eq_getElem?_getD, hp]
  rfl
/-- The piece that begins a text. -/
def pieceL : List Int → List Int
  | [] => []
  | c :: t => c :: t.takeWhile (fun x => decide (x ≠ 47))
/-- The place of the last slash, but for the first place. -/
def upL (out : List Int) : Nat → Nat
  | 0 => 0
  | i + 1 => if out.getD (i + 1) 0 = 47 then i + 1 else upL out i
def ups (out : List Int) : Nat := upL out (out.length - 1)
/-- What is left of a path: what is written, and what is still to be read. -/
def remL : Nat → List Int → List Int → List Int
  | 0, out, _ => out
  | f + 1, out, rest => if rest = [] then out else
      if pieceL rest = [47, 46, 46] then remL f (if rest.drop (pieceL rest).length = [] then out.take (ups out) ++ [47] else out.take (ups out)) (rest.drop (pieceL rest).length)
      else if pieceL rest = [47, 46] then remL f (if rest.drop (pieceL rest).length = [] then out ++ [47] else out) (rest.drop (pieceL rest).length)
      else remL f (out ++ pieceL rest) (rest.drop (pieceL rest).length)
theorem remL_nil (f : Nat) (out : List Int) : remL f out [] = out := by
  cases f with
  | zero => rfl
  | succ f => unfold remL; rw [if_pos rfl]
theorem upL_le (out : List Int) : ∀ n, upL out n ≤ n
  | 0 => Nat.le_refl _
  | n + 1 => by
    unfold upL
    split
    · exact Nat.le_refl _
    · have := upL_le out n; omega
theorem up_from (l : List Int) (hl : l.length ≤ 140737488355328) : ∀ n : Nat, n < l.length → Ev (fun k => dots_up.l0 k l (n : Int)) ((upL l n : Nat) : Int)
  | 0, h => by
    refine Ev.step (f := fun _ => some 0) (fun k => ?_) (Ev.now _)
    simp only [dots_up.l0]; rw [if_neg (by omega)]
  | n + 1, h => by
    have hw : wrap64 (((n + 1 : Nat) : Int) - 1) = (n : Int) := by unfold wrap64; omega
    have hr : rd l ((n + 1 : Nat) : Int) = l.getD (n + 1) 0 := rfl
    unfold upL
    by_cases hc : l.getD (n + 1) 0 = 47
    · rw [if_pos hc]
      refine Ev.step (f := fun _ => some ((n + 1 : Nat) : Int)) (fun k => ?_) (Ev.now _)
      simp only [dots_up.l0, hr]; rw [if_pos (by omega), if_pos (by omega), if_pos (by omega), if_pos hc]
    · rw [if_neg hc]
      refine Ev.step (fun k => ?_) (up_from l hl n (by omega))
      simp only [dots_up.l0, hr, hw]; rw [if_pos (by omega), if_pos (by omega), if_pos (by omega), if_neg hc]
theorem up_ev (l : List Int) (hl : l.length ≤ 140737488355328) : Ev (fun k => dots_up.f k l) ((ups l : Nat) : Int) := by
  unfold dots_up.f ups
  by_cases h : l.length = 0
  · rw [h]
    refine Ev.step (f := fun _ => some 0) (fun k => ?_) (Ev.now _)
    have : wrap64 (((0 : Nat) : Int) - 1) = -1 := by unfold wrap64; omega
    simp only [this]
    simp only [dots_up.l0]; rw [if_neg (by omega)]
  · have e : wrap64 ((l.length : Int) - 1) = ((l.length - 1 : Nat) : Int) := by unfold wrap64; omega
    rw [e]
    exact up_from l hl _ (by omega)
theorem tw_facts (p : Int → Bool) : ∀ (l : List Int), (l.takeWhile p).length ≤ l.length ∧ l.takeWhile p = l.take (l.takeWhile p).length ∧ (∀ j, j < (l.takeWhile p).length → p (l.getD j 0) = true) ∧ ((l.takeWhile p).length < l.length → p (l.getD (l.takeWhile p).length 0) = false)
  | [] => ⟨Nat.le_refl _, rfl, fun j hj => absurd hj (by simp), fun h => absurd h (by simp)⟩
  | c :: t => by
    have ih := tw_facts p t
    rw [List.takeWhile_cons]
    cases hc : p c with
    | false =>
      simp only [Bool.false_eq_true, if_false, List.length_nil, List.length_cons]
      exact ⟨Nat.zero_le _, rfl, fun j hj => absurd hj (by omega), fun _ => by simpa using hc⟩
    | true =>
      simp only [if_true, List.length_cons]
      refine ⟨by omega, by rw [List.take_succ_cons, ← ih.2.1], fun j hj => ?_, fun h => by simpa using ih.2.2.2 (by omega)⟩
      cases j with
      | zero => simpa using hc
      | succ j => simpa using ih.2.2.1 j (by omega)
/-- Where the piece that begins at a place ends. -/
def endL (xs : List Int) (fr : Nat) : Nat := fr + (pieceL (xs.drop fr)).length
theorem piece_facts (xs : List Int) (fr : Nat) (h : fr < xs.length) : fr < endL xs fr ∧ endL xs fr ≤ xs.length ∧ (∀ j, fr < j → j < endL xs fr → xs.getD j 0 ≠ 47) ∧ (endL xs fr < xs.length → xs.getD (endL xs fr) 0 = 47) ∧
    pieceL (xs.drop fr) = (xs.drop fr).take (endL xs fr - fr) := by
  have e : xs.drop fr = xs[fr] :: xs.drop (fr + 1) := List.drop_eq_getElem_cons h
  have ht := tw_facts (fun x => decide (x ≠ 47)) (xs.drop (fr + 1))
  unfold endL
  rw [e]
  simp only [pieceL, List.length_cons]
  generalize hq : ((xs.drop (fr + 1)).takeWhile (fun x => decide (x ≠ 47))) = q at *
  rw [List.length_drop] at ht
  refine ⟨by omega, by omega, fun j h1 h2 => ?_, fun h1 => ?_, ?_⟩
  · have := ht.2.2.1 (j - (fr + 1)) (by omega)
    rw [List.getD_eq_getElem?_getD, List.getElem?_drop, show fr + 1 + (j - (fr + 1)) = j by omega] at this
    rw [List.getD_eq_getElem?_getD]
    simpa using this
  · have := ht.2.2.2 (by omega)
    rw [List.getD_eq_getElem?_getD, List.getElem?_drop, show fr + 1 + q.length = fr + (q.length + 1) by omega] at this
    rw [List.getD_eq_getElem?_getD]
    simpa using this
  · rw [show fr + (q.length + 1) - fr = q.length + 1 by omega, List.take_succ_cons, ← ht.2.1]
theorem str_eq (p : List Int) (hp : ∀ x ∈ p, 0 ≤ x ∧ x ≤ 255) (q : List UInt8) : ((strOfNums p).toList == q) = decide (p = q.map (fun b => (b.toNat : Int))) := by
  rw [Lib.toList_data, strOfNums_data, Bool.eq_iff_iff, beq_iff_eq, decide_eq_true_iff]
  constructor
  · intro h
    rw [← h, List.map_map]
    conv => lhs; rw [← List.map_id p]
    refine List.map_congr_left fun x hx => ?_
    have := hp x hx
    simp only [Function.comp, id]
    rw [UInt8.toNat_ofNat', Nat.mod_eq_of_lt (by omega)]
    omega
  · intro h
    rw [h, List.map_map]
    conv => rhs; rw [← List.map_id q]
    refine List.map_congr_left fun x _ => ?_
    simp
theorem spl_take (xs : List Int) (o : Nat) (ys : List Int) (h : o + ys.length ≤ xs.length) : (spl xs o ys).take (o + ys.length) = xs.take o ++ ys := by
  unfold spl
  rw [List.take_append_of_le_length (by simp; omega)]
  exact List.take_of_length_le (by simp; omega)
theorem spl_drop (xs : List Int) (o : Nat) (ys : List Int) (k : Nat) (h : o + ys.length ≤ k) (h2 : k ≤ xs.length) : (spl xs o ys).drop k = xs.drop k := by
  unfold spl
  have hl : (xs.take o ++ ys).length = o + ys.length := by simp; omega
  rw [List.drop_append, List.drop_eq_nil_of_le (by omega), List.nil_append, List.drop_drop, hl]
  congr 1; omega
theorem bytes_bd (s : ByteArray) : ∀ x ∈ bytesOf s, 0 ≤ x ∧ x ≤ 255 := by
  intro x hx
  unfold bytesOf at hx
  obtain ⟨b, _, rfl⟩ := List.mem_map.1 hx
  have := b.toNat_lt
  omega
theorem take_set_end (xs : List Int) (o : Nat) (h : o < xs.length) : (xs.set o 47).take (o + 1) = xs.take o ++ [47] := by
  rw [List.take_set, List.take_succ_eq_append_getElem h, List.set_append_right _ _ (by simp; omega)]
  rw [List.length_take, Nat.min_eq_left (by omega), Nat.sub_self]
  rfl
theorem set_bytes (xs : List Int) (o : Nat) (h : ∀ x ∈ xs, 0 ≤ x ∧ x ≤ 255) : ∀ x ∈ xs.set o 47, 0 ≤ x ∧ x ≤ 255 := by
  intro x hx
  rcases List.mem_or_eq_of_mem_set hx with hx | rfl
  · exact h x hx
  · omega
theorem spl_bytes (xs : List Int) (o : Nat) (ys : List Int) (h : ∀ x ∈ xs, 0 ≤ x ∧ x ≤ 255) (h2 : ∀ x ∈ ys, 0 ≤ x ∧ x ≤ 255) : ∀ x ∈ spl xs o ys, 0 ≤ x ∧ x ≤ 255 := by
  intro x hx
  unfold spl at hx
  rcases List.mem_append.1 hx with hx | hx
  · rcases List.mem_append.1 hx with hx | hx
    · exact h x (List.mem_of_mem_take hx)
    · exact h2 x hx
  · exact h x (List.mem_of_mem_drop hx)

theorem u8_one : (Tryd.prog.info? 5).map (·.size) = some 1 := by kernel_rfl
set_option maxHeartbeats 4000000 in
theorem remove_any (s q : ByteArray) (kf : Nat) (hf : dots_front.f kf s = some q) (hq : q.size ≤ 140737488355328) (w : World) :
    Calls Tryd.prog 5 #[.string s] w fun e w' => e = .returned (.string (strOfNums (remL (q.size + 1) [] (bytesOf q)))) ∧ Below w.heap.size w w' := by
  obtain ⟨R, hR⟩ : ∃ R, R = remL (q.size + 1) [] (bytesOf q) := ⟨_, rfl⟩
  rw [← hR]
  have HR := Aside0.mk hR.symm
  have HF := Aside0.mk hf
  clear hR hf
  have kb := fun W => print_bytes (P := Tryd.prog) 9 26 5 Tryd.underlying9 Tryd.underlying26 Tryd.underlying5 q W
  go_enter Tryd.func5, Tryd.ntmps5
  go_wp2_with (first | (go_at_call 10; refine (dots_front.calls kf s q _ HF.out).mono ?_; rintro e w1 ⟨rfl, hd⟩; have HD := Aside0.mk hd.below; clear hd))
  have HM := Aside0.mk (MRow.made w1 5 q)
  have HB := Aside0.mk (bytes_below HD.out HD.out.size 5 q)
  have HN := Aside0.mk (bytesOf_length q)
  have HC := Aside0.mk (grownCap_ge w1 q.size 0 5)
  have HG := Aside0.mk HD.out.size
  have HBY := Aside0.mk (bytes_bd q)
  obtain ⟨g, hg⟩ : ∃ g, g = w1.heap.size := ⟨_, rfl⟩
  obtain ⟨c, hc⟩ : ∃ c, c = grownCap w1 q.size 0 5 := ⟨_, rfl⟩
  obtain ⟨N, hN⟩ : ∃ N, N = q.size := ⟨_, rfl⟩
  obtain ⟨X, hX⟩ : ∃ X, X = bytesOf q := ⟨_, rfl⟩
  rw [← hX, ← hN] at HR
  rw [← hg, ← hX] at HM
  rw [← hX, ← hN] at HN
  rw [← hN] at hq hc
  rw [← hN, ← hc] at HC
  rw [← hg] at HG
  rw [← hX] at HBY
  rw [← hg, ← hN, ← hc]
  have hq1 := hq
  have HQ := Aside0.mk hq
  clear kb hg hc hN hX hq hq1 HF
  go_loopg [4, 5] (N + 1) (fun kq v4 v5 wr => ∃ (tt fr : Nat), v4 = .int .i64 (tt : Int) ∧ v5 = .int .i64 (fr : Int) ∧ Aside0 (∃ xs, MRow wr 5 g xs ∧ xs.length = N ∧ (∀ x ∈ xs, 0 ≤ x ∧ x ≤ 255) ∧ tt ≤ fr ∧ fr ≤ N ∧ N < kq + fr ∧ Below w.heap.size w wr ∧ remL kq (xs.take tt) (xs.drop fr) = R))
  case atStart => exact ⟨0, 0, rfl, rfl, ⟨_, HM.out, HN.out, HBY.out, Nat.le_refl _, Nat.zero_le _, by omega, HB.out, HR.out⟩⟩
  case round =>
    obtain ⟨tt, fr, rfl, rfl, HI⟩ := hrel
    obtain ⟨xs, x1, x2, x3, x4, x5, x6, x7, x8⟩ := HI.out
    clear HI HM HB HR HN HBY
    cases gk with
    | zero => omega
    | succ gq =>
      by_cases cf : fr < N
      · have c1 : decide ((fr : Int) < (N : Int)) = true := decide_eq_true (by omega)
        have c1b : decide (fr < N) = true := decide_eq_true cf
        have pf := piece_facts xs fr (by omega)
        rw [x2] at pf
        have hne : xs.drop fr ≠ [] := by intro e; have := congrArg List.length e; rw [List.length_drop, x2] at this; simp at this; omega
        unfold remL at x8
        rw [if_neg hne] at x8
        have hpl : (pieceL (xs.drop fr)).length = endL xs fr - fr := by unfold endL; omega
        have hdr : (xs.drop fr).drop (pieceL (xs.drop fr)).length = xs.drop (endL xs fr) := by rw [List.drop_drop]; rfl
        rw [hdr] at x8
        obtain ⟨E, hE⟩ : ∃ E, E = endL xs fr := ⟨_, rfl⟩
        obtain ⟨p, hp⟩ : ∃ p, p = pieceL (xs.drop fr) := ⟨_, rfl⟩
        rw [← hE] at pf hpl x8
        rw [← hp] at x8 pf hpl
        have hcv := fun cc => MRow.part (P := Tryd.prog) (o := fr) (n := E - fr) (c := cc) Tryd.underlying26 Tryd.underlying5 Tryd.underlying9 x1 (by omega)
        rw [← pf.2.2.2.2] at hcv
        have hpb : ∀ x ∈ p, 0 ≤ x ∧ x ≤ 255 := by
          intro x hx; rw [pf.2.2.2.2] at hx; exact x3 x (List.mem_of_mem_drop (List.mem_of_mem_take hx))
        have s1 := str_eq p hpb [47, 46, 46]
        have s2 := str_eq p hpb [47, 46]
        simp only [List.map_cons, List.map_nil, show ((47 : UInt8).toNat : Int) = 47 from rfl, show ((46 : UInt8).toNat : Int) = 46 from rfl] at s1 s2
        obtain ⟨S, hS⟩ : ∃ S, S = strOfNums p := ⟨_, rfl⟩
        rw [← hS] at hcv s1 s2
        have XX := Aside0.mk (And.intro x1 (And.intro x2 (And.intro x3 (And.intro x4 (And.intro x5 (And.intro x6 (And.intro x7 x8)))))))
        have PF := Aside0.mk pf
        have HP := Aside0.mk (And.intro hpl (And.intro hE (And.intro hp hS)))
        have CF := Aside0.mk cf
        clear x1 x2 x3 x4 x5 x6 x7 x8 pf hpl hE hp hS cf hne hdr hpb
        have S12 := Aside0.mk (And.intro s1 s2)
        clear s1 s2
        have hfc : ((fr : Int) < (c : Int)) = True := eq_true (by have := HC.out; have := CF.out; omega)
        have hfi : wrap64 ((fr : Int) + 1) = ((fr + 1 : Nat) : Int) := by have := CF.out; have := HQ.out; unfold wrap64; omega
        have hE2 := HP.out.2.1
        go_wp2
        go_loopg [6] (E - fr) (fun kq v6 wx => ∃ (en : Nat), v6 = .int .i64 (en : Int) ∧ Aside0 (fr < en ∧ en ≤ E ∧ kq + en = E + 1 ∧ wx = wr))
        case atStart =>
          have h1 := PF.out.1
          exact ⟨fr + 1, by rw [hfi], ⟨by omega, by omega, by omega, rfl⟩⟩
        case round =>
          obtain ⟨en, rfl, HE⟩ := hrel
          obtain ⟨e1, e2, e3, rfl⟩ := HE.out
          clear HE hE2
          cases gk with
          | zero => omega
          | succ g2 =>
          by_cases ce : en < E
          · have c2 : decide ((en : Int) < (N : Int)) = true := decide_eq_true (by have := PF.out.2.1; omega)
            have c2b : decide (en < N) = true := decide_eq_true (by have := PF.out.2.1; omega)
            have hne := PF.out.2.2.1 en e1 ce
            have hx := XX.out.1.cell en (by have := XX.out.2.1; have := PF.out.2.1; omega)
            obtain ⟨y, hy⟩ : ∃ y, y = xs.getD en 0 := ⟨_, rfl⟩
            rw [← hy] at hx hne
            have hne1 : (y != 47) = true := bne_iff_ne.2 hne
            have HE := Aside0.mk (And.intro e1 (And.intro e2 (And.intro e3 ce)))
            have p1 : (0 ≤ (en : Int)) = True := eq_true (by omega)
            have p2 : ((en : Int) < (N : Int)) = True := eq_true (by have := PF.out.2.1; omega)
            clear hy hne e1 e2 e3 ce
            go_wp2
            go_roundg g2
            case measure => omega
            case rel =>
              obtain ⟨h1, h2, h3, h4⟩ := HE.out
              have := HQ.out
              have := PF.out.2.1
              exact ⟨en + 1, by rw [show wrap64 ((en : Int) + 1) = ((en + 1 : Nat) : Int) by unfold wrap64; omega], ⟨by omega, by omega, by omega, rfl⟩⟩
          · obtain rfl : en = E := by omega
            clear ce e1 e2 e3
            by_cases cE : en < N
            · have c2 : decide ((en : Int) < (N : Int)) = true := decide_eq_true (by omega)
              have c2b : decide (en < N) = true := decide_eq_true cE
              have hne := PF.out.2.2.2.1 cE
              have hx := XX.out.1.cell en (by have := XX.out.2.1; omega)
              rw [hne] at hx
              have p1 : (0 ≤ (en : Int)) = True := eq_true (by omega)
              have p2 : ((en : Int) < (N : Int)) = True := eq_true (by omega)
              have c3 : ((en : Int) == (N : Int)) = false := beq_eq_false_iff_ne.2 (by omega)
              have c3b : decide (en = N) = false := decide_eq_false (by omega)
              have CE := Aside0.mk cE
              clear hne cE
              have q1 : ((fr : Int) ≤ (en : Int)) = True := eq_true (by have := PF.out.1; omega)
              have q2 : ((en : Int) ≤ (c : Int)) = True := eq_true (by have := PF.out.2.1; have := HC.out; omega)
              have q3 : (0 ≤ (fr : Int)) = True := eq_true (by omega)
              have r1 : (c = fr) = False := eq_false (by have := HC.out; have := CF.out; omega)
              have r2 : (c = tt) = False := eq_false (by have := XX.out.2.2.2.1; have := HC.out; have := CF.out; omega)
              have r3 : (tt ≤ N) = True := eq_true (by have := XX.out.2.2.2.1; have := CF.out; omega)
              have r4 : (tt ≤ c) = True := eq_true (by have := XX.out.2.2.2.1; have := HC.out; have := CF.out; omega)
              have q4 : (0 ≤ (tt : Int)) = True := eq_true (by omega)
              have q5 : ((tt : Int) ≤ (c : Int)) = True := eq_true (by have := XX.out.2.2.2.1; have := CF.out; have := HC.out; omega)
              have hw1 : ∀ z : Nat, z ≤ N → wrap64 ((z : Int) + 1) = ((z + 1 : Nat) : Int) := by intro z hz; have := HQ.out; unfold wrap64; omega
              have hnil : xs.drop en ≠ [] := by
                intro e; have h1 := congrArg List.length e; rw [List.length_drop, XX.out.2.1, List.length_nil] at h1; have h2 := CE.out; omega
              by_cases cA : p = [47, 46, 46]
              · have s1 : (S.toList == ([47, 46, 46] : List UInt8)) = true := by rw [S12.out.1]; simp [cA]
                have s2 : (S.toList == ([47, 46] : List UInt8)) = false := by rw [S12.out.2]; simp [cA]
                have s3 : (S.toList != ([47, 46, 46] : List UInt8)) = false := by rw [bne, s1]; rfl
                have s4 : (S.toList != ([47, 46] : List UInt8)) = true := by rw [bne, s2]; rfl
                have x8 := XX.out.2.2.2.2.2.2.2
                rw [if_pos cA] at x8
                rw [if_neg hnil] at x8
                have hle : (xs.take tt).length = tt := by have := XX.out.2.1; have := XX.out.2.2.2.1; have := CF.out; rw [List.length_take]; omega
                obtain ⟨ku, hku⟩ := up_ev (xs.take tt) (by have := HQ.out; have := XX.out.2.2.2.1; have := CF.out; omega)
                obtain ⟨u, hu⟩ : ∃ u, u = ups (xs.take tt) := ⟨_, rfl⟩
                have hut : u ≤ tt := by have := upL_le (xs.take tt) ((xs.take tt).length - 1); rw [hu]; unfold ups; omega
                rw [← hu] at hku x8
                rw [List.take_take, Nat.min_eq_left hut] at x8
                have UC : ∀ W, MRow W 5 g xs → Calls Tryd.prog 11 #[.slice (some ⟨g, 0, none⟩) tt c] W fun e w' => e = .returned (.int .i64 (u : Int)) ∧ Drawn0 W w' := by
                  intro W hM
                  have h := dots_up.calls ku (some ⟨g, 0, none⟩) c (xs.take tt) _ W (by rw [hle]; exact hM.reads tt (by have := XX.out.2.1; have := XX.out.2.2.2.1; have := CF.out; omega) (by have := XX.out.2.1; have := HQ.out; omega)) (by rw [hle]; have := XX.out.2.2.2.1; have := CF.out; have := HC.out; omega) (hku ku (Nat.le_refl _))
                  rw [hle] at h
                  exact h
                have UC' := Aside0.mk UC
                have UU := Aside0.mk (And.intro hut x8)
                have hxu := fun n => (XX.out.1.drewN n).cell u (by have := XX.out.2.1; have := XX.out.2.2.2.1; have := CF.out; omega)
                have hfu := fun n => (XX.out.1.drewN n).frozen u (by have := XX.out.2.1; have := XX.out.2.2.2.1; have := CF.out; omega)
                have q6 : (0 ≤ (u : Int)) = True := eq_true (by omega)
                have q7 : ((u : Int) < (N : Int)) = True := eq_true (by have := XX.out.2.2.2.1; have := CF.out; omega)
                clear UC x8 hut hku hu hle cA hnil
                go_wp2_with (first | (go_at_call 11; refine (UC'.out _ XX.out.1).mono ?_; rintro e w5 ⟨rfl, nd, rfl⟩))
                all_goals (try (exfalso; have := HC.out; have := CF.out; omega))
                go_roundg gq
                case measure => omega
                case rel =>
                  obtain ⟨x1, x2, x3, x4, x5, x6, x7, _⟩ := XX.out
                  obtain ⟨hut, x8⟩ := UU.out
                  have h1 := PF.out.1
                  have h2 := PF.out.2.1
                  exact ⟨u, en, rfl, rfl, ⟨xs, x1.drewN nd, x2, x3, by omega, h2, by omega, pw_below_drewN x7 nd, x8⟩⟩
              by_cases cB : p = [47, 46]
              · have s1 : (S.toList == ([47, 46, 46] : List UInt8)) = false := by rw [S12.out.1]; simp [cB]
                have s2 : (S.toList == ([47, 46] : List UInt8)) = true := by rw [S12.out.2]; simp [cB]
                have s3 : (S.toList != ([47, 46, 46] : List UInt8)) = true := by rw [bne, s1]; rfl
                have s4 : (S.toList != ([47, 46] : List UInt8)) = false := by rw [bne, s2]; rfl
                have x8 := XX.out.2.2.2.2.2.2.2
                rw [if_neg cA, if_pos cB] at x8
                rw [if_neg hnil] at x8
                have UU := Aside0.mk x8
                have hxu := XX.out.1.cell tt (by have := XX.out.2.1; have := XX.out.2.2.2.1; have := CF.out; omega)
                have hfu := XX.out.1.frozen tt (by have := XX.out.2.1; have := XX.out.2.2.2.1; have := CF.out; omega)
                have q7 : ((tt : Int) < (N : Int)) = True := eq_true (by have := XX.out.2.2.2.1; have := CF.out; omega)
                clear x8 cA cB hnil
                go_wp2
                all_goals (try (exfalso; have := HC.out; have := CF.out; omega))
                go_roundg gq
                case measure => omega
                case rel =>
                  obtain ⟨x1, x2, x3, x4, x5, x6, x7, _⟩ := XX.out
                  have x8 := UU.out
                  have h1 := PF.out.1
                  have h2 := PF.out.2.1
                  exact ⟨tt, en, rfl, rfl, ⟨xs, x1, x2, x3, by omega, h2, by omega, x7, x8⟩⟩
              · have s1 : (S.toList == ([47, 46, 46] : List UInt8)) = false := by rw [S12.out.1]; simp [cA]
                have s2 : (S.toList == ([47, 46] : List UInt8)) = false := by rw [S12.out.2]; simp [cB]
                have s3 : (S.toList != ([47, 46, 46] : List UInt8)) = true := by rw [bne, s1]; rfl
                have s4 : (S.toList != ([47, 46] : List UInt8)) = true := by rw [bne, s2]; rfl
                have x8 := XX.out.2.2.2.2.2.2.2
                rw [if_neg cA, if_neg cB] at x8
                have UU := Aside0.mk x8
                have q7 : ((tt : Int) < (N : Int)) = True := eq_true (by have := XX.out.2.2.2.1; have := CF.out; omega)
                clear x8 cA cB hnil
                go_upto_region 12 with (fail)
                all_goals (try (exfalso; have := HC.out; have := CF.out; omega))
                have M1 : MRow wr.drew 5 g xs := XX.out.1
                have B1 : Below w.heap.size w wr.drew := XX.out.2.2.2.2.2.2.1.drew
                have n1 : en - fr ≤ N - tt := by have := PF.out.2.1; have := XX.out.2.2.2.1; omega
                have n2 : fr + (en - fr) ≤ xs.length := by have := PF.out.2.1; have := PF.out.1; have := XX.out.2.1; omega
                have n3 : tt + (en - fr) ≤ xs.length := by have := PF.out.2.1; have := XX.out.2.2.2.1; have := XX.out.2.1; omega
                have LAW := Aside0.mk (And.intro M1 (And.intro B1 (And.intro n1 (And.intro n2 n3))))
                clear M1 B1 n1 n2 n3
                go_region_law (refine step_copy_m (g := g) (off := tt) (so := fr) (dLen := N - tt) (dCap := c - tt) (sLen := en - fr) (sCap := c - fr) (w := wr.drew) rfl (.tmp 51) (.tmp 55) 26 26 rfl 5 Tryd.underlying26 u8_one (by simp [go_sem]) (by simp [go_sem]) xs LAW.out.1 LAW.out.2.2.1 LAW.out.2.2.2.1 LAW.out.2.2.2.2 w.heap.size w LAW.out.2.1 HG.out ?_; intro w6 HM6 HB6)
                go_wp2
                go_roundg gq
                case measure => omega
                case rel =>
                  obtain ⟨x1, x2, x3, x4, x5, x6, x7, _⟩ := XX.out
                  have x8 := UU.out
                  have h1 := PF.out.1
                  have h2 := PF.out.2.1
                  have hpe := PF.out.2.2.2.2
                  have hpl := HP.out.1
                  have hm := HM6.out
                  rw [← hpe] at hm
                  have hq := HQ.out
                  refine ⟨tt + (en - fr), en, ?_, rfl, ⟨spl xs tt p, hm, by rw [spl_length xs tt p (by omega)]; exact x2, spl_bytes xs tt p x3 ?_, by omega, h2, by omega, HB6.out, ?_⟩⟩
                  · rw [show wrap64 ((tt : Int) + ((en - fr : Nat) : Int)) = ((tt + (en - fr) : Nat) : Int) by unfold wrap64; omega]
                  · intro x hx; rw [hpe] at hx; exact x3 x (List.mem_of_mem_drop (List.mem_of_mem_take hx))
                  · rw [show tt + (en - fr) = tt + p.length by omega, spl_take xs tt p (by omega), spl_drop xs tt p en (by omega) (by omega)]; exact x8
            · have c2 : decide ((en : Int) < (N : Int)) = false := decide_eq_false (by omega)
              have c2b : decide (en < N) = false := decide_eq_false cE
              have c3 : ((en : Int) == (N : Int)) = true := beq_iff_eq.2 (by have := PF.out.2.1; omega)
              have CE := Aside0.mk cE
              clear cE
              have q1 : ((fr : Int) ≤ (en : Int)) = True := eq_true (by have := PF.out.1; omega)
              have q2 : ((en : Int) ≤ (c : Int)) = True := eq_true (by have := PF.out.2.1; have := HC.out; omega)
              have q3 : (0 ≤ (fr : Int)) = True := eq_true (by omega)
              have r1 : (c = fr) = False := eq_false (by have := HC.out; have := CF.out; omega)
              have r2 : (c = tt) = False := eq_false (by have := XX.out.2.2.2.1; have := HC.out; have := CF.out; omega)
              have r3 : (tt ≤ N) = True := eq_true (by have := XX.out.2.2.2.1; have := CF.out; omega)
              have r4 : (tt ≤ c) = True := eq_true (by have := XX.out.2.2.2.1; have := HC.out; have := CF.out; omega)
              have q4 : (0 ≤ (tt : Int)) = True := eq_true (by omega)
              have q5 : ((tt : Int) ≤ (c : Int)) = True := eq_true (by have := XX.out.2.2.2.1; have := CF.out; have := HC.out; omega)
              have hw1 : ∀ z : Nat, z ≤ N → wrap64 ((z : Int) + 1) = ((z + 1 : Nat) : Int) := by intro z hz; have := HQ.out; unfold wrap64; omega
              have hnil : xs.drop en = [] := by
                have := XX.out.2.1; have := CE.out; have := PF.out.2.1; exact List.drop_eq_nil_of_le (by omega)
              by_cases cA : p = [47, 46, 46]
              · have s1 : (S.toList == ([47, 46, 46] : List UInt8)) = true := by rw [S12.out.1]; simp [cA]
                have s2 : (S.toList == ([47, 46] : List UInt8)) = false := by rw [S12.out.2]; simp [cA]
                have s3 : (S.toList != ([47, 46, 46] : List UInt8)) = false := by rw [bne, s1]; rfl
                have s4 : (S.toList != ([47, 46] : List UInt8)) = true := by rw [bne, s2]; rfl
                have x8 := XX.out.2.2.2.2.2.2.2
                rw [if_pos cA] at x8
                rw [if_pos hnil] at x8
                have hle : (xs.take tt).length = tt := by have := XX.out.2.1; have := XX.out.2.2.2.1; have := CF.out; rw [List.length_take]; omega
                obtain ⟨ku, hku⟩ := up_ev (xs.take tt) (by have := HQ.out; have := XX.out.2.2.2.1; have := CF.out; omega)
                obtain ⟨u, hu⟩ : ∃ u, u = ups (xs.take tt) := ⟨_, rfl⟩
                have hut : u ≤ tt := by have := upL_le (xs.take tt) ((xs.take tt).length - 1); rw [hu]; unfold ups; omega
                rw [← hu] at hku x8
                rw [List.take_take, Nat.min_eq_left hut] at x8
                have UC : ∀ W, MRow W 5 g xs → Calls Tryd.prog 11 #[.slice (some ⟨g, 0, none⟩) tt c] W fun e w' => e = .returned (.int .i64 (u : Int)) ∧ Drawn0 W w' := by
                  intro W hM
                  have h := dots_up.calls ku (some ⟨g, 0, none⟩) c (xs.take tt) _ W (by rw [hle]; exact hM.reads tt (by have := XX.out.2.1; have := XX.out.2.2.2.1; have := CF.out; omega) (by have := XX.out.2.1; have := HQ.out; omega)) (by rw [hle]; have := XX.out.2.2.2.1; have := CF.out; have := HC.out; omega) (hku ku (Nat.le_refl _))
                  rw [hle] at h
                  exact h
                have UC' := Aside0.mk UC
                have UU := Aside0.mk (And.intro hut x8)
                have hxu := fun n => (XX.out.1.drewN n).cell u (by have := XX.out.2.1; have := XX.out.2.2.2.1; have := CF.out; omega)
                have hfu := fun n => (XX.out.1.drewN n).frozen u (by have := XX.out.2.1; have := XX.out.2.2.2.1; have := CF.out; omega)
                have q6 : (0 ≤ (u : Int)) = True := eq_true (by omega)
                have q7 : ((u : Int) < (N : Int)) = True := eq_true (by have := XX.out.2.2.2.1; have := CF.out; omega)
                clear UC x8 hut hku hu hle cA hnil
                go_wp2_with (first | (go_at_call 11; refine (UC'.out _ XX.out.1).mono ?_; rintro e w5 ⟨rfl, nd, rfl⟩))
                all_goals (try (exfalso; have := HC.out; have := CF.out; omega))
                go_roundg gq
                case measure => omega
                case rel =>
                  obtain ⟨x1, x2, x3, x4, x5, x6, x7, _⟩ := XX.out
                  obtain ⟨hut, x8⟩ := UU.out
                  have h1 := PF.out.1
                  have h2 := PF.out.2.1
                  refine ⟨u + 1, en, ?_, rfl, ⟨xs.set u 47, (x1.drewN nd).set_ u 47, by rw [List.length_set]; exact x2, set_bytes xs u x3, by omega, h2, by omega, below_set (pw_below_drewN x7 nd) HG.out, ?_⟩⟩
                  · rw [hw1 u (by omega)]
                  · rw [take_set_end xs u (by omega), List.drop_set_of_lt (by omega)]; exact x8
              by_cases cB : p = [47, 46]
              · have s1 : (S.toList == ([47, 46, 46] : List UInt8)) = false := by rw [S12.out.1]; simp [cB]
                have s2 : (S.toList == ([47, 46] : List UInt8)) = true := by rw [S12.out.2]; simp [cB]
                have s3 : (S.toList != ([47, 46, 46] : List UInt8)) = true := by rw [bne, s1]; rfl
                have s4 : (S.toList != ([47, 46] : List UInt8)) = false := by rw [bne, s2]; rfl
                have x8 := XX.out.2.2.2.2.2.2.2
                rw [if_neg cA, if_pos cB] at x8
                rw [if_pos hnil] at x8
                have UU := Aside0.mk x8
                have hxu := XX.out.1.cell tt (by have := XX.out.2.1; have := XX.out.2.2.2.1; have := CF.out; omega)
                have hfu := XX.out.1.frozen tt (by have := XX.out.2.1; have := XX.out.2.2.2.1; have := CF.out; omega)
                have q7 : ((tt : Int) < (N : Int)) = True := eq_true (by have := XX.out.2.2.2.1; have := CF.out; omega)
                clear x8 cA cB hnil
                go_wp2
                all_goals (try (exfalso; have := HC.out; have := CF.out; omega))
                go_roundg gq
                case measure => omega
                case rel =>
                  obtain ⟨x1, x2, x3, x4, x5, x6, x7, _⟩ := XX.out
                  have x8 := UU.out
                  have h1 := PF.out.1
                  have h2 := PF.out.2.1
                  refine ⟨tt + 1, en, ?_, rfl, ⟨xs.set tt 47, x1.set_ tt 47, by rw [List.length_set]; exact x2, set_bytes xs tt x3, by omega, h2, by omega, below_set x7 HG.out, ?_⟩⟩
                  · rw [hw1 tt (by omega)]
                  · rw [take_set_end xs tt (by omega), List.drop_set_of_lt (by omega)]; exact x8
              · have s1 : (S.toList == ([47, 46, 46] : List UInt8)) = false := by rw [S12.out.1]; simp [cA]
                have s2 : (S.toList == ([47, 46] : List UInt8)) = false := by rw [S12.out.2]; simp [cB]
                have s3 : (S.toList != ([47, 46, 46] : List UInt8)) = true := by rw [bne, s1]; rfl
                have s4 : (S.toList != ([47, 46] : List UInt8)) = true := by rw [bne, s2]; rfl
                have x8 := XX.out.2.2.2.2.2.2.2
                rw [if_neg cA, if_neg cB] at x8
                have UU := Aside0.mk x8
                have q7 : ((tt : Int) < (N : Int)) = True := eq_true (by have := XX.out.2.2.2.1; have := CF.out; omega)
                clear x8 cA cB hnil
                go_upto_region 12 with (fail)
                all_goals (try (exfalso; have := HC.out; have := CF.out; omega))
                have M1 : MRow wr.drew 5 g xs := XX.out.1
                have B1 : Below w.heap.size w wr.drew := XX.out.2.2.2.2.2.2.1.drew
                have n1 : en - fr ≤ N - tt := by have := PF.out.2.1; have := XX.out.2.2.2.1; omega
                have n2 : fr + (en - fr) ≤ xs.length := by have := PF.out.2.1; have := PF.out.1; have := XX.out.2.1; omega
                have n3 : tt + (en - fr) ≤ xs.length := by have := PF.out.2.1; have := XX.out.2.2.2.1; have := XX.out.2.1; omega
                have LAW := Aside0.mk (And.intro M1 (And.intro B1 (And.intro n1 (And.intro n2 n3))))
                clear M1 B1 n1 n2 n3
                go_region_law (refine step_copy_m (g := g) (off := tt) (so := fr) (dLen := N - tt) (dCap := c - tt) (sLen := en - fr) (sCap := c - fr) (w := wr.drew) rfl (.tmp 51) (.tmp 55) 26 26 rfl 5 Tryd.underlying26 u8_one (by simp [go_sem]) (by simp [go_sem]) xs LAW.out.1 LAW.out.2.2.1 LAW.out.2.2.2.1 LAW.out.2.2.2.2 w.heap.size w LAW.out.2.1 HG.out ?_; intro w6 HM6 HB6)
                go_wp2
                go_roundg gq
                case measure => omega
                case rel =>
                  obtain ⟨x1, x2, x3, x4, x5, x6, x7, _⟩ := XX.out
                  have x8 := UU.out
                  have h1 := PF.out.1
                  have h2 := PF.out.2.1
                  have hpe := PF.out.2.2.2.2
                  have hpl := HP.out.1
                  have hm := HM6.out
                  rw [← hpe] at hm
                  have hq := HQ.out
                  refine ⟨tt + (en - fr), en, ?_, rfl, ⟨spl xs tt p, hm, by rw [spl_length xs tt p (by omega)]; exact x2, spl_bytes xs tt p x3 ?_, by omega, h2, by omega, HB6.out, ?_⟩⟩
                  · rw [show wrap64 ((tt : Int) + ((en - fr : Nat) : Int)) = ((tt + (en - fr) : Nat) : Int) by unfold wrap64; omega]
                  · intro x hx; rw [hpe] at hx; exact x3 x (List.mem_of_mem_drop (List.mem_of_mem_take hx))
                  · rw [show tt + (en - fr) = tt + p.length by omega, spl_take xs tt p (by omega), spl_drop xs tt p en (by omega) (by omega)]; exact x8
      · have e : xs.drop fr = [] := List.drop_eq_nil_of_le (by omega)
        rw [e, remL_nil] at x8
        have c1 : decide ((fr : Int) < (N : Int)) = false := decide_eq_false (by omega)
        have c1b : decide (fr < N) = false := decide_eq_false cf
        have hcv := fun cc => MRow.part (P := Tryd.prog) (o := 0) (n := tt) (c := cc) Tryd.underlying26 Tryd.underlying5 Tryd.underlying9 x1 (by omega)
        rw [List.drop_zero, x8] at hcv
        have HX := Aside0.mk x7
        have p1 : (0 ≤ (tt : Int)) = True := eq_true (by omega)
        have p2 : ((tt : Int) ≤ (c : Int)) = True := eq_true (by have := HC.out; omega)
        have p3 : (tt ≤ c) = True := eq_true (by have := HC.out; omega)
        clear x1 x2 x3 x4 x5 x6 x7 x8 e cf
        go_wp2
        go_ret
        exact ⟨rfl, HX.out⟩

/-! ### dots_Remove: function 5 (own text) -/
def dots_Remove.f (k : Nat) (a0 : ByteArray) : Option ByteArray := (dots_front.f k a0).bind fun q => (if q.size ≤ 140737488355328 then some (strOfNums (remL (q.size + 1) [] (bytesOf q))) else none)
theorem dots_Remove.mono : ∀ a0 k, LeO (dots_Remove.f k a0) (dots_Remove.f (k + 1) a0) := by
  intro a0 k
  unfold dots_Remove.f
  refine LeO.bind (dots_front.mono _ _) (fun _ => LeO.refl _)
theorem dots_Remove.calls (k : Nat) (a0 : ByteArray) (r : ByteArray) (w : World) (h : dots_Remove.f k a0 = some r) :
    Calls Tryd.prog 5 #[.string a0] w fun e w' => e = .returned (.string r) ∧ Below w.heap.size w w' := by
  unfold dots_Remove.f at h
  obtain ⟨q, hq, h⟩ := Option.bind_eq_some_iff.mp h
  by_cases hs : q.size ≤ 140737488355328
  · rw [if_pos hs] at h
    obtain rfl := Option.some.inj h
    exact remove_any a0 q k hq hs w
  · rw [if_neg hs] at h
    cases h

/-! ### monikerlaw23_awake: function 4 -/
def monikerlaw23_awake.f (k : Nat)  : Option (Bool) := (dots_Remove.f k (⟨#[47, 97, 47, 98, 47, 46, 46, 47, 99]⟩ : ByteArray)).bind fun t109 => (if t109.toList = ([47, 97, 47, 99] : List UInt8) then ((dots_Remove.f k (⟨#[98, 47, 46, 46, 47, 99]⟩ : ByteArray)).bind fun t110 => (if t110.toList = ([47, 99] : List UInt8) then ((dots_Remove.f k (⟨#[47, 46, 46]⟩ : ByteArray)).bind fun t111 => (if t111.toList = ([47] : List UInt8) then ((dots_Remove.f k (⟨#[46, 46, 47, 97]⟩ : ByteArray)).bind fun t112 => (if t112.toList = ([97] : List UInt8) then ((dots_Remove.f k (⟨#[47, 46, 47, 47, 98]⟩ : ByteArray)).bind fun t113 => (some (t113.toList == ([47, 47, 98] : List UInt8)))) else (some false))) else (some false))) else (some false))) else (some false))
theorem monikerlaw23_awake.mono : ∀ k, LeO (monikerlaw23_awake.f k ) (monikerlaw23_awake.f (k + 1) ) := by
  intro  k
  unfold monikerlaw23_awake.f
  repeat' first
      | (with_reducible exact dots_Remove.mono _ _)
      | (with_reducible exact LeO.refl _)
      | (with_reducible exact LeO.none _)
      | (with_reducible refine LeO.ite ?_ ?_)
      | (with_reducible refine LeO.bind ?_ (fun _ => ?_))
      | exact dots_Remove.mono _ _
      | exact LeO.none _
      | refine LeO.ite ?_ ?_
      | refine LeO.bind ?_ (fun _ => ?_)
set_option maxHeartbeats 8000000 in
set_option maxRecDepth 100000 in
theorem monikerlaw23_awake.calls (k : Nat)  (r : Bool) (w : World) (h : monikerlaw23_awake.f k  = some r) :
    Calls Tryd.prog 4 #[] w fun e w' => e = .returned (.bool r) ∧ Below w.heap.size w w' := by
  have HB := Aside0.mk (Below.refl w.heap.size w)
  have H : ((dots_Remove.f k (⟨#[47, 97, 47, 98, 47, 46, 46, 47, 99]⟩ : ByteArray)).bind fun t109 => (if t109.toList = ([47, 97, 47, 99] : List UInt8) then ((dots_Remove.f k (⟨#[98, 47, 46, 46, 47, 99]⟩ : ByteArray)).bind fun t110 => (if t110.toList = ([47, 99] : List UInt8) then ((dots_Remove.f k (⟨#[47, 46, 46]⟩ : ByteArray)).bind fun t111 => (if t111.toList = ([47] : List UInt8) then ((dots_Remove.f k (⟨#[46, 46, 47, 97]⟩ : ByteArray)).bind fun t112 => (if t112.toList = ([97] : List UInt8) then ((dots_Remove.f k (⟨#[47, 46, 47, 47, 98]⟩ : ByteArray)).bind fun t113 => (some (t113.toList == ([47, 47, 98] : List UInt8)))) else (some false))) else (some false))) else (some false))) else (some false))) = some r := h
  clear h
  replace H := Option.bind_eq_some_iff.mp H
  obtain ⟨t109, A10, H⟩ := H
  replace H : (if t109.toList = ([47, 97, 47, 99] : List UInt8) then ((dots_Remove.f k (⟨#[98, 47, 46, 46, 47, 99]⟩ : ByteArray)).bind fun t110 => (if t110.toList = ([47, 99] : List UInt8) then ((dots_Remove.f k (⟨#[47, 46, 46]⟩ : ByteArray)).bind fun t111 => (if t111.toList = ([47] : List UInt8) then ((dots_Remove.f k (⟨#[46, 46, 47, 97]⟩ : ByteArray)).bind fun t112 => (if t112.toList = ([97] : List UInt8) then ((dots_Remove.f k (⟨#[47, 46, 47, 47, 98]⟩ : ByteArray)).bind fun t113 => (some (t113.toList == ([47, 47, 98] : List UInt8)))) else (some false))) else (some false))) else (some false))) else (some false)) = some r := H
  have A1 := Aside0.mk A10
  clear A10
  by_cases c2 : t109.toList = ([47, 97, 47, 99] : List UInt8)
  · rw [if_pos c2] at H
    have c2b0 : (t109.toList == ([47, 97, 47, 99] : List UInt8)) = true := beq_iff_eq.mpr c2
    have c2b1 : (t109.toList != ([47, 97, 47, 99] : List UInt8)) = false := bne_eq_false_iff_eq.mpr c2
    clear c2
    replace H := Option.bind_eq_some_iff.mp H
    obtain ⟨t110, A30, H⟩ := H
    replace H : (if t110.toList = ([47, 99] : List UInt8) then ((dots_Remove.f k (⟨#[47, 46, 46]⟩ : ByteArray)).bind fun t111 => (if t111.toList = ([47] : List UInt8) then ((dots_Remove.f k (⟨#[46, 46, 47, 97]⟩ : ByteArray)).bind fun t112 => (if t112.toList = ([97] : List UInt8) then ((dots_Remove.f k (⟨#[47, 46, 47, 47, 98]⟩ : ByteArray)).bind fun t113 => (some (t113.toList == ([47, 47, 98] : List UInt8)))) else (some false))) else (some false))) else (some false)) = some r := H
    have A3 := Aside0.mk A30
    clear A30
    by_cases c4 : t110.toList = ([47, 99] : List UInt8)
    · rw [if_pos c4] at H
      have c4b0 : (t110.toList == ([47, 99] : List UInt8)) = true := beq_iff_eq.mpr c4
      have c4b1 : (t110.toList != ([47, 99] : List UInt8)) = false := bne_eq_false_iff_eq.mpr c4
      clear c4
      replace H := Option.bind_eq_some_iff.mp H
      obtain ⟨t111, A50, H⟩ := H
      replace H : (if t111.toList = ([47] : List UInt8) then ((dots_Remove.f k (⟨#[46, 46, 47, 97]⟩ : ByteArray)).bind fun t112 => (if t112.toList = ([97] : List UInt8) then ((dots_Remove.f k (⟨#[47, 46, 47, 47, 98]⟩ : ByteArray)).bind fun t113 => (some (t113.toList == ([47, 47, 98] : List UInt8)))) else (some false))) else (some false)) = some r := H
      have A5 := Aside0.mk A50
      clear A50
      by_cases c6 : t111.toList = ([47] : List UInt8)
      · rw [if_pos c6] at H
        have c6b0 : (t111.toList == ([47] : List UInt8)) = true := beq_iff_eq.mpr c6
        have c6b1 : (t111.toList != ([47] : List UInt8)) = false := bne_eq_false_iff_eq.mpr c6
        clear c6
        replace H := Option.bind_eq_some_iff.mp H
        obtain ⟨t112, A70, H⟩ := H
        replace H : (if t112.toList = ([97] : List UInt8) then ((dots_Remove.f k (⟨#[47, 46, 47, 47, 98]⟩ : ByteArray)).bind fun t113 => (some (t113.toList == ([47, 47, 98] : List UInt8)))) else (some false)) = some r := H
        have A7 := Aside0.mk A70
        clear A70
        by_cases c8 : t112.toList = ([97] : List UInt8)
        · rw [if_pos c8] at H
          have c8b0 : (t112.toList == ([97] : List UInt8)) = true := beq_iff_eq.mpr c8
          have c8b1 : (t112.toList != ([97] : List UInt8)) = false := bne_eq_false_iff_eq.mpr c8
          clear c8
          replace H := Option.bind_eq_some_iff.mp H
          obtain ⟨t113, A90, H⟩ := H
          replace H : (some (t113.toList == ([47, 47, 98] : List UInt8))) = some r := H
          have A9 := Aside0.mk A90
          clear A90
          obtain rfl := Option.some.inj H
          go_enter Tryd.func4, Tryd.ntmps4
          go_wp2_with (first | ((with_reducible refine gate_callee (f := 5) rfl ?_); refine goesL_ (some 1) rfl rfl Tryd.func5 (by kernel_rfl) rfl #[.string (⟨#[47, 97, 47, 98, 47, 46, 46, 47, 99]⟩ : ByteArray)] rfl (by (try simp only [List.map_toArray, List.map_cons, List.map_nil]); first | done | rfl | (simp only [List.length_drop, List.length_take]; rfl)) ?_; (with_reducible refine (dots_Remove.calls k (⟨#[47, 97, 47, 98, 47, 46, 46, 47, 99]⟩ : ByteArray) t109 _ A1.out).mono ?_); rintro e w10 ⟨rfl, hb⟩; refine ⟨_, rfl, ?_⟩; have n0_ := Aside0.mk (below_step (by repeat (first | (with_reducible first | exact HB.out | apply below_alloc | apply pw_below_drewN | apply below_drew1) | exact HB.out)) hb); clear HB; have HB := n0_; clear n0_; (try clear hb); (try clear hb2); (try clear hk); (try clear hi)) | (go_at_call 5; (with_reducible refine (dots_Remove.calls k (⟨#[98, 47, 46, 46, 47, 99]⟩ : ByteArray) t110 _ A3.out).mono ?_); rintro e w11 ⟨rfl, hb⟩; have n0_ := Aside0.mk (below_step (by repeat (first | (with_reducible first | exact HB.out | apply below_alloc | apply pw_below_drewN | apply below_drew1) | exact HB.out)) hb); clear HB; have HB := n0_; clear n0_; (try clear hb); (try clear hb2); (try clear hk); (try clear hi)) | (go_at_call 5; (with_reducible refine (dots_Remove.calls k (⟨#[47, 46, 46]⟩ : ByteArray) t111 _ A5.out).mono ?_); rintro e w12 ⟨rfl, hb⟩; have n0_ := Aside0.mk (below_step (by repeat (first | (with_reducible first | exact HB.out | apply below_alloc | apply pw_below_drewN | apply below_drew1) | exact HB.out)) hb); clear HB; have HB := n0_; clear n0_; (try clear hb); (try clear hb2); (try clear hk); (try clear hi)) | (go_at_call 5; (with_reducible refine (dots_Remove.calls k (⟨#[46, 46, 47, 97]⟩ : ByteArray) t112 _ A7.out).mono ?_); rintro e w13 ⟨rfl, hb⟩; have n0_ := Aside0.mk (below_step (by repeat (first | (with_reducible first | exact HB.out | apply below_alloc | apply pw_below_drewN | apply below_drew1) | exact HB.out)) hb); clear HB; have HB := n0_; clear n0_; (try clear hb); (try clear hb2); (try clear hk); (try clear hi)) | (go_at_call 5; (with_reducible refine (dots_Remove.calls k (⟨#[47, 46, 47, 47, 98]⟩ : ByteArray) t113 _ A9.out).mono ?_); rintro e w14 ⟨rfl, hb⟩; have n0_ := Aside0.mk (below_step (by repeat (first | (with_reducible first | exact HB.out | apply below_alloc | apply pw_below_drewN | apply below_drew1) | exact HB.out)) hb); clear HB; have HB := n0_; clear n0_; (try clear hb); (try clear hb2); (try clear hk); (try clear hi)))
          go_ret
          exact ⟨by first | rfl | (simp [errW_none, errW_some] <;> rfl) | (simp [*, errW_none, errW_some] <;> rfl), by repeat (first | (with_reducible first | exact HB.out | apply below_alloc | apply pw_below_drewN | apply below_drew1) | exact HB.out)⟩
        · rw [if_neg c8] at H
          have c8b0 : (t112.toList == ([97] : List UInt8)) = false := beq_eq_false_iff_ne.mpr c8
          have c8b1 : (t112.toList != ([97] : List UInt8)) = true := bne_iff_ne.mpr c8
          obtain rfl := Option.some.inj H
          go_enter Tryd.func4, Tryd.ntmps4
          go_wp2_with (first | ((with_reducible refine gate_callee (f := 5) rfl ?_); refine goesL_ (some 1) rfl rfl Tryd.func5 (by kernel_rfl) rfl #[.string (⟨#[47, 97, 47, 98, 47, 46, 46, 47, 99]⟩ : ByteArray)] rfl (by (try simp only [List.map_toArray, List.map_cons, List.map_nil]); first | done | rfl | (simp only [List.length_drop, List.length_take]; rfl)) ?_; (with_reducible refine (dots_Remove.calls k (⟨#[47, 97, 47, 98, 47, 46, 46, 47, 99]⟩ : ByteArray) t109 _ A1.out).mono ?_); rintro e w15 ⟨rfl, hb⟩; refine ⟨_, rfl, ?_⟩; have n0_ := Aside0.mk (below_step (by repeat (first | (with_reducible first | exact HB.out | apply below_alloc | apply pw_below_drewN | apply below_drew1) | exact HB.out)) hb); clear HB; have HB := n0_; clear n0_; (try clear hb); (try clear hb2); (try clear hk); (try clear hi)) | (go_at_call 5; (with_reducible refine (dots_Remove.calls k (⟨#[98, 47, 46, 46, 47, 99]⟩ : ByteArray) t110 _ A3.out).mono ?_); rintro e w16 ⟨rfl, hb⟩; have n0_ := Aside0.mk (below_step (by repeat (first | (with_reducible first | exact HB.out | apply below_alloc | apply pw_below_drewN | apply below_drew1) | exact HB.out)) hb); clear HB; have HB := n0_; clear n0_; (try clear hb); (try clear hb2); (try clear hk); (try clear hi)) | (go_at_call 5; (with_reducible refine (dots_Remove.calls k (⟨#[47, 46, 46]⟩ : ByteArray) t111 _ A5.out).mono ?_); rintro e w17 ⟨rfl, hb⟩; have n0_ := Aside0.mk (below_step (by repeat (first | (with_reducible first | exact HB.out | apply below_alloc | apply pw_below_drewN | apply below_drew1) | exact HB.out)) hb); clear HB; have HB := n0_; clear n0_; (try clear hb); (try clear hb2); (try clear hk); (try clear hi)) | (go_at_call 5; (with_reducible refine (dots_Remove.calls k (⟨#[46, 46, 47, 97]⟩ : ByteArray) t112 _ A7.out).mono ?_); rintro e w18 ⟨rfl, hb⟩; have n0_ := Aside0.mk (below_step (by repeat (first | (with_reducible first | exact HB.out | apply below_alloc | apply pw_below_drewN | apply below_drew1) | exact HB.out)) hb); clear HB; have HB := n0_; clear n0_; (try clear hb); (try clear hb2); (try clear hk); (try clear hi)))
          go_ret
          exact ⟨by first | rfl | (simp [errW_none, errW_some] <;> rfl) | (simp [*, errW_none, errW_some] <;> rfl), by repeat (first | (with_reducible first | exact HB.out | apply below_alloc | apply pw_below_drewN | apply below_drew1) | exact HB.out)⟩
      · rw [if_neg c6] at H
        have c6b0 : (t111.toList == ([47] : List UInt8)) = false := beq_eq_false_iff_ne.mpr c6
        have c6b1 : (t111.toList != ([47] : List UInt8)) = true := bne_iff_ne.mpr c6
        obtain rfl := Option.some.inj H
        go_enter Tryd.func4, Tryd.ntmps4
        go_wp2_with (first | ((with_reducible refine gate_callee (f := 5) rfl ?_); refine goesL_ (some 1) rfl rfl Tryd.func5 (by kernel_rfl) rfl #[.string (⟨#[47, 97, 47, 98, 47, 46, 46, 47, 99]⟩ : ByteArray)] rfl (by (try simp only [List.map_toArray, List.map_cons, List.map_nil]); first | done | rfl | (simp only [List.length_drop, List.length_take]; rfl)) ?_; (with_reducible refine (dots_Remove.calls k (⟨#[47, 97, 47, 98, 47, 46, 46, 47, 99]⟩ : ByteArray) t109 _ A1.out).mono ?_); rintro e w19 ⟨rfl, hb⟩; refine ⟨_, rfl, ?_⟩; have n0_ := Aside0.mk (below_step (by repeat (first | (with_reducible first | exact HB.out | apply below_alloc | apply pw_below_drewN | apply below_drew1) | exact HB.out)) hb); clear HB; have HB := n0_; clear n0_; (try clear hb); (try clear hb2); (try clear hk); (try clear hi)) | (go_at_call 5; (with_reducible refine (dots_Remove.calls k (⟨#[98, 47, 46, 46, 47, 99]⟩ : ByteArray) t110 _ A3.out).mono ?_); rintro e w20 ⟨rfl, hb⟩; have n0_ := Aside0.mk (below_step (by repeat (first | (with_reducible first | exact HB.out | apply below_alloc | apply pw_below_drewN | apply below_drew1) | exact HB.out)) hb); clear HB; have HB := n0_; clear n0_; (try clear hb); (try clear hb2); (try clear hk); (try clear hi)) | (go_at_call 5; (with_reducible refine (dots_Remove.calls k (⟨#[47, 46, 46]⟩ : ByteArray) t111 _ A5.out).mono ?_); rintro e w21 ⟨rfl, hb⟩; have n0_ := Aside0.mk (below_step (by repeat (first | (with_reducible first | exact HB.out | apply below_alloc | apply pw_below_drewN | apply below_drew1) | exact HB.out)) hb); clear HB; have HB := n0_; clear n0_; (try clear hb); (try clear hb2); (try clear hk); (try clear hi)))
        go_ret
        exact ⟨by first | rfl | (simp [errW_none, errW_some] <;> rfl) | (simp [*, errW_none, errW_some] <;> rfl), by repeat (first | (with_reducible first | exact HB.out | apply below_alloc | apply pw_below_drewN | apply below_drew1) | exact HB.out)⟩
    · rw [if_neg c4] at H
      have c4b0 : (t110.toList == ([47, 99] : List UInt8)) = false := beq_eq_false_iff_ne.mpr c4
      have c4b1 : (t110.toList != ([47, 99] : List UInt8)) = true := bne_iff_ne.mpr c4
      obtain rfl := Option.some.inj H
      go_enter Tryd.func4, Tryd.ntmps4
      go_wp2_with (first | ((with_reducible refine gate_callee (f := 5) rfl ?_); refine goesL_ (some 1) rfl rfl Tryd.func5 (by kernel_rfl) rfl #[.string (⟨#[47, 97, 47, 98, 47, 46, 46, 47, 99]⟩ : ByteArray)] rfl (by (try simp only [List.map_toArray, List.map_cons, List.map_nil]); first | done | rfl | (simp only [List.length_drop, List.length_take]; rfl)) ?_; (with_reducible refine (dots_Remove.calls k (⟨#[47, 97, 47, 98, 47, 46, 46, 47, 99]⟩ : ByteArray) t109 _ A1.out).mono ?_); rintro e w22 ⟨rfl, hb⟩; refine ⟨_, rfl, ?_⟩; have n0_ := Aside0.mk (below_step (by repeat (first | (with_reducible first | exact HB.out | apply below_alloc | apply pw_below_drewN | apply below_drew1) | exact HB.out)) hb); clear HB; have HB := n0_; clear n0_; (try clear hb); (try clear hb2); (try clear hk); (try clear hi)) | (go_at_call 5; (with_reducible refine (dots_Remove.calls k (⟨#[98, 47, 46, 46, 47, 99]⟩ : ByteArray) t110 _ A3.out).mono ?_); rintro e w23 ⟨rfl, hb⟩; have n0_ := Aside0.mk (below_step (by repeat (first | (with_reducible first | exact HB.out | apply below_alloc | apply pw_below_drewN | apply below_drew1) | exact HB.out)) hb); clear HB; have HB := n0_; clear n0_; (try clear hb); (try clear hb2); (try clear hk); (try clear hi)))
      go_ret
      exact ⟨by first | rfl | (simp [errW_none, errW_some] <;> rfl) | (simp [*, errW_none, errW_some] <;> rfl), by repeat (first | (with_reducible first | exact HB.out | apply below_alloc | apply pw_below_drewN | apply below_drew1) | exact HB.out)⟩
  · rw [if_neg c2] at H
    have c2b0 : (t109.toList == ([47, 97, 47, 99] : List UInt8)) = false := beq_eq_false_iff_ne.mpr c2
    have c2b1 : (t109.toList != ([47, 97, 47, 99] : List UInt8)) = true := bne_iff_ne.mpr c2
    obtain rfl := Option.some.inj H
    go_enter Tryd.func4, Tryd.ntmps4
    go_wp2_with (first | ((with_reducible refine gate_callee (f := 5) rfl ?_); refine goesL_ (some 1) rfl rfl Tryd.func5 (by kernel_rfl) rfl #[.string (⟨#[47, 97, 47, 98, 47, 46, 46, 47, 99]⟩ : ByteArray)] rfl (by (try simp only [List.map_toArray, List.map_cons, List.map_nil]); first | done | rfl | (simp only [List.length_drop, List.length_take]; rfl)) ?_; (with_reducible refine (dots_Remove.calls k (⟨#[47, 97, 47, 98, 47, 46, 46, 47, 99]⟩ : ByteArray) t109 _ A1.out).mono ?_); rintro e w24 ⟨rfl, hb⟩; refine ⟨_, rfl, ?_⟩; have n0_ := Aside0.mk (below_step (by repeat (first | (with_reducible first | exact HB.out | apply below_alloc | apply pw_below_drewN | apply below_drew1) | exact HB.out)) hb); clear HB; have HB := n0_; clear n0_; (try clear hb); (try clear hb2); (try clear hk); (try clear hi)))
    go_ret
    exact ⟨by first | rfl | (simp [errW_none, errW_some] <;> rfl) | (simp [*, errW_none, errW_some] <;> rfl), by repeat (first | (with_reducible first | exact HB.out | apply below_alloc | apply pw_below_drewN | apply below_drew1) | exact HB.out)⟩

/-! ### monikerref23_begins: function 12 -/
def monikerref23_begins.f (a0 : ByteArray) (a1 : ByteArray) : Option (Bool) := if (a0.size : Int) ≥ (a1.size : Int) then (if 0 ≤ (a1.size : Int) then (if (a1.size : Int) ≤ (a0.size : Int) then (some ((a0.extract 0 ((a1.size : Int) : Int).toNat).toList == a1.toList)) else (none)) else (none)) else (some false)
set_option maxHeartbeats 8000000 in
set_option maxRecDepth 100000 in
theorem monikerref23_begins.calls (a0 : ByteArray) (a1 : ByteArray) (r : Bool) (w : World) (h : monikerref23_begins.f a0 a1 = some r) :
    Calls Tryd.prog 12 #[.string a0, .string a1] w fun e w' => e = .returned (.bool r) ∧ Drawn0 w w' := by
  have H : (if (a0.size : Int) ≥ (a1.size : Int) then (if 0 ≤ (a1.size : Int) then (if (a1.size : Int) ≤ (a0.size : Int) then (some ((a0.extract 0 ((a1.size : Int) : Int).toNat).toList == a1.toList)) else (none)) else (none)) else (some false)) = some r := h
  clear h
  by_cases c3 : (a0.size : Int) ≥ (a1.size : Int)
  · rw [if_pos c3] at H
    have c3b0 : decide ((a1.size : Int) ≤ (a0.size : Int)) = true := decide_eq_true c3
    have c3b1 : decide (a1.size ≤ a0.size) = true := decide_eq_true (Int.ofNat_le.mp c3)
    clear c3
    by_cases c4 : 0 ≤ (a1.size : Int)
    · rw [if_pos c4] at H
      have c4b0 := eq_true c4
      have c4b1 : decide (0 ≤ (a1.size : Int)) = true := decide_eq_true c4
      clear c4
      by_cases c5 : (a1.size : Int) ≤ (a0.size : Int)
      · rw [if_pos c5] at H
        have c5b0 := eq_true c5
        have c5b1 : decide ((a1.size : Int) ≤ (a0.size : Int)) = true := decide_eq_true c5
        clear c5
        obtain rfl := Option.some.inj H
        go_enter Tryd.func12, Tryd.ntmps12
        go_wp2
        go_ret
        exact ⟨by first | rfl | (simp; done) | (simp [*]; done), by repeat (first | exact Drawn0.refl _ | apply Drawn0.step)⟩
      · rw [if_neg c5] at H
        exact absurd H (by simp)
    · rw [if_neg c4] at H
      exact absurd H (by simp)
  · rw [if_neg c3] at H
    have c3b0 : decide ((a1.size : Int) ≤ (a0.size : Int)) = false := decide_eq_false c3
    have c3b1 : decide (a1.size ≤ a0.size) = false := decide_eq_false (fun h => c3 (Int.ofNat_le.mpr h))
    clear c3
    obtain rfl := Option.some.inj H
    go_enter Tryd.func12, Tryd.ntmps12
    go_wp2
    go_ret
    exact ⟨by first | rfl | (simp; done) | (simp [*]; done), by repeat (first | exact Drawn0.refl _ | apply Drawn0.step)⟩

/-! ### monikerref23_cut: function 13 -/
def monikerref23_cut.l0 : Nat → ByteArray → Int → Int → Option (ByteArray)
  | 0, _, _, _ => none
  | k + 1, x0, x3, x4 => if x4 < (x0.size : Int) then (if 0 ≤ x4 then (if (bt x0 x4) = 47 then (monikerref23_cut.l0 k x0 x4 (wrap64 (x4 + 1))) else (monikerref23_cut.l0 k x0 x3 (wrap64 (x4 + 1)))) else (none)) else (if 0 ≤ x3 then (if x3 ≤ (x0.size : Int) then (some (x0.extract 0 (x3 : Int).toNat)) else (none)) else (none))
def monikerref23_cut.f (k : Nat) (a0 : ByteArray) : Option (ByteArray) := monikerref23_cut.l0 k a0 0 0
theorem monikerref23_cut.mono_l : ∀ k, (∀ y0 y1 y2, LeO (monikerref23_cut.l0 k y0 y1 y2) (monikerref23_cut.l0 (k + 1) y0 y1 y2))
  | 0 => fun _ _ _ r h => by simp [monikerref23_cut.l0] at h
  | k + 1 => by
    have ih0 := monikerref23_cut.mono_l k
    · intro y0 y1 y2
      unfold monikerref23_cut.l0
      repeat' first
      | (with_reducible exact ih0 _ _ _)
      | (with_reducible exact LeO.refl _)
      | (with_reducible exact LeO.none _)
      | (with_reducible refine LeO.ite ?_ ?_)
      | (with_reducible refine LeO.bind ?_ (fun _ => ?_))
      | exact ih0 _ _ _
      | exact LeO.none _
      | refine LeO.ite ?_ ?_
      | refine LeO.bind ?_ (fun _ => ?_)
theorem monikerref23_cut.mono : ∀ a0 k, LeO (monikerref23_cut.f k a0) (monikerref23_cut.f (k + 1) a0) := by
  intro a0 k
  have ih0 := monikerref23_cut.mono_l k
  unfold monikerref23_cut.f
  repeat' first
      | (with_reducible exact ih0 _ _ _)
      | (with_reducible exact LeO.refl _)
      | (with_reducible exact LeO.none _)
      | (with_reducible refine LeO.ite ?_ ?_)
      | (with_reducible refine LeO.bind ?_ (fun _ => ?_))
      | exact ih0 _ _ _
      | exact LeO.none _
      | refine LeO.ite ?_ ?_
      | refine LeO.bind ?_ (fun _ => ?_)
set_option maxHeartbeats 8000000 in
set_option maxRecDepth 100000 in
theorem monikerref23_cut.calls (k : Nat) (a0 : ByteArray) (r : ByteArray) (w : World) (h : monikerref23_cut.f k a0 = some r) :
    Calls Tryd.prog 13 #[.string a0] w fun e w' => e = .returned (.string r) ∧ Drawn0 w w' := by
  have H : (monikerref23_cut.l0 k a0 0 0) = some r := h
  clear h
  have H' := Aside0.mk H
  clear H
  go_enter Tryd.func13, Tryd.ntmps13
  go_wp2
  go_loopg [3, 4] k (fun kq v3 v4 w' => ∃ (x3_1 : Int) (x4_1 : Int), v3 = .int .i64 x3_1 ∧ v4 = .int .i64 x4_1 ∧ Aside0 (monikerref23_cut.l0 kq a0 x3_1 x4_1 = some r) ∧ Aside0 (kq ≤ k) ∧ Drawn0 w w')
  case atStart => exact ⟨(0), (0), (by first | rfl | (simp; done) | (simp [*]; done)), (by first | rfl | (simp; done) | (simp [*]; done)), H', ⟨Nat.le_refl _⟩, by repeat (first | exact Drawn0.refl _ | apply Drawn0.step)⟩
  case round =>
    clear H'
    try clear c1
    obtain ⟨x3_1, x4_1, rfl, rfl, HA, HK1, ⟨m1, rfl⟩⟩ := hrel
    cases gk with
    | zero => exact absurd HA.out (by simp [monikerref23_cut.l0])
    | succ k1 =>
      have H := HA.out
      clear HA
      simp only [monikerref23_cut.l0] at H
      by_cases c2 : x4_1 < (a0.size : Int)
      · rw [if_pos c2] at H
        have c2b0 : decide (x4_1 < (a0.size : Int)) = true := decide_eq_true c2
        clear c2
        by_cases c3 : 0 ≤ x4_1
        · rw [if_pos c3] at H
          have c3b0 : decide (0 ≤ x4_1) = true := decide_eq_true c3
          clear c3
          by_cases c5 : (bt a0 x4_1) = 47
          · rw [if_pos c5] at H
            have c5b0 : ((bt a0 x4_1) == 47) = true := beq_iff_eq.mpr c5
            have c5b1 : ((bt a0 x4_1) != 47) = false := bne_eq_false_iff_eq.mpr c5
            clear c5
            have H' := Aside0.mk H
            clear H
            have p4 : 0 ≤ (x4_1 : Int) := of_decide_eq_true (by first | (with_reducible assumption) | assumption)
            have q4 : x4_1 < (a0.size : Int) := of_decide_eq_true (by first | (with_reducible assumption) | assumption)
            have hx4 := bt_at a0 x4_1
            replace p4 := eq_true p4
            replace q4 := eq_true q4
            go_wp2
            go_roundg k1
            case measure => have := HK1.out; omega
            case rel => exact ⟨(x4_1), (wrap64 (x4_1 + 1)), (by first | rfl | (simp; done) | (simp [*]; done)), (by first | rfl | (simp; done) | (simp [*]; done)), H', ⟨by have := HK1.out; omega⟩, by repeat (first | exact Drawn0.refl _ | apply Drawn0.step)⟩
          · rw [if_neg c5] at H
            have c5b0 : ((bt a0 x4_1) == 47) = false := beq_eq_false_iff_ne.mpr c5
            have c5b1 : ((bt a0 x4_1) != 47) = true := bne_iff_ne.mpr c5
            have H' := Aside0.mk H
            clear H
            have p4 : 0 ≤ (x4_1 : Int) := of_decide_eq_true (by first | (with_reducible assumption) | assumption)
            have q4 : x4_1 < (a0.size : Int) := of_decide_eq_true (by first | (with_reducible assumption) | assumption)
            have hx4 := bt_at a0 x4_1
            replace p4 := eq_true p4
            replace q4 := eq_true q4
            go_wp2
            go_roundg k1
            case measure => have := HK1.out; omega
            case rel => exact ⟨(x3_1), (wrap64 (x4_1 + 1)), (by first | rfl | (simp; done) | (simp [*]; done)), (by first | rfl | (simp; done) | (simp [*]; done)), H', ⟨by have := HK1.out; omega⟩, by repeat (first | exact Drawn0.refl _ | apply Drawn0.step)⟩
        · rw [if_neg c3] at H
          exact absurd H (by simp)
      · rw [if_neg c2] at H
        have c2b0 : decide (x4_1 < (a0.size : Int)) = false := decide_eq_false c2
        clear c2
        by_cases c6 : 0 ≤ x3_1
        · rw [if_pos c6] at H
          have c6b0 := eq_true c6
          have c6b1 : decide (0 ≤ x3_1) = true := decide_eq_true c6
          clear c6
          by_cases c7 : x3_1 ≤ (a0.size : Int)
          · rw [if_pos c7] at H
            have c7b0 := eq_true c7
            have c7b1 : decide (x3_1 ≤ (a0.size : Int)) = true := decide_eq_true c7
            clear c7
            obtain rfl := Option.some.inj H
            go_wp2
            go_ret
            exact ⟨by first | rfl | (simp; done) | (simp [*]; done), by repeat (first | exact Drawn0.refl _ | apply Drawn0.step)⟩
          · rw [if_neg c7] at H
            exact absurd H (by simp)
        · rw [if_neg c6] at H
          exact absurd H (by simp)

end Go.Proofs.YteebphjlecmgjaaDoor.PAll
