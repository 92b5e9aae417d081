/- dev: pair.read -/
import Derived.Test.YtejkfochijgkdaaPr
import Derived.Lib.OthersKept
import Derived.Lib.TrimU
namespace Go.Proofs.Ytejkfochijgkdaa.Pr
open Go.RowKit Go.Maps Go.Proofs.Ytejkfochijgkdaa.MapF Go.Proofs.YtejkfochijgkdaaW.PrintWords Go.Proofs.YtejkfochijgkdaaW.PrintLast Go.Proofs.YtejkfochijgkdaaW.PrintMore
set_option linter.unusedVariables false
set_option linter.unusedSimpArgs false
def putD (dn : Int → Option (Int × Int)) (r : Int) (p : Int × Int) : Int → Option (Int × Int) := fun x => if x = r then some p else dn x
def putU (up : Int → Int → Option Int) (a b r : Int) : Int → Int → Option Int := fun x y => if x = a ∧ y = b then some r else up x y
def putS (sec : Int → Option Int) (r c : Int) : Int → Option Int := fun x => if x = r then some c else sec x
theorem fD_put (dn : Int → Option (Int × Int)) (r : Int) (p : Int × Int) : fD (putD dn r p) (.int .i32 r) = some (.agg #[.int .i32 p.1, .int .i32 p.2]) := by
  show ((putD dn r p r).map _) = _
  unfold putD
  rw [if_pos rfl]
  rfl
theorem fD_other (dn : Int → Option (Int × Int)) (r : Int) (p : Int × Int) (x : Value) (hx : x ≠ .int .i32 r) : fD (putD dn r p) x = fD dn x := by
  unfold fD
  split
  · rename_i r'
    have : r' ≠ r := fun e => hx (by rw [e])
    unfold putD
    rw [if_neg this]
  · rfl
theorem fU_put (up : Int → Int → Option Int) (a b r : Int) : fU (putU up a b r) (.agg #[.int .i32 a, .int .i32 b]) = some (.int .i32 r) := by
  show ((putU up a b r a b).map _) = _
  unfold putU
  rw [if_pos ⟨rfl, rfl⟩]
  rfl
theorem fU_other (up : Int → Int → Option Int) (a b r : Int) (x : Value) (hx : x ≠ .agg #[.int .i32 a, .int .i32 b]) : fU (putU up a b r) x = fU up x := by
  cases x with
  | agg cs =>
    show (match cs.toList with
      | [.int .i32 a', .int .i32 b'] => (putU up a b r a' b').map fun r => Value.int .i32 r
      | _ => none) = (match cs.toList with
      | [.int .i32 a', .int .i32 b'] => (up a' b').map fun r => Value.int .i32 r
      | _ => none)
    split
    · rename_i a' b' heq
      have hn : ¬ (a' = a ∧ b' = b) := fun e => hx (by
        rw [← e.1, ← e.2]
        congr 1
        exact Array.toList_inj.1 heq)
      unfold putU
      rw [if_neg hn]
    · rfl
  | _ => rfl
theorem fS_put (sec : Int → Option Int) (r c : Int) : fS (putS sec r c) (.int .i32 r) = some (.int .i64 c) := by
  show ((putS sec r c r).map _) = _
  unfold putS
  rw [if_pos rfl]
  rfl
theorem fS_other (sec : Int → Option Int) (r c : Int) (x : Value) (hx : x ≠ .int .i32 r) : fS (putS sec r c) x = fS sec x := by
  unfold fS
  split
  · rename_i r'
    have : r' ≠ r := fun e => hx (by rw [e])
    unfold putS
    rw [if_neg this]
  · rfl
/-- What is kept but for three maps and what is new. -/
structure Ke (b1 b2 b3 B : Nat) (w w' : World) : Prop where
  os : w'.os = w.os
  tape : w'.tape = w.tape
  output : w'.output = w.output
  size : w.heap.size ≤ w'.heap.size
  block : ∀ j, j < B → j ≠ b1 → j ≠ b2 → j ≠ b3 → w'.heap[j]? = w.heap[j]?
theorem Ke.refl (b1 b2 b3 B : Nat) (w : World) : Ke b1 b2 b3 B w w := ⟨rfl, rfl, rfl, Nat.le_refl _, fun _ _ _ _ _ => rfl⟩
theorem Ke.trans {b1 b2 b3 B : Nat} {w w' w'' : World} (h : Ke b1 b2 b3 B w w') (k : Ke b1 b2 b3 B w' w'') : Ke b1 b2 b3 B w w'' :=
  ⟨k.os.trans h.os, k.tape.trans h.tape, k.output.trans h.output, Nat.le_trans h.size k.size, fun j a b c d => (k.block j a b c d).trans (h.block j a b c d)⟩
theorem Ke.of_below {b1 b2 b3 B : Nat} {w w' : World} (h : Below B w w') : Ke b1 b2 b3 B w w' := ⟨h.os, h.tape, h.output, h.size, fun j a _ _ _ => h.block j a⟩
theorem Ke.of_grown {b1 b2 b3 B : Nat} {w w' : World} {b : Nat} (h : w.mapTurned w' b) (hb : b = b1 ∨ b = b2 ∨ b = b3) (hB : B ≤ w.heap.size) : Ke b1 b2 b3 B w w' :=
  ⟨h.grown.os, h.grown.tape, h.grown.output, h.grown.size, fun j a c d e => h.grown.block j (by omega) (fun x => by cases x; omega)⟩
theorem Ke.of_store {b1 b2 b3 B : Nat} {w w' : World} {b : Nat} (h : w.drew.mapTurned w' b) (hb : b = b1 ∨ b = b2 ∨ b = b3) (hB : B ≤ w.heap.size) : Ke b1 b2 b3 B w w' := by
  have k := Ke.of_grown (B := B) h hb hB
  exact ⟨k.os, k.tape, k.output, k.size, k.block⟩
/-- The three maps, the one block, and the bounds. -/
structure Pz (w : World) (g b1 b2 b3 n m : Nat) (dn : Int → Option (Int × Int)) (up : Int → Int → Option Int) (sec : Int → Option Int) : Prop where
  ps : Ps w g b1 b2 b3 n m dn up sec
  e12 : b1 ≠ b2
  e13 : b1 ≠ b3
  e23 : b2 ≠ b3
  hs : ∀ r c, sec r = some c → 0 ≤ c ∧ c ≤ n
section
variable {w : World} {g b1 b2 b3 n m : Nat} {dn : Int → Option (Int × Int)} {up : Int → Int → Option Int} {sec : Int → Option Int}
theorem Pz.same {w' : World} (h : Pz w g b1 b2 b3 n m dn up sec) (h0 : w'.heap[g]? = w.heap[g]?) (h1 : w'.heap[b1]? = w.heap[b1]?) (h2 : w'.heap[b2]? = w.heap[b2]?) (h3 : w'.heap[b3]? = w.heap[b3]?) : Pz w' g b1 b2 b3 n m dn up sec := by
  obtain ⟨⟨hd, m1, ⟨n2, m2⟩, ⟨n3, m3⟩⟩, a, b, c, d⟩ := h
  exact ⟨⟨h0.trans hd, m1.same h1, ⟨n2, m2.same h2⟩, ⟨n3, m3.same h3⟩⟩, a, b, c, d⟩
theorem Pz.mono (h : Pz w g b1 b2 b3 n m dn up sec) {n' : Nat} (hn : n ≤ n') : Pz w g b1 b2 b3 n' m dn up sec := by
  obtain ⟨⟨hd, m1, ⟨n2, m2⟩, ⟨n3, m3⟩⟩, a, b, c, d⟩ := h
  exact ⟨⟨hd, m1.mono hn, ⟨n2, m2.mono hn⟩, ⟨n3, m3.mono hn⟩⟩, a, b, c, fun r x hx => ⟨(d r x hx).1, by have := (d r x hx).2; omega⟩⟩
theorem Pz.lt (h : Pz w g b1 b2 b3 n m dn up sec) : g < w.heap.size ∧ b1 < w.heap.size ∧ b2 < w.heap.size ∧ b3 < w.heap.size := by
  obtain ⟨⟨hd, m1, ⟨n2, m2⟩, ⟨n3, m3⟩⟩, _⟩ := h
  exact ⟨blk_lt hd, m1.lt, m2.lt, m3.lt⟩
theorem Pz.ne (h : Pz w g b1 b2 b3 n m dn up sec) : g ≠ b1 ∧ g ≠ b2 ∧ g ≠ b3 := by
  obtain ⟨⟨hd, m1, ⟨n2, m2⟩, ⟨n3, m3⟩⟩, _⟩ := h
  refine ⟨?_, ?_, ?_⟩
  · rintro rfl; obtain ⟨es, c, hb⟩ := m1.isMap; rw [hd] at hb; cases hb
  · rintro rfl; obtain ⟨es, c, hb⟩ := m2.isMap; rw [hd] at hb; cases hb
  · rintro rfl; obtain ⟨es, c, hb⟩ := m3.isMap; rw [hd] at hb; cases hb
/-- Blocks below B are as they were. -/
theorem Pz.below {B : Nat} {w' : World} (h : Pz w g b1 b2 b3 n m dn up sec) (hb : Below B w w') (h0 : g < B) (h1 : b1 < B) (h2 : b2 < B) (h3 : b3 < B) : Pz w' g b1 b2 b3 n m dn up sec :=
  h.same (hb.block g h0) (hb.block b1 h1) (hb.block b2 h2) (hb.block b3 h3)
theorem Pz.drew (h : Pz w g b1 b2 b3 n m dn up sec) : Pz w.drew g b1 b2 b3 n m dn up sec := h.same rfl rfl rfl rfl
theorem Pz.store1 (h : Pz w g b1 b2 b3 n m dn up sec) (hn : n < maxLen) (r a b : Int) (hr : (Lit.int .i32 r).wf = true) :
    ∃ w', (Instr.mapUpdate 46 (.map (some b1)) (.int .i32 r) (.agg #[.int .i32 a, .int .i32 b])).run Try.prog w = .ok () w' ∧ Pz w' g b1 b2 b3 (n + 1) (if (dn r).isSome then m else m + 1) (putD dn r (a, b)) up sec ∧ w.mapTurned w' b1 := by
  have hne := h.ne
  have hlt := h.lt
  obtain ⟨⟨hd, m1, ⟨n2, m2⟩, ⟨n3, m3⟩⟩, x, y, z, d⟩ := h
  obtain ⟨w', hrun, hm, ht⟩ := m1.store K1 Try.underlying46 hn (key21 hr) (fD (putD dn r (a, b))) (fD_put dn r (a, b)) (fD_other dn r (a, b))
  have hsome : (fD dn (.int .i32 r)).isSome = (dn r).isSome := by show ((dn r).map _).isSome = _; cases dn r <;> rfl
  rw [hsome] at hm
  exact ⟨w', hrun, ⟨⟨(turned_block ht g hlt.1 hne.1).trans hd, hm, ⟨n2, (m2.same (turned_block ht b2 hlt.2.2.1 (Ne.symm x))).mono (Nat.le_succ _)⟩, ⟨n3, (m3.same (turned_block ht b3 hlt.2.2.2 (Ne.symm y))).mono (Nat.le_succ _)⟩⟩, x, y, z, fun r c hc => ⟨(d r c hc).1, by have := (d r c hc).2; omega⟩⟩, ht⟩
theorem Pz.store2 (h : Pz w g b1 b2 b3 n m dn up sec) (hn : n < maxLen) (r a b : Int) (ha : (Lit.int .i32 a).wf = true) (hb : (Lit.int .i32 b).wf = true) :
    ∃ w', (Instr.mapUpdate 47 (.map (some b2)) (.agg #[.int .i32 a, .int .i32 b]) (.int .i32 r)).run Try.prog w = .ok () w' ∧ Pz w' g b1 b2 b3 (n + 1) m dn (putU up a b r) sec ∧ w.mapTurned w' b2 := by
  have hne := h.ne
  have hlt := h.lt
  obtain ⟨⟨hd, m1, ⟨n2, m2⟩, ⟨n3, m3⟩⟩, x, y, z, d⟩ := h
  obtain ⟨kl, hk⟩ := key28 ha hb
  obtain ⟨w', hrun, hm, ht⟩ := m2.store K2 Try.underlying47 hn hk (fU (putU up a b r)) (fU_put up a b r) (fU_other up a b r)
  exact ⟨w', hrun, ⟨⟨(turned_block ht g hlt.1 hne.2.1).trans hd, (m1.same (turned_block ht b1 hlt.2.1 x)).mono (Nat.le_succ _), ⟨_, hm⟩, ⟨n3, (m3.same (turned_block ht b3 hlt.2.2.2 (Ne.symm z))).mono (Nat.le_succ _)⟩⟩, x, y, z, fun r c hc => ⟨(d r c hc).1, by have := (d r c hc).2; omega⟩⟩, ht⟩
theorem Pz.look3 (h : Pz w g b1 b2 b3 n m dn up sec) (r : Int) (hr : (Lit.int .i32 r).wf = true) : (Instr.lookup 48 (.map (some b3)) (.int .i32 r) false).run Try.prog w = .ok (.int .i64 ((sec r).getD 0)) w := by
  obtain ⟨n3, m3⟩ := h.ps.m3
  have := m3.look1 K1 Try.underlying48 (zero3 w) (key21 hr)
  rw [this]
  show Result.ok (((sec r).map _).getD _) w = _
  cases sec r <;> rfl
theorem Pz.sec_le (h : Pz w g b1 b2 b3 n m dn up sec) (r : Int) : 0 ≤ (sec r).getD 0 ∧ (sec r).getD 0 ≤ n := by
  cases hs : sec r with
  | none => exact ⟨Int.le_refl _, by show (0 : Int) ≤ n; omega⟩
  | some c => exact h.hs r c hs
theorem Pz.store3 (h : Pz w g b1 b2 b3 n m dn up sec) (hn : n < maxLen) (r c : Int) (hr : (Lit.int .i32 r).wf = true) (h0 : 0 ≤ c) (h1 : c ≤ n + 1) :
    ∃ w', (Instr.mapUpdate 48 (.map (some b3)) (.int .i32 r) (.int .i64 c)).run Try.prog w = .ok () w' ∧ Pz w' g b1 b2 b3 (n + 1) m dn up (putS sec r c) ∧ w.mapTurned w' b3 := by
  have hne := h.ne
  have hlt := h.lt
  obtain ⟨⟨hd, m1, ⟨n2, m2⟩, ⟨n3, m3⟩⟩, x, y, z, d⟩ := h
  obtain ⟨w', hrun, hm, ht⟩ := m3.store K1 Try.underlying48 hn (key21 hr) (fS (putS sec r c)) (fS_put sec r c) (fS_other sec r c)
  refine ⟨w', hrun, ⟨⟨(turned_block ht g hlt.1 hne.2.2).trans hd, (m1.same (turned_block ht b1 hlt.2.1 y)).mono (Nat.le_succ _), ⟨n2, (m2.same (turned_block ht b2 hlt.2.2.1 z)).mono (Nat.le_succ _)⟩, ⟨_, hm⟩⟩, x, y, z, fun r' c' hc => ?_⟩, ht⟩
  unfold putS at hc
  split at hc
  · cases hc
    exact ⟨h0, by omega⟩
  · exact ⟨(d r' c' hc).1, by have := (d r' c' hc).2; omega⟩
end
/-! ### what read does, rune by rune -/
structure S where
  n0 : Int
  n1 : Int
  n2 : Int
  k : Nat
  m : Nat
  dn : Int → Option (Int × Int)
  up : Int → Int → Option Int
  sec : Int → Option Int
def setNow (st : S) (r : Int) : S := match st.k with
  | 0 => { st with n0 := r }
  | 1 => { st with n1 := r }
  | _ => { st with n2 := r }
def flushS (n : Nat) (st : S) : S :=
  if n = 2 ∧ exclV (putD st.dn st.n0 (st.n1, st.n2)) st.n0 = false then
    { n0 := 0, n1 := 0, n2 := 0, k := 0, m := if (st.dn st.n0).isSome then st.m else st.m + 1, dn := putD st.dn st.n0 (st.n1, st.n2), up := putU st.up st.n1 st.n2 st.n0, sec := putS st.sec st.n2 ((st.sec st.n2).getD 0 + 1) }
  else { n0 := 0, n1 := 0, n2 := 0, k := 0, m := if (st.dn st.n0).isSome then st.m else st.m + 1, dn := putD st.dn st.n0 (st.n1, st.n2), up := st.up, sec := st.sec }
def stepS (n : Nat) (st : S) (r : Int) : S := if st.k + 1 ≤ n then { setNow st r with k := st.k + 1 } else flushS n (setNow st r)
def runesF (s : ByteArray) : Nat → Nat → List Int
  | 0, _ => []
  | f + 1, i => if i < s.size then ((Utf8.decode s i).1 : Int) :: runesF s f (i + (Utf8.decode s i).2) else []
def finS (n : Nat) (st : S) (s : ByteArray) : S := (runesF s (s.size + 1) 0).foldl (stepS n) st
/-- What holds ahead of a round. -/
structure RR (n : Nat) (s : ByteArray) (w : World) (g b1 b2 b3 c : Nat) (Fin st : S) (kq pos : Nat) (wr : World) : Prop where
  it : wr.heap[w.heap.size + 1]? = some (.stringIter s pos)
  now : wr.heap[w.heap.size]? = some (.cells #[.int .i32 st.n0, .int .i32 st.n1, .int .i32 st.n2] 63)
  fuel : s.size < kq + pos
  pz : ∃ nn, Pz wr g b1 b2 b3 nn st.m st.dn st.up st.sec ∧ nn + 3 * kq ≤ c + 3 * (s.size + 1)
  ke : Ke b1 b2 b3 w.heap.size w wr
  fin : (runesF s kq pos).foldl (stepS n) st = Fin
  kn : st.k ≤ n
  w0 : (Lit.int .i32 st.n0).wf = true
  w1 : (Lit.int .i32 st.n1).wf = true
  w2 : (Lit.int .i32 st.n2).wf = true
theorem iter_at (w : World) (k : Nat) (s : ByteArray) (pos : Nat) (hk : k < w.heap.size) : (w.iterAt k s pos).heap[k]? = some (.stringIter s pos) := by
  unfold World.iterAt
  simp [hk]
theorem iter_other (w : World) (k j : Nat) (s : ByteArray) (pos : Nat) (hj : j ≠ k) : (w.iterAt k s pos).heap[j]? = w.heap[j]? := by
  unfold World.iterAt
  simp only
  rw [Array.getElem?_setIfInBounds_ne (by omega)]
theorem iter_size (w : World) (k : Nat) (s : ByteArray) (pos : Nat) : (w.iterAt k s pos).heap.size = w.heap.size := by simp [World.iterAt]
theorem below_iterAt {B : Nat} {w w1 : World} (h : Below B w w1) (k : Nat) (hk : B ≤ k) (s : ByteArray) (pos : Nat) : Below B w (w1.iterAt k s pos) := by
  refine ⟨h.os, h.tape, h.output, ?_, fun i hi => ?_⟩
  · have := h.size; simpa [World.iterAt] using this
  · rw [iter_other _ _ _ _ _ (by omega)]; exact h.block i hi
theorem rune_wf (s : ByteArray) (pos : Nat) : (Lit.int .i32 ((Utf8.decode s pos).1 : Int)).wf = true := by
  have := Lib.rune_le s pos
  simp [Lit.wf, IntKind.min, IntKind.max, IntKind.signed, IntKind.bits]
  omega
theorem setNow_m (st : S) (r : Int) : (setNow st r).m = st.m := by unfold setNow; split <;> rfl
theorem setNow_dn (st : S) (r : Int) : (setNow st r).dn = st.dn := by unfold setNow; split <;> rfl
theorem setNow_up (st : S) (r : Int) : (setNow st r).up = st.up := by unfold setNow; split <;> rfl
theorem setNow_sec (st : S) (r : Int) : (setNow st r).sec = st.sec := by unfold setNow; split <;> rfl
theorem RR.next {n : Nat} {s : ByteArray} {w : World} {g b1 b2 b3 c : Nat} {Fin st : S} {q pos : Nat} {wr : World} (h : RR n s w g b1 b2 b3 c Fin st (q + 1) pos wr)
    (hL : g < w.heap.size ∧ b1 < w.heap.size ∧ b2 < w.heap.size ∧ b3 < w.heap.size) (hp : pos < s.size) (hk : st.k + 1 ≤ n) (hn : n ≤ 2) :
    RR n s w g b1 b2 b3 c Fin { setNow st ((Utf8.decode s pos).1 : Int) with k := st.k + 1 } q (pos + (Utf8.decode s pos).2) ((wr.iterAt (w.heap.size + 1) s (pos + (Utf8.decode s pos).2)).setCell ⟨w.heap.size, st.k, none⟩ (.int .i32 ((Utf8.decode s pos).1 : Int))) := by
  have hlt := blk_lt h.it
  have hd := Lib.width_pos s pos
  have hb : Below w.heap.size wr ((wr.iterAt (w.heap.size + 1) s (pos + (Utf8.decode s pos).2)).setCell ⟨w.heap.size, st.k, none⟩ (.int .i32 ((Utf8.decode s pos).1 : Int))) :=
    (below_iterAt (Below.refl _ _) _ (Nat.le_succ _) _ _).setCell (by simp) _
  obtain ⟨nn, hpz, hle⟩ := h.pz
  have hk3 : st.k = 0 ∨ st.k = 1 := by omega
  refine ⟨?_, ?_, by have := h.fuel; omega, ⟨nn, by show Pz _ g b1 b2 b3 nn (setNow st _).m (setNow st _).dn (setNow st _).up (setNow st _).sec; rw [setNow_m, setNow_dn, setNow_up, setNow_sec]; exact hpz.below hb hL.1 hL.2.1 hL.2.2.1 hL.2.2.2, by omega⟩, h.ke.trans (Ke.of_below hb), ?_, hk, ?_, ?_, ?_⟩
  · rw [Below.heap_setCell _ _ _ _ (by show w.heap.size + 1 ≠ w.heap.size; omega)]
    exact iter_at _ _ _ _ hlt
  · have hnow : (wr.iterAt (w.heap.size + 1) s (pos + (Utf8.decode s pos).2)).heap[w.heap.size]? = _ := (iter_other _ _ _ _ _ (by omega)).trans h.now
    have := blk_set hnow st.k (.int .i32 ((Utf8.decode s pos).1 : Int))
    rw [this]
    rcases hk3 with e | e <;> simp [setNow, e]
  · have hf := h.fin
    rw [runesF, if_pos hp, List.foldl_cons, stepS, if_pos hk] at hf
    exact hf
  · rcases hk3 with e | e <;> simp only [setNow, e]
    · exact rune_wf s pos
    · exact h.w0
  · rcases hk3 with e | e <;> simp only [setNow, e]
    · exact h.w1
    · exact rune_wf s pos
  · rcases hk3 with e | e <;> simp only [setNow, e] <;> exact h.w2
theorem RR.after {n : Nat} {s : ByteArray} {w : World} {g b1 b2 b3 c : Nat} {Fin st : S} {q pos : Nat} {wr : World} (h : RR n s w g b1 b2 b3 c Fin st (q + 1) pos wr)
    (hp : pos < s.size) (hk : ¬ st.k + 1 ≤ n) (st' : S) (hst : flushS n (setNow st ((Utf8.decode s pos).1 : Int)) = st') (W' : World)
    (hit : W'.heap[w.heap.size + 1]? = some (.stringIter s (pos + (Utf8.decode s pos).2))) (hnow : W'.heap[w.heap.size]? = some (.cells #[.int .i32 0, .int .i32 0, .int .i32 0] 63))
    (hpz : ∃ nn, Pz W' g b1 b2 b3 nn st'.m st'.dn st'.up st'.sec ∧ nn + 3 * q ≤ c + 3 * (s.size + 1)) (hke : Ke b1 b2 b3 w.heap.size wr W') :
    RR n s w g b1 b2 b3 c Fin st' q (pos + (Utf8.decode s pos).2) W' ∧ st'.k = 0 := by
  have hd := Lib.width_pos s pos
  have h0 : st'.n0 = 0 ∧ st'.n1 = 0 ∧ st'.n2 = 0 ∧ st'.k = 0 := by
    rw [← hst]
    unfold flushS
    split <;> exact ⟨rfl, rfl, rfl, rfl⟩
  refine ⟨⟨hit, by rw [h0.1, h0.2.1, h0.2.2.1]; exact hnow, by have := h.fuel; omega, hpz, h.ke.trans hke, ?_, by omega, by rw [h0.1]; decide, by rw [h0.2.1]; decide, by rw [h0.2.2.1]; decide⟩, h0.2.2.2⟩
  have hf := h.fin
  rw [runesF, if_pos hp, List.foldl_cons, stepS, if_neg hk, hst] at hf
  exact hf
section
variable {w : World} {g b1 b2 b3 m : Nat} {dn : Int → Option (Int × Int)} {up : Int → Int → Option Int} {sec : Int → Option Int}
set_option maxHeartbeats 4000000 in
theorem read2_calls (s : ByteArray) (hs : s.size ≤ 1048576) (c : Nat) (hc : c ≤ 1073741824) (h : Pz w g b1 b2 b3 c m dn up sec) (Fin : S) (hF : finS 2 ⟨0, 0, 0, 0, m, dn, up, sec⟩ s = Fin) :
    Calls Try.prog 23 #[.pointer (some ⟨g, 0, none⟩), .string s, .int .i64 2] w fun e w' => e = .returned (.tuple #[]) ∧ Pz w' g b1 b2 b3 (c + 3 * (s.size + 1)) Fin.m Fin.dn Fin.up Fin.sec ∧ Ke b1 b2 b3 w.heap.size w w' := by
  have hlt := h.lt
  have H := Aside0.mk h
  have HF := Aside0.mk hF
  have HL := Aside0.mk hlt
  clear h hF hlt
  go_enter Try.func23, Try.ntmps23
  go_wp2
  go_loopg [7] (s.size + 1) (fun kq v7 wr => ∃ st pos kk, v7 = .int .i64 kk ∧ Aside0 (kk = (st.k : Int) ∧ RR 2 s w g b1 b2 b3 c Fin st kq pos wr))
  case atStart =>
    have hb : Below w.heap.size w ((w.alloc (.cells #[.int .i32 0, .int .i32 0, .int .i32 0] 63)).iter s 0) := below_alloc (below_alloc (Below.refl _ _) _) _
    refine ⟨⟨0, 0, 0, 0, m, dn, up, sec⟩, 0, 0, rfl, ⟨rfl, ⟨?_, ?_, by omega, ⟨c, H.out.below hb HL.out.1 HL.out.2.1 HL.out.2.2.1 HL.out.2.2.2, by omega⟩, Ke.of_below hb, HF.out, Nat.zero_le _, ?_, ?_, ?_⟩⟩⟩
    · have := World.iter_heap (w.alloc (.cells #[.int .i32 0, .int .i32 0, .int .i32 0] 63)) s 0
      simpa using this
    · exact blk_below (blk_new w _) (below_alloc (Below.refl _ _) _)
    · show (Lit.int .i32 0).wf = true; decide
    · show (Lit.int .i32 0).wf = true; decide
    · show (Lit.int .i32 0).wf = true; decide
  case round =>
    obtain ⟨st, pos, kk, rfl, HI⟩ := hrel
    by_cases hp : pos < s.size
    · cases gk with
      | zero => have := HI.out.2.fuel; omega
      | succ q =>
        have hn := fun ty => Lib.run_next_any_at (P := Try.prog) wr (w.heap.size + 1) s pos ty HI.out.2.it hp
        have hnow : (wr.iterAt (w.heap.size + 1) s (pos + (Utf8.decode s pos).2)).heap[w.heap.size]? = _ := (iter_other _ _ _ _ _ (by omega)).trans HI.out.2.now
        have hk := HI.out.1
        have hkn := HI.out.2.kn
        by_cases hk2 : st.k = 2
        · rw [hk2] at hk
          obtain rfl : kk = 2 := by omega
          have f0 := blk_frozen hnow 2
          have c0 := blk_cell hnow 2
          obtain ⟨W2, hW2⟩ : ∃ W2, W2 = (wr.iterAt (w.heap.size + 1) s (pos + (Utf8.decode s pos).2)).setCell ⟨w.heap.size, 2, none⟩ (.int .i32 ((Utf8.decode s pos).1 : Int)) := ⟨_, rfl⟩
          have hb2 : Below w.heap.size wr W2 := by rw [hW2]; exact (below_iterAt (Below.refl _ _) _ (Nat.le_succ _) _ _).setCell (by simp) _
          have hnow2 : W2.heap[w.heap.size]? = some (.cells #[.int .i32 st.n0, .int .i32 st.n1, .int .i32 ((Utf8.decode s pos).1 : Int)] 63) := by
            rw [hW2]; exact (blk_set hnow 2 _).trans rfl
          have hit2 : W2.heap[w.heap.size + 1]? = some (.stringIter s (pos + (Utf8.decode s pos).2)) := by
            rw [hW2, Below.heap_setCell _ _ _ _ (by show w.heap.size + 1 ≠ w.heap.size; omega)]
            exact iter_at _ _ _ _ (blk_lt HI.out.2.it)
          obtain ⟨nn, hpz, hle⟩ := HI.out.2.pz
          have hpz2 := hpz.below hb2 HL.out.1 HL.out.2.1 HL.out.2.2.1 HL.out.2.2.2
          have hmax : nn + 3 < maxLen := by unfold maxLen; omega
          obtain ⟨w3, hrun3, hp3, ht3⟩ := hpz2.drew.store1 (by omega) st.n0 st.n1 ((Utf8.decode s pos).1 : Int) HI.out.2.w0
          have c20 := blk_cell hnow2 0
          have c21 := blk_cell hnow2 1
          have c22 := blk_cell hnow2 2
          have cg := blk_cell hpz2.ps.hd 0
          have HW2 := Aside0.mk hW2
          have HP3 := Aside0.mk hp3
          have HT3 := Aside0.mk ht3
          have HN2 := Aside0.mk hnow2
          have HI2 := Aside0.mk hit2
          have HB2 := Aside0.mk hb2
          have HK2 := Aside0.mk hk2
          have HLE := Aside0.mk (And.intro hle hmax)
          clear hW2 hp3 ht3 hnow2 hit2 hb2 hk2 hpz hpz2 hle hmax hk hkn hnow
          go_wp2
          rw [← HW2.out]
          clear f0 c0 hn
          go_region
          have hnow3 : w3.heap[w.heap.size]? = _ := (turned_block HT3.out w.heap.size (blk_lt HN2.out) (by have := HL.out.2.1; omega)).trans HN2.out
          have hit3 : w3.heap[w.heap.size + 1]? = _ := (turned_block HT3.out (w.heap.size + 1) (blk_lt HI2.out) (by have := HL.out.2.1; omega)).trans HI2.out
          have HX := Aside0.mk (excl_calls HP3.out.ps st.n0 HI.out.2.w0)
          have c30 := blk_cell hnow3 0
          have HN3 := Aside0.mk hnow3
          have HI3 := Aside0.mk hit3
          clear hnow3 hit3 c20 c21 c22 cg hrun3
          cases hx : exclV (putD st.dn st.n0 (st.n1, ((Utf8.decode s pos).1 : Int))) st.n0 with
          | true =>
            rw [hx] at HX
            have HXX := Aside0.mk hx
            clear hx
            go_wp2_with (go_at_call 13; refine HX.out.mono ?_; rintro e w4 ⟨rfl, hb4⟩; have f4 := fun i => blk_frozen (blk_below HN3.out hb4) i; have c40 := blk_cell (blk_below HN3.out hb4) 0; have c41 := blk_cell (blk_below HN3.out hb4) 1; have c42 := blk_cell (blk_below HN3.out hb4) 2; have HB4 := Aside0.mk hb4; clear hb4)
            have hit4 : w4.heap[w.heap.size + 1]? = _ := blk_below HI3.out HB4.out
            have hnow4 : w4.heap[w.heap.size]? = _ := blk_below HN3.out HB4.out
            have hl3 := HP3.out.lt
            have hp4 := HP3.out.below HB4.out hl3.1 hl3.2.1 hl3.2.2.1 hl3.2.2.2
            have hbz : Below w.heap.size w4 (((w4.setCell ⟨w.heap.size, 0, none⟩ (.int .i32 0)).setCell ⟨w.heap.size, 1, none⟩ (.int .i32 0)).setCell ⟨w.heap.size, 2, none⟩ (.int .i32 0)) :=
              (((Below.refl _ _).setCell (by simp) _).setCell (by simp) _).setCell (by simp) _
            have hke : Ke b1 b2 b3 w.heap.size wr (((w4.setCell ⟨w.heap.size, 0, none⟩ (.int .i32 0)).setCell ⟨w.heap.size, 1, none⟩ (.int .i32 0)).setCell ⟨w.heap.size, 2, none⟩ (.int .i32 0)) :=
              (Ke.of_below HB2.out).trans ((Ke.of_store HT3.out (.inl rfl) (by have := blk_lt HN2.out; omega)).trans ((Ke.of_below (HB4.out.mono (by have := blk_lt HN3.out; omega))).trans (Ke.of_below hbz)))
            have HR := Aside0.mk (HI.out.2.after hp (by have := HK2.out; omega) { n0 := 0, n1 := 0, n2 := 0, k := 0, m := if (st.dn st.n0).isSome then st.m else st.m + 1, dn := putD st.dn st.n0 (st.n1, ((Utf8.decode s pos).1 : Int)), up := st.up, sec := st.sec }
              (by unfold flushS; simp only [setNow, HK2.out, HXX.out]; rfl) _
              (by rw [Below.heap_setCell _ _ _ _ (by show w.heap.size + 1 ≠ w.heap.size; omega), Below.heap_setCell _ _ _ _ (by show w.heap.size + 1 ≠ w.heap.size; omega), Below.heap_setCell _ _ _ _ (by show w.heap.size + 1 ≠ w.heap.size; omega)]; exact hit4)
              ((blk_set (blk_set (blk_set hnow4 0 (.int .i32 0)) 1 (.int .i32 0)) 2 (.int .i32 0)).trans rfl)
              ⟨nn + 1, hp4.below hbz HL.out.1 HL.out.2.1 HL.out.2.2.1 HL.out.2.2.2, by have := HLE.out.1; omega⟩ hke)
            go_roundg q
            case measure => omega
            case rel => exact ⟨_, _, _, rfl, ⟨by rw [HR.out.2]; rfl, HR.out.1⟩⟩
          | false =>
            rw [hx] at HX
            have HXX := Aside0.mk hx
            clear hx
            go_wp2_with (go_at_call 13; refine HX.out.mono ?_; rintro e w4 ⟨rfl, hb4⟩; have HB4 := Aside0.mk hb4; clear hb4)
            have hnow4 : w4.heap[w.heap.size]? = _ := blk_below HN3.out HB4.out
            have hit4 : w4.heap[w.heap.size + 1]? = _ := blk_below HI3.out HB4.out
            have hl3 := HP3.out.lt
            have hp4 := HP3.out.below HB4.out hl3.1 hl3.2.1 hl3.2.2.1 hl3.2.2.2
            obtain ⟨w5, hrun5, hp5, ht5⟩ := hp4.drew.store2 (by have := HLE.out.2; omega) st.n0 st.n1 ((Utf8.decode s pos).1 : Int) HI.out.2.w1 (rune_wf s pos)
            have c40 := blk_cell hnow4 0
            have c41 := blk_cell hnow4 1
            have c42 := blk_cell hnow4 2
            have cg := blk_cell hp4.ps.hd 1
            have hnow5 : w5.heap[w.heap.size]? = _ := (turned_block ht5 w.heap.size (blk_lt hnow4) (by have := HL.out.2.2.1; omega)).trans hnow4
            have hit5 : w5.heap[w.heap.size + 1]? = _ := (turned_block ht5 (w.heap.size + 1) (blk_lt hit4) (by have := HL.out.2.2.1; omega)).trans hit4
            have HN5 := Aside0.mk hnow5
            have HI5 := Aside0.mk hit5
            have HP5 := Aside0.mk hp5
            have HT5 := Aside0.mk ht5
            have HZ4 := Aside0.mk (show w.heap.size < w4.heap.size from blk_lt hnow4)
            clear hnow5 hit5 hp5 ht5 hnow4 hit4 hp4 hl3 c30
            go_region
            clear hrun5 c40 c41 c42 cg
            obtain ⟨cc, hcc⟩ : ∃ cc, cc = (st.sec ((Utf8.decode s pos).1 : Int)).getD 0 := ⟨_, rfl⟩
            have hl5 := HP5.out.drew.look3 ((Utf8.decode s pos).1 : Int) (rune_wf s pos)
            rw [← hcc] at hl5
            have hcl := HP5.out.sec_le ((Utf8.decode s pos).1 : Int)
            rw [← hcc] at hcl
            obtain ⟨w6, hrun6, hp6, ht6⟩ := HP5.out.drew.store3 (by have := HLE.out.2; omega) ((Utf8.decode s pos).1 : Int) (cc + 1) (rune_wf s pos) (by omega) (by omega)
            have hcb : cc + 1 ≤ 1000000000000 := by have := HLE.out.2; unfold maxLen at this; have := HLE.out.1; omega
            have c52 := blk_cell HN5.out 2
            have cg := blk_cell HP5.out.ps.hd 2
            have hnow6 : w6.heap[w.heap.size]? = _ := (turned_block ht6 w.heap.size (blk_lt HN5.out) (by have := HL.out.2.2.2; omega)).trans HN5.out
            have hit6 : w6.heap[w.heap.size + 1]? = _ := (turned_block ht6 (w.heap.size + 1) (blk_lt HI5.out) (by have := HL.out.2.2.2; omega)).trans HI5.out
            have f60 := fun i => blk_frozen hnow6 i
            have c60 := blk_cell hnow6 0
            have c61 := blk_cell hnow6 1
            have c62 := blk_cell hnow6 2
            have HN6 := Aside0.mk hnow6
            have HI6 := Aside0.mk hit6
            have HP6 := Aside0.mk hp6
            have HT6 := Aside0.mk ht6
            have HCC := Aside0.mk hcc
            clear hnow6 hit6 hp6 ht6 hcc
            go_wp2
            go_region
            clear hrun6 hl5 c52 cg
            go_wp2
            have hl6 := HP6.out.lt
            have hbz : Below w.heap.size w6 (((w6.setCell ⟨w.heap.size, 0, none⟩ (.int .i32 0)).setCell ⟨w.heap.size, 1, none⟩ (.int .i32 0)).setCell ⟨w.heap.size, 2, none⟩ (.int .i32 0)) :=
              (((Below.refl _ _).setCell (by simp) _).setCell (by simp) _).setCell (by simp) _
            have hke : Ke b1 b2 b3 w.heap.size wr (((w6.setCell ⟨w.heap.size, 0, none⟩ (.int .i32 0)).setCell ⟨w.heap.size, 1, none⟩ (.int .i32 0)).setCell ⟨w.heap.size, 2, none⟩ (.int .i32 0)) :=
              (Ke.of_below HB2.out).trans ((Ke.of_store HT3.out (.inl rfl) (by have := blk_lt HN2.out; omega)).trans ((Ke.of_below (HB4.out.mono (by have := blk_lt HN3.out; omega))).trans
                ((Ke.of_store HT5.out (.inr (.inl rfl)) (by have := HZ4.out; omega)).trans ((Ke.of_store HT6.out (.inr (.inr rfl)) (by have := blk_lt HN5.out; omega)).trans (Ke.of_below hbz)))))
            have HR := Aside0.mk (HI.out.2.after hp (by have := HK2.out; omega) { n0 := 0, n1 := 0, n2 := 0, k := 0, m := if (st.dn st.n0).isSome then st.m else st.m + 1, dn := putD st.dn st.n0 (st.n1, ((Utf8.decode s pos).1 : Int)), up := putU st.up st.n1 ((Utf8.decode s pos).1 : Int) st.n0, sec := putS st.sec ((Utf8.decode s pos).1 : Int) (cc + 1) }
              (by unfold flushS; simp only [setNow, HK2.out, HXX.out, HCC.out]; rfl) _
              (by rw [Below.heap_setCell _ _ _ _ (by show w.heap.size + 1 ≠ w.heap.size; omega), Below.heap_setCell _ _ _ _ (by show w.heap.size + 1 ≠ w.heap.size; omega), Below.heap_setCell _ _ _ _ (by show w.heap.size + 1 ≠ w.heap.size; omega)]; exact HI6.out)
              ((blk_set (blk_set (blk_set HN6.out 0 (.int .i32 0)) 1 (.int .i32 0)) 2 (.int .i32 0)).trans rfl)
              ⟨nn + 1 + 1 + 1, HP6.out.below hbz HL.out.1 HL.out.2.1 HL.out.2.2.1 HL.out.2.2.2, by have := HLE.out.1; omega⟩ hke)
            go_roundg q
            case measure => omega
            case rel => exact ⟨_, _, _, rfl, ⟨by rw [HR.out.2]; rfl, HR.out.1⟩⟩
        · have HN := Aside0.mk (HI.out.2.next HL.out hp (by omega) (by decide))
          have hk3 : st.k = 0 ∨ st.k = 1 := by omega
          rcases hk3 with e | e
          · rw [e] at HN hk
            obtain rfl : kk = 0 := by omega
            have f0 := blk_frozen hnow 0
            have c0 := blk_cell hnow 0
            clear hnow hk hk2 hkn e
            go_wp2
            go_roundg q
            case measure => omega
            case rel => exact ⟨_, _, _, rfl, ⟨rfl, HN.out⟩⟩
          · rw [e] at HN hk
            obtain rfl : kk = 1 := by omega
            have f0 := blk_frozen hnow 1
            have c0 := blk_cell hnow 1
            clear hnow hk hk2 hkn e
            go_wp2
            go_roundg q
            case measure => omega
            case rel => exact ⟨_, _, _, rfl, ⟨rfl, HN.out⟩⟩
    · have hn := fun ty => Lib.run_next_end_at (P := Try.prog) wr (w.heap.size + 1) s pos ty HI.out.2.it hp
      have hend : st = Fin := by
        have := HI.out.2.fin
        cases gk with
        | zero => exact this
        | succ q => rw [runesF, if_neg hp] at this; exact this
      obtain ⟨nn, hpz, hle⟩ := HI.out.2.pz
      have HE := Aside0.mk (show Pz wr g b1 b2 b3 (c + 3 * (s.size + 1)) Fin.m Fin.dn Fin.up Fin.sec ∧ Ke b1 b2 b3 w.heap.size w wr from ⟨by rw [← hend]; exact hpz.mono (by omega), HI.out.2.ke⟩)
      clear hend hpz hle
      go_wp2
      refine bodyPost_end (v := .tuple #[]) (by simp [results, show Try.f23.results = #[] from rfl]) rfl ?_
      exact ⟨rfl, HE.out⟩
end
end Go.Proofs.Ytejkfochijgkdaa.Pr
