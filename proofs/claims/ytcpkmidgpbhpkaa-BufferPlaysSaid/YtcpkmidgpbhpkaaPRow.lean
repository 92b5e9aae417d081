/- A row of bytes of the call's own, whose slice may have been cut down to less than the row: it is read, appended to, cut. No condition but those that each names. -/
import Derived.Test.YtcpkmidgpbhpkaaWWords
import Derived.Test.YtcpkmidgpbhpkaaWLast
import Derived.Lib.AppendStr
namespace Go.Proofs.Ytcpkmidgpbhpkaa.Own
open Go.RowKit Go.Proofs.YtcpkmidgpbhpkaaW.PrintWords Go.Proofs.YtcpkmidgpbhpkaaW.PrintLast
set_option linter.unusedVariables false

def PRow (w : World) (base e : Nat) (v : Value) (xs : List Int) : Prop :=
  (v = .slice none 0 0 ∧ xs = []) ∨ ∃ g cap cur, v = .slice (some ⟨g, 0, none⟩) xs.length cap ∧ base ≤ g ∧ w.heap[g]? = some (.cells cur e (0, 0)) ∧ xs.length ≤ cap ∧ cap ≤ cur.size ∧ cap ≤ maxLen ∧
    ∀ j, j < xs.length → cur[j]? = some (.int .u8 (xs.getD j 0))
theorem PRow.nil (w : World) (base e : Nat) : PRow w base e (.slice none 0 0) [] := .inl ⟨rfl, rfl⟩
theorem PRow.slice {w : World} {base e : Nat} {v : Value} {xs : List Int} (h : PRow w base e v xs) : ∃ A c, v = .slice A xs.length c ∧ xs.length ≤ c := by
  rcases h with ⟨rfl, rfl⟩ | ⟨g, cap, cur, rfl, _, _, hl, _⟩
  · exact ⟨none, 0, rfl, Nat.le_refl _⟩
  · exact ⟨_, cap, rfl, hl⟩
theorem PRow.lt {w : World} {base e : Nat} {v : Value} {xs : List Int} (h : PRow w base e v xs) : ∀ k, v.ownBlock = some k → base ≤ k ∧ k < w.heap.size ∧ ∃ cur, w.heap[k]? = some (.cells cur e (0, 0)) := by
  rcases h with ⟨rfl, rfl⟩ | ⟨g, cap, cur, rfl, hb, hh, _⟩
  · intro k hk; simp [Value.ownBlock] at hk
  · intro k hk
    obtain rfl : g = k := by simpa [Value.ownBlock] using hk
    exact ⟨hb, (Array.getElem?_eq_some_iff.1 hh).1, cur, hh⟩
theorem PRow.move {w w1 : World} {base e : Nat} {v : Value} {xs : List Int} (h : PRow w base e v xs) (hm : ∀ k, v.ownBlock = some k → w1.heap[k]? = w.heap[k]?) : PRow w1 base e v xs := by
  rcases h with ⟨rfl, rfl⟩ | ⟨g, cap, cur, rfl, hb, hh, r⟩
  · exact .inl ⟨rfl, rfl⟩
  · exact .inr ⟨g, cap, cur, rfl, hb, (hm g (by simp [Value.ownBlock])).trans hh, r⟩
theorem PRow.below {w w1 : World} {base e : Nat} {v : Value} {xs : List Int} (h : PRow w base e v xs) (hb : Below w.heap.size w w1) : PRow w1 base e v xs :=
  h.move fun k hk => hb.block k (h.lt k hk).2.1
theorem PRow.grown {w w1 : World} {base e : Nat} {v : Value} {xs : List Int} (h : PRow w base e v xs) {row : Option Nat} (hg : w.grownBy w1 row) (hne : ∀ k, v.ownBlock = some k → some k ≠ row) : PRow w1 base e v xs :=
  h.move fun k hk => hg.block k (h.lt k hk).2.1 (hne k hk)
theorem PRow.far {w : World} {base e : Nat} {v : Value} {xs : List Int} (h : PRow w base e v xs) {g t : Nat} {cs : Array Value} (hg : w.heap[g]? = some (.cells cs t (0, 0))) (ht : e ≠ t) (j : Nat) (u : Value) : PRow (w.setCell ⟨g, j, none⟩ u) base e v xs := by
  refine h.move fun k hk => Below.heap_setCell w ⟨g, j, none⟩ u k ?_
  intro hkg
  obtain ⟨_, _, cur, hh⟩ := h.lt k hk
  simp only at hkg
  rw [hkg] at hh
  rw [hg] at hh
  injection hh with hh
  injection hh with _ h2 _
  exact ht h2.symm
theorem PRow.cell {w : World} {base e : Nat} {g cap : Nat} {xs : List Int} {n : Nat} (h : PRow w base e (.slice (some ⟨g, 0, none⟩) n cap) xs) (j : Nat) (hj : j < xs.length) : w.cell? ⟨g, j, none⟩ = some (.int .u8 (xs.getD j 0)) := by
  rcases h with ⟨h, _⟩ | ⟨g', cap', cur, h, _, hh, _, _, _, hc⟩
  · cases h
  · injection h with h1 h2 h3
    injection h1 with h1
    injection h1 with h1 _ _
    subst h1
    rw [cell_of_row w g j cur e _ hh]
    exact hc j hj
theorem PRow.reads {w : World} {base e : Nat} {v : Value} {xs : List Int} (h : PRow w base e v xs) : ∃ A c, v = .slice A xs.length c ∧ (0 < xs.length → ∃ g, A = some ⟨g, 0, none⟩ ∧ ∀ j, j < xs.length → w.cell? ⟨g, j, none⟩ = some (.int .u8 (xs.getD j 0))) := by
  rcases h with ⟨rfl, rfl⟩ | ⟨g, cap, cur, rfl, _, hh, _, _, _, hc⟩
  · exact ⟨none, 0, rfl, fun hp => absurd hp (Nat.lt_irrefl 0)⟩
  · exact ⟨_, cap, rfl, fun _ => ⟨g, rfl, fun j hj => by rw [cell_of_row w g j cur e _ hh]; exact hc j hj⟩⟩
theorem PRow.string {P : Program} {w : World} {base e' src dst e : TypeId} {v : Value} {xs : List Int} (hs : P.underlying src = some (.slice e)) (he : P.underlying e = some (.int .u8)) (hd : P.underlying dst = some .string) (h : PRow w base e' v xs) :
    (convert src dst v).run P w = .ok (.string (strOfNums xs)) w := by
  obtain ⟨A, c, rfl, hr⟩ := h.reads
  rcases Nat.eq_zero_or_pos xs.length with h0 | h0
  · obtain rfl := List.eq_nil_of_length_eq_zero h0
    rcases h with ⟨h, _⟩ | ⟨g, cap, cur, h, _, hh, _⟩
    · injection h with h1 h2 h3
      subst h1 h3
      exact run_convert_bytes_nil w src e hs he 0 0 dst hd
    · injection h with h1 h2 h3
      subst h1
      exact run_convert_bytes_arg w src e hs he g 0 0 c [] rfl (fun i hi => absurd hi (Nat.not_lt_zero _)) dst hd
  · obtain ⟨g, rfl, hc⟩ := hr h0
    exact run_convert_bytes_arg w src e hs he g 0 xs.length c xs rfl (fun i hi => by rw [Nat.zero_add]; exact hc i hi) dst hd
theorem PRow.cut {w : World} {base e : Nat} {A : Option Addr} {n c : Nat} {xs : List Int} (h : PRow w base e (.slice A n c) xs) (m : Nat) (hm : m ≤ xs.length) : PRow w base e (.slice A m m) (xs.take m) := by
  have hl : (xs.take m).length = m := by rw [List.length_take]; omega
  rcases h with ⟨h, rfl⟩ | ⟨g, cap, cur, h, hb, hh, hc, hc2, hc3, hcell⟩
  · injection h with h1 h2 h3
    subst h1
    obtain rfl : m = 0 := by simpa using hm
    exact .inl ⟨rfl, rfl⟩
  · injection h with h1 h2 h3
    subst h1
    refine .inr ⟨g, m, cur, by rw [hl], hb, hh, by rw [hl]; exact Nat.le_refl _, by omega, by omega, fun j hj => ?_⟩
    rw [hl] at hj
    rw [hcell j (by omega)]
    simp [List.getD_eq_getElem?_getD, hj]
theorem PRow.of_own {w : World} {base e n : Nat} {v : Value} {xs : List Int} (h : w.ownsRow base e 1 v n (nums .u8 xs)) : PRow w base e v xs := by
  have hl : xs.length = n := by have := h.1; simpa [nums] using this
  rcases h.2 with ⟨rfl, rfl⟩ | ⟨g, cap, cur, rfl, hb, hh, hc, hm, hcs, ht⟩
  · obtain rfl := List.eq_nil_of_length_eq_zero hl
    exact .inl ⟨rfl, rfl⟩
  · refine .inr ⟨g, cap, cur, by rw [hl], hb, hh, by omega, by omega, hm, fun j hj => ?_⟩
    have hc := h.cells (g := g) rfl j (.int .u8 (xs.getD j 0)) (by simp [nums, List.getElem?_eq_getElem hj, List.getD_eq_getElem?_getD])
    rw [Addr.add_lit, cell_of_row w g _ cur e _ hh] at hc
    simpa using hc
theorem nums_get (l : List Int) (j : Nat) (h : j < l.length) : (nums .u8 l)[j]? = some (.int .u8 (l.getD j 0)) := by
  simp [nums, h, List.getD_eq_getElem?_getD]
/-- Appending a text's bytes. -/
theorem run_append_prow {P : Program} (w : World) (base : Nat) (t u ty e : TypeId) (i : TypeInfo) (ht : P.underlying t = some (.slice e)) (hu : P.underlying u = some .string) (hi : P.info? e = some i) (hz : i.zero = some (.int .u8 0))
    (hsize : i.size = 1) (hby : i.bytes = 1) (v : Value) (xs : List Int) (h : PRow w base e v xs) (s : ByteArray) (hbytes : xs.length + s.size ≤ 140737488355328) (hbase : base ≤ w.heap.size) :
    ∃ v' w', (Builtin.append_ #[t, u] ty #[v, .string s]).run P w = .ok v' w' ∧ PRow w' base e v' (xs ++ bytesOf s) ∧ w.grownBy w' v.ownBlock := by
  have hsc : Lib.strCells s = nums .u8 (bytesOf s) := by simp [Lib.strCells, nums, bytesOf]
  rcases h with ⟨rfl, rfl⟩ | ⟨g, cap, cur, rfl, hb, hh, hc, hc2, hc3, hcell⟩
  · obtain ⟨v', w', hr, ho, hg, _⟩ := Lib.run_append_own_string (P := P) w base t u ty e i ht hu hi hz hsize hby (.slice none 0 0) 0 [] (World.ownsRow_nil w base e 1) s (by simp only [maxLen]; simp at hbytes; omega) (by simpa using hbytes) hbase
    rw [hsc, List.nil_append] at ho
    exact ⟨v', w', hr, PRow.of_own ho, hg⟩
  · have hsl : (Lib.strCells s).length = s.size := Lib.strCells_length s
    have hlen : (xs ++ bytesOf s).length = xs.length + s.size := by rw [List.length_append, bytesOf_length]
    by_cases hroom : xs.length + s.size ≤ cap
    · have hr := Lib.run_append_room_string (P := P) w t u ty e i ht hu hi hsize g xs.length cap cur hh s hroom (by omega)
      refine ⟨_, _, hr, .inr ⟨g, cap, _, by rw [hlen], hb, setRow_heap w g cur _ e _ hh, by omega, ?_, hc3, fun j hj => ?_⟩, ⟨rfl, rfl, rfl, by simp, fun k _ hk => setRow_other w g k _ (fun e => hk (by simp [Value.ownBlock, e]))⟩⟩
      · simp only [List.size_toArray, List.length_append, List.length_take, List.length_drop, Array.length_toList, hsl]
        omega
      · rw [hlen] at hj
        have hcl : cur.toList.length = cur.size := Array.length_toList
        have htl : (cur.toList.take xs.length).length = xs.length := by rw [List.length_take, hcl]; omega
        rw [List.getElem?_toArray, List.append_assoc]
        by_cases hjx : j < xs.length
        · have h5 : j < (List.take xs.length cur.toList).length := by rw [htl]; exact hjx
          rw [List.getElem?_append_left h5, List.getElem?_take_of_lt hjx, Array.getElem?_toList, hcell j hjx]
          simp [List.getD_eq_getElem?_getD, List.getElem?_append_left hjx]
        · have h5 : (List.take xs.length cur.toList).length ≤ j := by rw [htl]; omega
          have h6 : j - xs.length < (Lib.strCells s).length := by rw [hsl]; omega
          rw [List.getElem?_append_right h5, htl, List.getElem?_append_left h6, hsc]
          have : j - xs.length < (bytesOf s).length := by rw [bytesOf_length]; omega
          rw [nums_get _ _ this]
          simp only [List.getD_eq_getElem?_getD, List.getElem?_append_right (by omega : xs.length ≤ j)]
    · have holds : ∀ j u, (nums .u8 xs)[j]? = some u → w.cell? ((⟨g, 0, none⟩ : Addr).add j) = some u := by
        intro j u hj
        have hjl : j < xs.length := by have := (List.getElem?_eq_some_iff.1 hj).1; simpa [nums] using this
        rw [Addr.add_lit, cell_of_row w g _ cur e _ hh, Nat.zero_add, hcell j hjl]
        simp [nums, hjl] at hj
        rw [← hj]
        simp [List.getD_eq_getElem?_getD, hjl]
      have hr := Lib.run_append_grow_string (P := P) w t u ty e i (.int .u8 0) ht hu hi hz ⟨g, 0, none⟩ xs.length cap (nums .u8 xs) (by rw [hsize, nums_length]; omega) holds s (by omega) (by omega) (by rw [hby]; exact growslice_fits (by omega) (by omega))
      refine ⟨_, _, hr, .inr ⟨w.heap.size, _, _, by rw [hlen], hbase, heap_alloc_new w.drew _, ?_, ?_, ?_, fun j hj => ?_⟩, ⟨rfl, rfl, rfl, by simp, fun k hk _ => heap_alloc_old _ _ hk⟩⟩
      · rw [hlen]; exact grownCap_ge w _ cap e
      · have hge := grownCap_ge w (xs.length + s.size) cap e
        have hz1 : (Value.int IntKind.u8 0).cells.size = 1 := rfl
        simp only [Array.size_append, List.size_toArray, size_zeroCells, hz1, hsl, nums_length]
        omega
      · exact grownCap_le_maxLen w _ cap e (by simp only [maxLen]; omega)
      · rw [hlen] at hj
        rw [Array.getElem?_append_left (by simp only [Array.size_append, List.size_toArray, hsl, nums_length]; omega)]
        rw [List.append_toArray, hsc, ← nums_append, List.getElem?_toArray]
        exact nums_get _ _ (by omega)
/-- The operation, for the walk. -/
theorem wpList_append_prow {P : Program} {ops : Array Oper} {rest : List Oper} {o : Oper} {a : Act} {Q : Exit → Act → World → Prop} {w : World} (base : Nat) (hgd : o.guard = none) (sl x : Operand) (t u e : TypeId)
    (ho : o.op = .call { callee := .builtin .append, args := #[sl, x], argTypes := #[t, u] })
    (ht : P.underlying t = some (.slice e)) (hu : P.underlying u = some .string) (hinfo : (P.info? e).map (fun i => (i.zero, i.size, i.bytes)) = some (some (.int .u8 0), 1, 1))
    (v : Value) (xs : List Int) (hs : a.eval sl = v) (hr : PRow w base e v xs) (s : ByteArray) (hx : a.eval x = .string s)
    (hbytes : xs.length + s.size ≤ 140737488355328) (hbase : base ≤ w.heap.size)
    (h : ∀ A' c' w', PRow w' base e (.slice A' (xs ++ bytesOf s).length c') (xs ++ bytesOf s) → w.grownBy w' v.ownBlock → wpList P ops Q rest (a.put o.dst (.slice A' (xs ++ bytesOf s).length c')) w') : wpList P ops Q (o :: rest) a w := by
  obtain ⟨i0, hi, hzz⟩ := Option.map_eq_some_iff.1 hinfo
  simp only [Prod.mk.injEq] at hzz
  obtain ⟨hz0, hz1, hz2⟩ := hzz
  refine wpList_plain hgd fun K hK => ?_
  obtain ⟨v', w', hrun, h2, h3⟩ := run_append_prow (P := P) w base t u o.type e i0 ht hu hi hz0 hz1 hz2 v xs hr s hbytes hbase
  obtain ⟨A', c', rfl, _⟩ := h2.slice
  unfold Oper.wp execOp
  simp only [ho, resolve, invoke, builtin, Sem.run_bind, Sem.run_pure, Result.andThen_ok, List.map_toArray, List.map_cons, List.map_nil, hs, hx, hrun]
  exact hK _ _ (h A' c' w' h2 h3)
end Go.Proofs.Ytcpkmidgpbhpkaa.Own
