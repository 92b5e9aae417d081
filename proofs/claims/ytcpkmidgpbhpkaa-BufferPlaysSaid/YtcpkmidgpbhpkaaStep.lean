/- The walk of one call of both, the program's buffer and the document's state (step). Conditions: the buffer is one that the law's own call has made, and holds what the document's state holds. -/
import Derived.Test.YtcpkmidgpbhpkaaPlay
import Derived.Test.YtcpkmidgpbhpkaaBuf2
import Derived.Deep.RegionHeld3
namespace Go.Proofs.Ytcpkmidgpbhpkaa.Buf
open Go.RowKit Go.Proofs.Ytcpkmidgpbhpkaa.Own Go.Proofs.Ytcpkmidgpbhpkaa.PAll Go.Proofs.YtcpkmidgpbhpkaaW.PrintWords Go.Proofs.YtcpkmidgpbhpkaaW.PrintLast Go.Proofs.YtcpkmidgpbhpkaaW.PrintMore
set_option linter.unusedVariables false
/-- What a call of an op does to the document's state. -/
def stepS (s : ByteArray) (room : Int) (full : Bool) (kind n : Int) (t : ByteArray) (c : Int) : ByteArray :=
  if kind = 1 then (if putOk (bytesOf s) room full t.size = true then s ++ t else s)
  else if kind = 2 then (if putOk (bytesOf s) room full 1 = true then s ++ strOfNums [c] else s)
  else if kind = 3 then (if n < 0 ∨ (s.size : Int) < n then s else s.extract 0 n.toNat)
  else if kind = 4 then ⟨#[]⟩ else s
def stepF (s : ByteArray) (room : Int) (full : Bool) (kind : Int) (t : ByteArray) : Bool :=
  if kind = 1 then !putOk (bytesOf s) room full t.size
  else if kind = 2 then !putOk (bytesOf s) room full 1
  else if kind = 3 then full
  else if kind = 4 then false else full
theorem boxes3 {w w1 : World} {a b c : Obj} (h : Below (((w.alloc a).alloc b).alloc c).heap.size (((w.alloc a).alloc b).alloc c) w1) :
    Below w.heap.size w w1 ∧ w1.heap[w.heap.size]? = some a ∧ w1.heap[w.heap.size + 1]? = some b ∧ w1.heap[w.heap.size + 1 + 1]? = some c ∧ w.heap.size + 1 + 1 < w1.heap.size := by
  have ha := blk_below (blk_alloc (blk_alloc (blk_new w a) b) c) h
  have hb := blk_below (blk_alloc (blk_new (w.alloc a) b) c) h
  have hc := blk_below (blk_new ((w.alloc a).alloc b) c) h
  have hs := h.size
  simp only [World.size_alloc] at hb hc hs
  refine ⟨?_, ha, hb, hc, by omega⟩
  refine below_then (below_alloc (below_alloc (below_alloc (Below.refl _ _) a) b) c) ?_ h
  simp only [World.size_alloc]
  omega
theorem boxes4 {w w1 : World} {a b c d : Obj} (h : Below ((((w.alloc a).alloc b).alloc c).alloc d).heap.size ((((w.alloc a).alloc b).alloc c).alloc d) w1) :
    Below w.heap.size w w1 ∧ w1.heap[w.heap.size]? = some a ∧ w1.heap[w.heap.size + 1]? = some b ∧ w1.heap[w.heap.size + 1 + 1]? = some c ∧ w.heap.size + 1 + 1 < w1.heap.size :=
  boxes3 (below_then (below_alloc (Below.refl _ _) d) (by simp) h)
theorem IsBuf.far {w : World} {base g : Nat} {xs : List Int} {room : Int} {full : Bool} (h : IsBuf w base g xs room full) {k : Nat} {cs : Array Value} (hk : w.heap[k]? = some (.cells cs 35 (0, 0))) (j : Nat) (u : Value) : IsBuf (w.setCell ⟨k, j, none⟩ u) base g xs room full := by
  obtain ⟨h1, v, hh, hr⟩ := h
  refine ⟨h1, v, blk_far hh ?_ u, PRow.far hr hk (by decide) j u⟩
  exact blk_ne hh hk (by decide)
theorem Rest.fresh {w0 w : World} {k : Nat} (h : Rest w0 w) (hk : w0.heap.size ≤ k) (j : Nat) (u : Value) : Rest w0 (w.setCell ⟨k, j, none⟩ u) := by
  intro k' cs t e h5 h44
  rw [Below.heap_setCell w ⟨k, j, none⟩ u k' ?_]
  · exact h k' cs t e h5 h44
  · intro e2
    simp only at e2
    have := blk_lt e
    omega
/-- The result's box, filled. -/
theorem filled {w : World} {k base g : Nat} {a b c : Value} {s : ByteArray} {xs : List Int} {room : Int} {f full : Bool} (hk : w.heap[k]? = some (.cells #[a, b, c] 35 (0, 0))) (hI : IsBuf w base g xs room full) (hb : base ≤ k) :
    ∀ w', w' = (((w.setCell ⟨k, 0, none⟩ (.string s)).setCell ⟨k, 1, none⟩ (.int .i64 room)).setCell ⟨k, 2, none⟩ (.bool f)) →
      w'.cell? ⟨k, 0, none⟩ = some (.string s) ∧ w'.cell? ⟨k, 1, none⟩ = some (.int .i64 room) ∧ w'.cell? ⟨k, 2, none⟩ = some (.bool f) ∧ IsBuf w' base g xs room full ∧ Below base w w' ∧ ∀ w0, w0.heap.size ≤ k → Rest w0 w → Rest w0 w' := by
  rintro w' rfl
  have h1 := blk_put hk 0 (.string s) rfl
  have h2 := blk_put h1 1 (.int .i64 room) rfl
  have h3 := blk_put h2 2 (.bool f) rfl
  refine ⟨?_, ?_, ?_, ((hI.far hk 0 _).far h1 1 _).far h2 2 _, Below.setCell (Below.setCell (Below.setCell (Below.refl _ _) hb _) hb _) hb _, fun w0 h0 hr => ((hr.fresh h0 _ _).fresh h0 _ _).fresh h0 _ _⟩
  · rw [blk_cell h3]; rfl
  · rw [blk_cell h3]; rfl
  · rw [blk_cell h3]; rfl
set_option maxHeartbeats 4000000 in
theorem step_put (g : Nat) (room : Int) (full : Bool) (base : Nat) (w : World) (n c : Int) (s t : ByteArray) (hB : IsBuf w base g (bytesOf s) room full) (h0 : s.size ≤ 1048576) (h1 : 0 ≤ room) (h2 : room ≤ 1048576) (ht : t.size ≤ 200) :
    Calls Try.prog 13 #[.pointer (some ⟨g, 0, none⟩), .agg #[.string s, .int .i64 room, .bool full], .agg #[.int .i64 1, .int .i64 n, .string t, .int .u8 c]] w fun e w' =>
      e = .returned (.tuple #[.agg #[.string (stepS s room full 1 n t c), .int .i64 room, .bool (stepF s room full 1 t)], .bool true]) ∧ IsBuf w' base g (bytesOf (stepS s room full 1 n t c)) room (stepF s room full 1 t) ∧ Below base w w' ∧ Rest w w' := by
  have HB := Aside0.mk hB
  have HLT := Aside0.mk hB.lt
  have eS : stepS s room full 1 n t c = (if putOk (bytesOf s) room full t.size = true then s ++ t else s) := by unfold stepS; rw [if_pos rfl]
  have eF : stepF s room full 1 t = !putOk (bytesOf s) room full t.size := by unfold stepF; rw [if_pos rfl]
  rw [eS, eF]
  have HR := Aside0.mk (fun w => refPut_calls s room full t w h0 (by omega) h1 h2)
  have hput := fun w (h : IsBuf w base g (bytesOf s) room full) => put_any2 g t (bytesOf s) room full base w h (by rw [bytesOf_length]; omega) h1 h2 (by omega)
  have e3 : (if putOk (bytesOf s) room full t.size = true then bytesOf s ++ bytesOf t else bytesOf s) = bytesOf (if putOk (bytesOf s) room full t.size = true then s ++ t else s) := by
    split
    · rw [By.bytes_append]
    · rfl
  rw [e3] at hput
  have HP := Aside0.mk hput
  clear eS eF e3 hput hB
  generalize hok : putOk (bytesOf s) room full t.size = ok at HR HP ⊢
  generalize (if ok = true then s ++ t else s) = s2 at HR HP ⊢
  clear hok
  go_enter Try.func13, Try.ntmps13
  go_wp2_with (first | (go_at_call 15; refine (HR.out _).mono ?_; rintro e w1 ⟨rfl, hb⟩; have HB1 := Aside0.mk hb; clear hb))
  obtain ⟨hbel0, hX, hO, hR, hlt1⟩ := boxes3 HB1.out
  have hI := HB.out.below hbel0
  have hbel : Below base w w1 := hbel0.mono (Nat.le_trans HLT.out.1 (Nat.le_of_lt HLT.out.2))
  have hre : Rest w w1 := Rest.of_below hbel0
  clear hX hbel0
  replace hO := blk_alloc hO (.cells #[.string s2, .int .i64 room, .bool !ok] 35)
  replace hR := blk_alloc hR (.cells #[.string s2, .int .i64 room, .bool !ok] 35)
  have hY := blk_new w1 (.cells #[.string s2, .int .i64 room, .bool !ok] 35)
  replace hI := hI.al (.cells #[.string s2, .int .i64 room, .bool !ok] 35)
  replace hbel := hbel.alloc (by have := HLT.out; omega) (.cells #[.string s2, .int .i64 room, .bool !ok] 35)
  replace hre := hre.trans (Rest.of_below (below_alloc (Below.refl _ _) (.cells #[.string s2, .int .i64 room, .bool !ok] 35)))
  generalize w1.alloc (.cells #[.string s2, .int .i64 room, .bool !ok] 35) = W0 at hO hR hY hI hbel hre ⊢
  generalize w1.heap.size = bY at hY hlt1 ⊢
  clear HB1
  have HI := Aside0.mk hI
  have hI1 : IsBuf W0.drew base g (bytesOf s) room full := hI.drawn 1
  have HI1 := Aside0.mk hI1
  have HBEL := Aside0.mk hbel
  have HE0 := Aside0.mk hre
  have cO := blk_cell hO 2
  have cY0 := blk_cell hY 0
  have cY1 := blk_cell hY 1
  have cY2 := blk_cell hY 2
  simp at cO cY0 cY1 cY2
  have HO := Aside0.mk hO
  have HRB := Aside0.mk hR
  have HY := Aside0.mk hY
  clear hO hR hY hI hI1 hbel hre
  go_region_with (go_at_call 8; refine (HP.out _ HI1.out).mono ?_; rintro e w2 ⟨rfl, hI2, hb2, hr2⟩; have hY2 := hr2 _ _ _ (blk_drew HY.out) (by decide) (by decide); have hR2 := hr2 _ _ _ (blk_drew HRB.out) (by decide) (by decide); have d0 := blk_cell hY2 0; have d1 := blk_cell hY2 1; have d2 := blk_cell hY2 2; have e0 := blk_cell hR2 0; have e1 := blk_cell hR2 1; have e2 := blk_cell hR2 2; have f0 := blk_frozen hR2 0; have f1 := blk_frozen hR2 1; have f2 := blk_frozen hR2 2; simp at d0 d1 d2 e0 e1 e2 f0 f1 f2; have HI2 := Aside0.mk hI2; have HR2 := Aside0.mk hR2; have HB2 := Aside0.mk hb2; have HE2 := Aside0.mk hr2; clear hI2 hb2 hr2 hY2 hR2)
  all_goals go_wp2
  all_goals obtain ⟨g0, g1, g2, hI3, hB3, hE3⟩ := filled (s := s2) (f := !ok) HR2.out HI2.out (by have := HLT.out; omega) _ rfl
  all_goals refine bodyPost_ret (v := .tuple #[.agg #[.string s2, .int .i64 room, .bool !ok], .bool true]) ?_ rfl ⟨rfl, hI3, (below_drew HBEL.out).trans (HB2.out.trans hB3), hE3 w (by omega) (HE0.out.trans HE2.out)⟩
  all_goals simp [results, Try.results13, go_sem, g0, g1, g2]
set_option maxHeartbeats 4000000 in
theorem step_byte (g : Nat) (room : Int) (full : Bool) (base : Nat) (w : World) (n c : Int) (s t : ByteArray) (hB : IsBuf w base g (bytesOf s) room full) (h0 : s.size ≤ 1048576) (h1 : 0 ≤ room) (h2 : room ≤ 1048576) (hc1 : 0 ≤ c) (hc2 : c ≤ 255) :
    Calls Try.prog 13 #[.pointer (some ⟨g, 0, none⟩), .agg #[.string s, .int .i64 room, .bool full], .agg #[.int .i64 2, .int .i64 n, .string t, .int .u8 c]] w fun e w' =>
      e = .returned (.tuple #[.agg #[.string (stepS s room full 2 n t c), .int .i64 room, .bool (stepF s room full 2 t)], .bool true]) ∧ IsBuf w' base g (bytesOf (stepS s room full 2 n t c)) room (stepF s room full 2 t) ∧ Below base w w' ∧ Rest w w' := by
  have HB := Aside0.mk hB
  have HLT := Aside0.mk hB.lt
  have hb1 : bytesOf (strOfNums [c]) = [c] := By.bytes_str _ (by intro x hx; simp at hx; omega)
  have hsz1 : (strOfNums [c]).size = 1 := strOfNums_size _
  have eS : stepS s room full 2 n t c = (if putOk (bytesOf s) room full 1 = true then s ++ strOfNums [c] else s) := by unfold stepS; rw [if_neg (by decide), if_pos rfl]
  have eF : stepF s room full 2 t = !putOk (bytesOf s) room full 1 := by unfold stepF; rw [if_neg (by decide), if_pos rfl]
  rw [eS, eF]
  have hrp := fun w => refPut_calls s room full (strOfNums [c]) w h0 (by omega) h1 h2
  rw [hsz1] at hrp
  have HR := Aside0.mk hrp
  have hput := fun w (h : IsBuf w base g (bytesOf s) room full) => byte_any2 g c (bytesOf s) room full base w h (by rw [bytesOf_length]; omega) h1 h2 hc1 hc2
  have e3 : (if putOk (bytesOf s) room full 1 = true then bytesOf s ++ [c] else bytesOf s) = bytesOf (if putOk (bytesOf s) room full 1 = true then s ++ strOfNums [c] else s) := by
    split
    · rw [By.bytes_append, hb1]
    · rfl
  rw [e3] at hput
  have HP := Aside0.mk hput
  clear eS eF e3 hput hB hrp hb1
  generalize hok : putOk (bytesOf s) room full 1 = ok at HR HP ⊢
  generalize (if ok = true then s ++ strOfNums [c] else s) = s2 at HR HP ⊢
  clear hok
  have hcv : ∀ w : World, (convert 42 9 (.slice (some ⟨w.heap.size, 0, none⟩) 1 1)).run Try.prog (w.alloc (.cells #[.int .u8 c] 5)) = .ok (.string (strOfNums [c])) (w.alloc (.cells #[.int .u8 c] 5)) := fun w => run_convert_bytes_arg (P := Try.prog) (w.alloc (.cells #[.int .u8 c] 5)) 42 5 Try.underlying42 Try.underlying5 w.heap.size 0 1 1 [c] rfl (fun i hi => by
    obtain rfl : i = 0 := by omega
    rw [blk_cell (blk_new w (.cells #[.int .u8 c] 5))]; rfl) 9 Try.underlying9
  have hcv3 := hcv (((w.alloc (.cells #[.string s, .int .i64 room, .bool full] 35)).alloc (.cells #[.int .i64 2, .int .i64 n, .string t, .int .u8 c] 37)).alloc (.cells #[.string { data := #[] }, .int .i64 0, .bool false] 35))
  simp only [World.size_alloc] at hcv3
  clear hcv hsz1
  go_enter Try.func13, Try.ntmps13
  go_wp2_with (first | (go_at_call 15; refine (HR.out _).mono ?_; rintro e w1 ⟨rfl, hb⟩; have HB1 := Aside0.mk hb; clear hb))
  obtain ⟨hbel0, hX, hO, hR, hlt1⟩ := boxes4 HB1.out

  have hI := HB.out.below hbel0
  have hbel : Below base w w1 := hbel0.mono (Nat.le_trans HLT.out.1 (Nat.le_of_lt HLT.out.2))
  have hre : Rest w w1 := Rest.of_below hbel0
  clear hX hbel0
  replace hO := blk_alloc hO (.cells #[.string s2, .int .i64 room, .bool !ok] 35)
  replace hR := blk_alloc hR (.cells #[.string s2, .int .i64 room, .bool !ok] 35)
  have hY := blk_new w1 (.cells #[.string s2, .int .i64 room, .bool !ok] 35)
  replace hI := hI.al (.cells #[.string s2, .int .i64 room, .bool !ok] 35)
  replace hbel := hbel.alloc (by have := HLT.out; omega) (.cells #[.string s2, .int .i64 room, .bool !ok] 35)
  replace hre := hre.trans (Rest.of_below (below_alloc (Below.refl _ _) (.cells #[.string s2, .int .i64 room, .bool !ok] 35)))
  generalize w1.alloc (.cells #[.string s2, .int .i64 room, .bool !ok] 35) = W0 at hO hR hY hI hbel hre ⊢
  generalize w1.heap.size = bY at hY hlt1 ⊢
  clear HB1
  have HI := Aside0.mk hI
  have hI1 : IsBuf W0.drew base g (bytesOf s) room full := hI.drawn 1
  have HI1 := Aside0.mk hI1
  have HBEL := Aside0.mk hbel
  have HE0 := Aside0.mk hre
  have cO := blk_cell hO 3
  have cY0 := blk_cell hY 0
  have cY1 := blk_cell hY 1
  have cY2 := blk_cell hY 2
  simp at cO cY0 cY1 cY2
  have HO := Aside0.mk hO
  have HRB := Aside0.mk hR
  have HY := Aside0.mk hY
  clear hO hR hY hI hI1 hbel hre
  go_region_with (go_at_call 16; refine (HP.out _ HI1.out).mono ?_; rintro e w2 ⟨rfl, hI2, hb2, hr2⟩; have hY2 := hr2 _ _ _ (blk_drew HY.out) (by decide) (by decide); have hR2 := hr2 _ _ _ (blk_drew HRB.out) (by decide) (by decide); have d0 := blk_cell hY2 0; have d1 := blk_cell hY2 1; have d2 := blk_cell hY2 2; have e0 := blk_cell hR2 0; have e1 := blk_cell hR2 1; have e2 := blk_cell hR2 2; have f0 := blk_frozen hR2 0; have f1 := blk_frozen hR2 1; have f2 := blk_frozen hR2 2; simp at d0 d1 d2 e0 e1 e2 f0 f1 f2; have HI2 := Aside0.mk hI2; have HR2 := Aside0.mk hR2; have HB2 := Aside0.mk hb2; have HE2 := Aside0.mk hr2; clear hI2 hb2 hr2 hY2 hR2)
  all_goals go_wp2
  all_goals obtain ⟨g0, g1, g2, hI3, hB3, hE3⟩ := filled (s := s2) (f := !ok) HR2.out HI2.out (by have := HLT.out; omega) _ rfl
  all_goals refine bodyPost_ret (v := .tuple #[.agg #[.string s2, .int .i64 room, .bool !ok], .bool true]) ?_ rfl ⟨rfl, hI3, (below_drew HBEL.out).trans (HB2.out.trans hB3), hE3 w (by omega) (HE0.out.trans HE2.out)⟩
  all_goals simp [results, Try.results13, go_sem, g0, g1, g2]
theorem step_clear (g : Nat) (room : Int) (full : Bool) (base : Nat) (w : World) (n c : Int) (s t : ByteArray) (hB : IsBuf w base g (bytesOf s) room full) :
    Calls Try.prog 13 #[.pointer (some ⟨g, 0, none⟩), .agg #[.string s, .int .i64 room, .bool full], .agg #[.int .i64 4, .int .i64 n, .string t, .int .u8 c]] w fun e w' =>
      e = .returned (.tuple #[.agg #[.string ⟨#[]⟩, .int .i64 room, .bool false], .bool true]) ∧ IsBuf w' base g [] room false ∧ Below base w w' ∧ Rest w w' := by
  have HB := Aside0.mk hB
  have HLT := Aside0.mk hB.lt
  have HP := Aside0.mk (fun w (h : IsBuf w base g (bytesOf s) room full) => clear_calls2 g (bytesOf s) room full base w h)
  clear hB
  go_enter Try.func13, Try.ntmps13
  go_wp2_with (first | (go_at_call 18; refine (HP.out _ ((HB.out.al _).al _ |>.al _)).mono ?_; rintro e w2 ⟨rfl, hI2, hb2, hr2⟩; have hX2 := hr2 _ _ _ (blk_alloc (blk_alloc (blk_new _ _) _) _) (by decide) (by decide); have hR2 := hr2 _ _ _ (blk_new _ _) (by decide) (by decide); simp only [World.size_alloc] at hR2; have d1 := blk_cell hX2 1; have e0 := blk_cell hR2 0; have e1 := blk_cell hR2 1; have e2 := blk_cell hR2 2; have f0 := blk_frozen hR2 0; have f1 := blk_frozen hR2 1; have f2 := blk_frozen hR2 2; simp at d1 e0 e1 e2 f0 f1 f2; have HI2 := Aside0.mk hI2; have HR2 := Aside0.mk hR2; have HB2 := Aside0.mk hb2; have HE2 := Aside0.mk hr2; clear hI2 hb2 hr2 hX2 hR2))
  obtain ⟨g0, g1, g2, hI3, hB3, hE3⟩ := filled (s := ⟨#[]⟩) (f := false) HR2.out HI2.out (by have := HLT.out; omega) _ rfl
  have hb0 := (boxes3 (Below.refl _ (((w.alloc (.cells #[.string s, .int .i64 room, .bool full] 35)).alloc (.cells #[.int .i64 4, .int .i64 n, .string t, .int .u8 c] 37)).alloc (.cells #[.string { data := #[] }, .int .i64 0, .bool false] 35)))).1
  refine bodyPost_ret (v := .tuple #[.agg #[.string ⟨#[]⟩, .int .i64 room, .bool false], .bool true]) ?_ rfl ⟨rfl, hI3, (hb0.mono (Nat.le_trans HLT.out.1 (Nat.le_of_lt HLT.out.2))).trans (HB2.out.trans hB3), hE3 w (by omega) ((Rest.of_below hb0).trans HE2.out)⟩
  simp [results, Try.results13, go_sem, g0, g1, g2]
theorem step_other (g : Nat) (room : Int) (full : Bool) (base : Nat) (w : World) (kind n c : Int) (s t : ByteArray) (hB : IsBuf w base g (bytesOf s) room full) (k1 : kind ≠ 1) (k2 : kind ≠ 2) (k3 : kind ≠ 3) (k4 : kind ≠ 4) :
    Calls Try.prog 13 #[.pointer (some ⟨g, 0, none⟩), .agg #[.string s, .int .i64 room, .bool full], .agg #[.int .i64 kind, .int .i64 n, .string t, .int .u8 c]] w fun e w' =>
      e = .returned (.tuple #[.agg #[.string s, .int .i64 room, .bool full], .bool true]) ∧ IsBuf w' base g (bytesOf s) room full ∧ Below base w w' ∧ Rest w w' := by
  have HB := Aside0.mk hB
  have HLT := Aside0.mk hB.lt
  have b1 : (kind == 1) = false := by simpa using k1
  have b2 : (kind == 2) = false := by simpa using k2
  have b3 : (kind == 3) = false := by simpa using k3
  have b4 : (kind == 4) = false := by simpa using k4
  clear hB k1 k2 k3 k4
  go_enter Try.func13, Try.ntmps13
  go_wp2
  have hb0 := (boxes3 (Below.refl _ (((w.alloc (.cells #[.string s, .int .i64 room, .bool full] 35)).alloc (.cells #[.int .i64 kind, .int .i64 n, .string t, .int .u8 c] 37)).alloc (.cells #[.string s, .int .i64 room, .bool full] 35)))).1
  refine bodyPost_ret (v := .tuple #[.agg #[.string s, .int .i64 room, .bool full], .bool true]) ?_ rfl ⟨rfl, ((HB.out.al _).al _).al _, hb0.mono (Nat.le_trans HLT.out.1 (Nat.le_of_lt HLT.out.2)), Rest.of_below hb0⟩
  simp [results, Try.results13, go_sem]
theorem cut_no2 (g : Nat) (xs : List Int) (room : Int) (full : Bool) (base : Nat) (w : World) (n : Int) (hB : IsBuf w base g xs room full) (hn : n < 0 ∨ (xs.length : Int) < n) :
    Calls Try.prog 17 #[.pointer (some ⟨g, 0, none⟩), .int .i64 n] w fun e w' => e = .returned (.bool false) ∧ IsBuf w' base g xs room full ∧ Below base w w' ∧ Rest w w' := by
  refine (cut_no g xs room full base w n hB hn).mono ?_
  rintro e w' ⟨he, ⟨k, rfl⟩⟩
  exact ⟨he, hB.drawn k, pw_below_drewN (Below.refl _ _) k, Rest.of_drawn _ _⟩
set_option maxHeartbeats 4000000 in
theorem step_cut (g : Nat) (room : Int) (full : Bool) (base : Nat) (w : World) (n c : Int) (s t : ByteArray) (hB : IsBuf w base g (bytesOf s) room full) (h0 : s.size ≤ 1048576) :
    Calls Try.prog 13 #[.pointer (some ⟨g, 0, none⟩), .agg #[.string s, .int .i64 room, .bool full], .agg #[.int .i64 3, .int .i64 n, .string t, .int .u8 c]] w fun e w' =>
      e = .returned (.tuple #[.agg #[.string (if n < 0 ∨ (s.size : Int) < n then s else s.extract 0 n.toNat), .int .i64 room, .bool full], .bool true]) ∧ IsBuf w' base g (bytesOf (if n < 0 ∨ (s.size : Int) < n then s else s.extract 0 n.toNat)) room full ∧ Below base w w' ∧ Rest w w' := by
  have HB := Aside0.mk hB
  have HLT := Aside0.mk hB.lt
  clear hB
  have HPN := Aside0.mk (fun w (h : IsBuf w base g (bytesOf s) room full) (hn : n < 0 ∨ ((bytesOf s).length : Int) < n) => cut_no2 g (bytesOf s) room full base w n h hn)
  have eL := bytesOf_length s
  by_cases hn : n < 0
  · rw [if_pos (.inl hn)]
    have HP := Aside0.mk (fun w (h : IsBuf w base g (bytesOf s) room full) => HPN.out w h (.inl hn))
    clear HPN eL
    go_enter Try.func13, Try.ntmps13
    go_wp2
    obtain ⟨hbel, hX, hO, hR, hlt1⟩ := boxes3 (Below.refl _ (((w.alloc (.cells #[.string s, .int .i64 room, .bool full] 35)).alloc (.cells #[.int .i64 3, .int .i64 n, .string t, .int .u8 c] 37)).alloc (.cells #[.string { data := #[] }, .int .i64 0, .bool false] 35)))
    have hre := Rest.of_below hbel
    replace hbel := hbel.mono (Nat.le_trans HLT.out.1 (Nat.le_of_lt HLT.out.2))
    have hI := ((HB.out.al (.cells #[.string s, .int .i64 room, .bool full] 35)).al (.cells #[.int .i64 3, .int .i64 n, .string t, .int .u8 c] 37)).al (.cells #[.string { data := #[] }, .int .i64 0, .bool false] 35)
    generalize ((w.alloc (.cells #[.string s, .int .i64 room, .bool full] 35)).alloc (.cells #[.int .i64 3, .int .i64 n, .string t, .int .u8 c] 37)).alloc (.cells #[.string { data := #[] }, .int .i64 0, .bool false] 35) = W0 at hX hO hR hI hbel hre ⊢
    have HI := Aside0.mk hI
    have hI1 : IsBuf W0.drew base g (bytesOf s) room full := hI.drawn 1
    have HI1 := Aside0.mk hI1
    have HBEL := Aside0.mk hbel
    have HE0 := Aside0.mk hre
    have cO := blk_cell hO 1
    have cX0 := blk_cell hX 0
    have cX1 := blk_cell hX 1
    have cX2 := blk_cell hX 2
    simp at cO cX0 cX1 cX2
    have HX := Aside0.mk hX
    have HRB := Aside0.mk hR
    clear hX hO hR hI hI1 hbel hre
    go_region_with (go_at_call 17; refine (HP.out _ HI1.out).mono ?_; rintro e w2 ⟨rfl, hI2, hb2, hr2⟩; have hX2 := hr2 _ _ _ (blk_drew HX.out) (by decide) (by decide); have hR2 := hr2 _ _ _ (blk_drew HRB.out) (by decide) (by decide); have d0 := blk_cell hX2 0; have d1 := blk_cell hX2 1; have d2 := blk_cell hX2 2; have e0 := blk_cell hR2 0; have e1 := blk_cell hR2 1; have e2 := blk_cell hR2 2; have f0 := blk_frozen hR2 0; have f1 := blk_frozen hR2 1; have f2 := blk_frozen hR2 2; simp at d0 d1 d2 e0 e1 e2 f0 f1 f2; have HI2 := Aside0.mk hI2; have HR2 := Aside0.mk hR2; have HB2 := Aside0.mk hb2; have HE2 := Aside0.mk hr2; clear hI2 hb2 hr2 hX2 hR2)
    all_goals go_wp2
    all_goals obtain ⟨g0, g1, g2, hI3, hB3, hE3⟩ := filled (s := s) (f := full) HR2.out HI2.out (by have := HLT.out; omega) _ rfl
    all_goals refine bodyPost_ret (v := .tuple #[.agg #[.string s, .int .i64 room, .bool full], .bool true]) ?_ rfl ⟨rfl, hI3, (below_drew HBEL.out).trans (HB2.out.trans hB3), hE3 w (by omega) (HE0.out.trans HE2.out)⟩
    all_goals simp [results, Try.results13, go_sem, g0, g1, g2]
  · by_cases hn2 : (s.size : Int) < n
    · rw [if_pos (.inr hn2)]
      have HP := Aside0.mk (fun w (h : IsBuf w base g (bytesOf s) room full) => HPN.out w h (.inr (by rw [eL]; exact hn2)))
      clear HPN eL
      go_enter Try.func13, Try.ntmps13
      go_wp2
      obtain ⟨hbel, hX, hO, hR, hlt1⟩ := boxes3 (Below.refl _ (((w.alloc (.cells #[.string s, .int .i64 room, .bool full] 35)).alloc (.cells #[.int .i64 3, .int .i64 n, .string t, .int .u8 c] 37)).alloc (.cells #[.string { data := #[] }, .int .i64 0, .bool false] 35)))
      have hre := Rest.of_below hbel
      replace hbel := hbel.mono (Nat.le_trans HLT.out.1 (Nat.le_of_lt HLT.out.2))
      have hI := ((HB.out.al (.cells #[.string s, .int .i64 room, .bool full] 35)).al (.cells #[.int .i64 3, .int .i64 n, .string t, .int .u8 c] 37)).al (.cells #[.string { data := #[] }, .int .i64 0, .bool false] 35)
      generalize ((w.alloc (.cells #[.string s, .int .i64 room, .bool full] 35)).alloc (.cells #[.int .i64 3, .int .i64 n, .string t, .int .u8 c] 37)).alloc (.cells #[.string { data := #[] }, .int .i64 0, .bool false] 35) = W0 at hX hO hR hI hbel hre ⊢
      have HI := Aside0.mk hI
      have hI1 : IsBuf W0.drew base g (bytesOf s) room full := hI.drawn 1
      have HI1 := Aside0.mk hI1
      have HBEL := Aside0.mk hbel
      have HE0 := Aside0.mk hre
      have cO := blk_cell hO 1
      have cX0 := blk_cell hX 0
      have cX1 := blk_cell hX 1
      have cX2 := blk_cell hX 2
      simp at cO cX0 cX1 cX2
      have HX := Aside0.mk hX
      have HRB := Aside0.mk hR
      clear hX hO hR hI hI1 hbel hre
      go_region_with (go_at_call 17; refine (HP.out _ HI1.out).mono ?_; rintro e w2 ⟨rfl, hI2, hb2, hr2⟩; have hX2 := hr2 _ _ _ (blk_drew HX.out) (by decide) (by decide); have hR2 := hr2 _ _ _ (blk_drew HRB.out) (by decide) (by decide); have d0 := blk_cell hX2 0; have d1 := blk_cell hX2 1; have d2 := blk_cell hX2 2; have e0 := blk_cell hR2 0; have e1 := blk_cell hR2 1; have e2 := blk_cell hR2 2; have f0 := blk_frozen hR2 0; have f1 := blk_frozen hR2 1; have f2 := blk_frozen hR2 2; simp at d0 d1 d2 e0 e1 e2 f0 f1 f2; have HI2 := Aside0.mk hI2; have HR2 := Aside0.mk hR2; have HB2 := Aside0.mk hb2; have HE2 := Aside0.mk hr2; clear hI2 hb2 hr2 hX2 hR2)
      all_goals go_wp2
      all_goals obtain ⟨g0, g1, g2, hI3, hB3, hE3⟩ := filled (s := s) (f := full) HR2.out HI2.out (by have := HLT.out; omega) _ rfl
      all_goals refine bodyPost_ret (v := .tuple #[.agg #[.string s, .int .i64 room, .bool full], .bool true]) ?_ rfl ⟨rfl, hI3, (below_drew HBEL.out).trans (HB2.out.trans hB3), hE3 w (by omega) (HE0.out.trans HE2.out)⟩
      all_goals simp [results, Try.results13, go_sem, g0, g1, g2]
    · rw [if_neg (by omega)]
      obtain ⟨m, rfl⟩ : ∃ m : Nat, n = (m : Int) := ⟨n.toNat, by omega⟩
      have HP := Aside0.mk (fun w (h : IsBuf w base g (bytesOf s) room full) => cut_yes2 g (bytesOf s) room full base w m h (by omega))
      rw [show ((bytesOf s).take m) = bytesOf (s.extract 0 m) by rw [By.bytes_extract]; simp] at HP
      rw [show ((m : Int)).toNat = m by omega]
      clear HPN eL
      go_enter Try.func13, Try.ntmps13
      go_wp2
      obtain ⟨hbel, hX, hO, hR, hlt1⟩ := boxes3 (Below.refl _ (((w.alloc (.cells #[.string (s.extract 0 m), .int .i64 room, .bool full] 35)).alloc (.cells #[.int .i64 3, .int .i64 m, .string t, .int .u8 c] 37)).alloc (.cells #[.string { data := #[] }, .int .i64 0, .bool false] 35)))
      have hre := Rest.of_below hbel
      replace hbel := hbel.mono (Nat.le_trans HLT.out.1 (Nat.le_of_lt HLT.out.2))
      have hI := ((HB.out.al (.cells #[.string (s.extract 0 m), .int .i64 room, .bool full] 35)).al (.cells #[.int .i64 3, .int .i64 m, .string t, .int .u8 c] 37)).al (.cells #[.string { data := #[] }, .int .i64 0, .bool false] 35)
      generalize ((w.alloc (.cells #[.string (s.extract 0 m), .int .i64 room, .bool full] 35)).alloc (.cells #[.int .i64 3, .int .i64 m, .string t, .int .u8 c] 37)).alloc (.cells #[.string { data := #[] }, .int .i64 0, .bool false] 35) = W0 at hX hO hR hI hbel hre ⊢
      have HI := Aside0.mk hI
      have hI1 : IsBuf W0.drew base g (bytesOf s) room full := hI.drawn 1
      have HI1 := Aside0.mk hI1
      have HBEL := Aside0.mk hbel
      have HE0 := Aside0.mk hre
      have cO := blk_cell hO 1
      have cX0 := blk_cell hX 0
      have cX1 := blk_cell hX 1
      have cX2 := blk_cell hX 2
      simp at cO cX0 cX1 cX2
      have HX := Aside0.mk hX
      have HRB := Aside0.mk hR
      clear hX hO hR hI hI1 hbel hre
      go_region_with (go_at_call 17; refine (HP.out _ HI1.out).mono ?_; rintro e w2 ⟨rfl, hI2, hb2, hr2⟩; have hX2 := hr2 _ _ _ (blk_drew HX.out) (by decide) (by decide); have hR2 := hr2 _ _ _ (blk_drew HRB.out) (by decide) (by decide); have d0 := blk_cell hX2 0; have d1 := blk_cell hX2 1; have d2 := blk_cell hX2 2; have e0 := blk_cell hR2 0; have e1 := blk_cell hR2 1; have e2 := blk_cell hR2 2; have f0 := blk_frozen hR2 0; have f1 := blk_frozen hR2 1; have f2 := blk_frozen hR2 2; simp at d0 d1 d2 e0 e1 e2 f0 f1 f2; have HI2 := Aside0.mk hI2; have HR2 := Aside0.mk hR2; have HB2 := Aside0.mk hb2; have HE2 := Aside0.mk hr2; clear hI2 hb2 hr2 hX2 hR2)
      all_goals go_wp2
      all_goals obtain ⟨g0, g1, g2, hI3, hB3, hE3⟩ := filled (s := s.extract 0 m) (f := full) HR2.out HI2.out (by have := HLT.out; omega) _ rfl
      all_goals refine bodyPost_ret (v := .tuple #[.agg #[.string (s.extract 0 m), .int .i64 room, .bool full], .bool true]) ?_ rfl ⟨rfl, hI3, (below_drew HBEL.out).trans (HB2.out.trans hB3), hE3 w (by omega) (HE0.out.trans HE2.out)⟩
      all_goals simp [results, Try.results13, go_sem, g0, g1, g2]
theorem step_calls (g : Nat) (room : Int) (full : Bool) (base : Nat) (w : World) (kind n c : Int) (s t : ByteArray) (hB : IsBuf w base g (bytesOf s) room full) (h0 : s.size ≤ 1048576) (h1 : 0 ≤ room) (h2 : room ≤ 1048576) (ht : t.size ≤ 200) (hc1 : 0 ≤ c) (hc2 : c ≤ 255) :
    Calls Try.prog 13 #[.pointer (some ⟨g, 0, none⟩), .agg #[.string s, .int .i64 room, .bool full], .agg #[.int .i64 kind, .int .i64 n, .string t, .int .u8 c]] w fun e w' =>
      e = .returned (.tuple #[.agg #[.string (stepS s room full kind n t c), .int .i64 room, .bool (stepF s room full kind t)], .bool true]) ∧ IsBuf w' base g (bytesOf (stepS s room full kind n t c)) room (stepF s room full kind t) ∧ Below base w w' ∧ Rest w w' := by
  by_cases k1 : kind = 1
  · subst k1; exact step_put g room full base w n c s t hB h0 h1 h2 ht
  · by_cases k2 : kind = 2
    · subst k2; exact step_byte g room full base w n c s t hB h0 h1 h2 hc1 hc2
    · by_cases k3 : kind = 3
      · subst k3; exact step_cut g room full base w n c s t hB h0
      · by_cases k4 : kind = 4
        · subst k4; exact step_clear g room full base w n c s t hB
        · have e1 : stepS s room full kind n t c = s := by unfold stepS; rw [if_neg k1, if_neg k2, if_neg k3, if_neg k4]
          have e2 : stepF s room full kind t = full := by unfold stepF; rw [if_neg k1, if_neg k2, if_neg k3, if_neg k4]
          rw [e1, e2]
          exact step_other g room full base w kind n c s t hB k1 k2 k3 k4
/-- What both hold still fits. -/
theorem step_fits (s : ByteArray) (room : Int) (full : Bool) (kind n c : Int) (t : ByteArray) (h : (s.size : Int) ≤ room) (h1 : 0 ≤ room) : ((stepS s room full kind n t c).size : Int) ≤ room := by
  have hsz1 : (strOfNums [c]).size = 1 := strOfNums_size _
  unfold stepS
  split
  · split
    · rename_i h2
      unfold putOk at h2
      rw [bytesOf_length] at h2
      simp at h2
      rw [ByteArray.size_append]
      omega
    · exact h
  · split
    · split
      · rename_i h2
        unfold putOk at h2
        rw [bytesOf_length] at h2
        simp at h2
        rw [ByteArray.size_append]
        omega
      · exact h
    · split
      · split
        · exact h
        · rw [ByteArray.size_extract]; omega
      · split
        · exact h1
        · exact h
end Go.Proofs.Ytcpkmidgpbhpkaa.Buf
