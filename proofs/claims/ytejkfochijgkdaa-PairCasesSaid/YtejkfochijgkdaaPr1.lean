/- dev: pair.read of singles -/
import Derived.Test.YtejkfochijgkdaaPrr
namespace Go.Proofs.Ytejkfochijgkdaa.Pr
open Go.RowKit Go.Maps Go.Proofs.Ytejkfochijgkdaa.MapF Go.Proofs.YtejkfochijgkdaaW.PrintWords Go.Proofs.YtejkfochijgkdaaW.PrintLast Go.Proofs.YtejkfochijgkdaaW.PrintMore
set_option linter.unusedVariables false
set_option linter.unusedSimpArgs false
section
variable {w : World} {g b1 b2 b3 m : Nat} {dn : Int → Option (Int × Int)} {up : Int → Int → Option Int} {sec : Int → Option Int}
set_option maxHeartbeats 4000000 in
theorem read1_calls (s : ByteArray) (hs : s.size ≤ 1048576) (c : Nat) (hc : c ≤ 1073741824) (h : Pz w g b1 b2 b3 c m dn up sec) (Fin : S) (hF : finS 1 ⟨0, 0, 0, 0, m, dn, up, sec⟩ s = Fin) :
    Calls Try.prog 23 #[.pointer (some ⟨g, 0, none⟩), .string s, .int .i64 1] w fun e w' => e = .returned (.tuple #[]) ∧ Pz w' g b1 b2 b3 (c + 3 * (s.size + 1)) Fin.m Fin.dn Fin.up Fin.sec ∧ Ke b1 b2 b3 w.heap.size w w' := by
  have hlt := h.lt
  have H := Aside0.mk h
  have HF := Aside0.mk hF
  have HL := Aside0.mk hlt
  clear h hF hlt
  go_enter Try.func23, Try.ntmps23
  go_wp2
  go_loopg [7] (s.size + 1) (fun kq v7 wr => ∃ st pos kk, v7 = .int .i64 kk ∧ Aside0 (kk = (st.k : Int) ∧ RR 1 s w g b1 b2 b3 c Fin st kq pos wr))
  case atStart =>
    have hb : Below w.heap.size w ((w.alloc (.cells #[.int .i32 0, .int .i32 0, .int .i32 0] 63)).iter s 0) := below_alloc (below_alloc (Below.refl _ _) _) _
    refine ⟨⟨0, 0, 0, 0, m, dn, up, sec⟩, 0, 0, rfl, ⟨rfl, ⟨?_, ?_, by omega, ⟨c, H.out.below hb HL.out.1 HL.out.2.1 HL.out.2.2.1 HL.out.2.2.2, by omega⟩, Ke.of_below hb, HF.out, Nat.zero_le _, ?_, ?_, ?_⟩⟩⟩
    · have := World.iter_heap (w.alloc (.cells #[.int .i32 0, .int .i32 0, .int .i32 0] 63)) s 0
      simpa using this
    · exact blk_below (blk_new w _) (below_alloc (Below.refl _ _) _)
    · show (Lit.int .i32 0).wf = true; decide
    · show (Lit.int .i32 0).wf = true; decide
    · show (Lit.int .i32 0).wf = true; decide
  case round =>
    obtain ⟨st, pos, kk, rfl, HI⟩ := hrel
    by_cases hp : pos < s.size
    · cases gk with
      | zero => have := HI.out.2.fuel; omega
      | succ q =>
        have hn := fun ty => Lib.run_next_any_at (P := Try.prog) wr (w.heap.size + 1) s pos ty HI.out.2.it hp
        have hnow : (wr.iterAt (w.heap.size + 1) s (pos + (Utf8.decode s pos).2)).heap[w.heap.size]? = _ := (iter_other _ _ _ _ _ (by omega)).trans HI.out.2.now
        have hk := HI.out.1
        have hkn := HI.out.2.kn
        by_cases hk2 : st.k = 1
        · rw [hk2] at hk
          obtain rfl : kk = 1 := by omega
          have f0 := blk_frozen hnow 1
          have c0 := blk_cell hnow 1
          obtain ⟨W2, hW2⟩ : ∃ W2, W2 = (wr.iterAt (w.heap.size + 1) s (pos + (Utf8.decode s pos).2)).setCell ⟨w.heap.size, 1, none⟩ (.int .i32 ((Utf8.decode s pos).1 : Int)) := ⟨_, rfl⟩
          have hb2 : Below w.heap.size wr W2 := by rw [hW2]; exact (below_iterAt (Below.refl _ _) _ (Nat.le_succ _) _ _).setCell (by simp) _
          have hnow2 : W2.heap[w.heap.size]? = some (.cells #[.int .i32 st.n0, .int .i32 ((Utf8.decode s pos).1 : Int), .int .i32 st.n2] 63) := by
            rw [hW2]; exact (blk_set hnow 1 _).trans rfl
          have hit2 : W2.heap[w.heap.size + 1]? = some (.stringIter s (pos + (Utf8.decode s pos).2)) := by
            rw [hW2, Below.heap_setCell _ _ _ _ (by show w.heap.size + 1 ≠ w.heap.size; omega)]
            exact iter_at _ _ _ _ (blk_lt HI.out.2.it)
          obtain ⟨nn, hpz, hle⟩ := HI.out.2.pz
          have hpz2 := hpz.below hb2 HL.out.1 HL.out.2.1 HL.out.2.2.1 HL.out.2.2.2
          have hmax : nn + 3 < maxLen := by unfold maxLen; omega
          obtain ⟨w3, hrun3, hp3, ht3⟩ := hpz2.drew.store1 (by omega) st.n0 ((Utf8.decode s pos).1 : Int) st.n2 HI.out.2.w0
          have c20 := blk_cell hnow2 0
          have c21 := blk_cell hnow2 1
          have c22 := blk_cell hnow2 2
          have cg := blk_cell hpz2.ps.hd 0
          have hnow4 : w3.heap[w.heap.size]? = _ := (turned_block ht3 w.heap.size (blk_lt hnow2) (by have := HL.out.2.1; omega)).trans hnow2
          have hit4 : w3.heap[w.heap.size + 1]? = _ := (turned_block ht3 (w.heap.size + 1) (blk_lt hit2) (by have := HL.out.2.1; omega)).trans hit2
          have f4 := fun i => blk_frozen hnow4 i
          have c40 := blk_cell hnow4 0
          have c41 := blk_cell hnow4 1
          have c42 := blk_cell hnow4 2
          have HW2 := Aside0.mk hW2
          have HP3 := Aside0.mk hp3
          have HT3 := Aside0.mk ht3
          have HN2 := Aside0.mk hnow2
          have HI2 := Aside0.mk hit2
          have HN3 := Aside0.mk hnow4
          have HI3 := Aside0.mk hit4
          have HB2 := Aside0.mk hb2
          have HK2 := Aside0.mk hk2
          have HLE := Aside0.mk (And.intro hle hmax)
          clear hW2 hp3 ht3 hnow2 hit2 hb2 hk2 hpz hpz2 hle hmax hk hkn hnow hnow4 hit4
          go_wp2
          rw [← HW2.out]
          clear f0 c0 hn
          go_region
          clear c20 c21 c22 cg hrun3
          go_wp2
          have hbz : Below w.heap.size w3 (((w3.setCell ⟨w.heap.size, 0, none⟩ (.int .i32 0)).setCell ⟨w.heap.size, 1, none⟩ (.int .i32 0)).setCell ⟨w.heap.size, 2, none⟩ (.int .i32 0)) :=
            (((Below.refl _ _).setCell (by simp) _).setCell (by simp) _).setCell (by simp) _
          have hke : Ke b1 b2 b3 w.heap.size wr (((w3.setCell ⟨w.heap.size, 0, none⟩ (.int .i32 0)).setCell ⟨w.heap.size, 1, none⟩ (.int .i32 0)).setCell ⟨w.heap.size, 2, none⟩ (.int .i32 0)) :=
            (Ke.of_below HB2.out).trans ((Ke.of_store HT3.out (.inl rfl) (by have := blk_lt HN2.out; omega)).trans (Ke.of_below hbz))
          have HR := Aside0.mk (HI.out.2.after hp (by have := HK2.out; omega) { n0 := 0, n1 := 0, n2 := 0, k := 0, m := if (st.dn st.n0).isSome then st.m else st.m + 1, dn := putD st.dn st.n0 (((Utf8.decode s pos).1 : Int), st.n2), up := st.up, sec := st.sec }
            (by unfold flushS; simp only [setNow, HK2.out]; rfl) _
            (by rw [Below.heap_setCell _ _ _ _ (by show w.heap.size + 1 ≠ w.heap.size; omega), Below.heap_setCell _ _ _ _ (by show w.heap.size + 1 ≠ w.heap.size; omega), Below.heap_setCell _ _ _ _ (by show w.heap.size + 1 ≠ w.heap.size; omega)]; exact HI3.out)
            ((blk_set (blk_set (blk_set HN3.out 0 (.int .i32 0)) 1 (.int .i32 0)) 2 (.int .i32 0)).trans rfl)
            ⟨nn + 1, HP3.out.below hbz HL.out.1 HL.out.2.1 HL.out.2.2.1 HL.out.2.2.2, by have := HLE.out.1; omega⟩ hke)
          go_roundg q
          case measure => omega
          case rel => exact ⟨_, _, _, rfl, ⟨by rw [HR.out.2]; rfl, HR.out.1⟩⟩
        · have HN := Aside0.mk (HI.out.2.next HL.out hp (by omega) (by decide))
          have e : st.k = 0 := by omega
          · rw [e] at HN hk
            obtain rfl : kk = 0 := by omega
            have f0 := blk_frozen hnow 0
            have c0 := blk_cell hnow 0
            clear hnow hk hk2 hkn e
            go_wp2
            go_roundg q
            case measure => omega
            case rel => exact ⟨_, _, _, rfl, ⟨rfl, HN.out⟩⟩
    · have hn := fun ty => Lib.run_next_end_at (P := Try.prog) wr (w.heap.size + 1) s pos ty HI.out.2.it hp
      have hend : st = Fin := by
        have := HI.out.2.fin
        cases gk with
        | zero => exact this
        | succ q => rw [runesF, if_neg hp] at this; exact this
      obtain ⟨nn, hpz, hle⟩ := HI.out.2.pz
      have HE := Aside0.mk (show Pz wr g b1 b2 b3 (c + 3 * (s.size + 1)) Fin.m Fin.dn Fin.up Fin.sec ∧ Ke b1 b2 b3 w.heap.size w wr from ⟨by rw [← hend]; exact hpz.mono (by omega), HI.out.2.ke⟩)
      clear hend hpz hle
      go_wp2
      refine bodyPost_end (v := .tuple #[]) (by simp [results, show Try.f23.results = #[] from rfl]) rfl ?_
      exact ⟨rfl, HE.out⟩
end
end Go.Proofs.Ytejkfochijgkdaa.Pr
