/- The walk of the law BufferPlays: true at every room and every sequence of calls. Condition: the calls' texts are within the form's reach. -/
import Derived.Test.YtcpkmidgpbhpkaaStep
import Derived.OpenShut
import Derived.Deep.DeepCutAuto
namespace Go.Proofs.Ytcpkmidgpbhpkaa.Buf
open Go.RowKit Go.Proofs.Ytcpkmidgpbhpkaa.Own Go.Proofs.YtcpkmidgpbhpkaaW.PrintWords Go.Proofs.YtcpkmidgpbhpkaaW.PrintLast Go.Proofs.YtcpkmidgpbhpkaaW.PrintMore
set_option linter.unusedVariables false
/-- A call, as it lies in a slice. -/
structure OpAt (w : World) (x : Addr) (kind n : Int) (t : ByteArray) (c : Int) : Prop where
  spot : x.spot = none
  c0 : w.cell? ⟨x.block, x.off, none⟩ = some (.int .i64 kind)
  c1 : w.cell? ⟨x.block, x.off + 1, none⟩ = some (.int .i64 n)
  c2 : w.cell? ⟨x.block, x.off + 2, none⟩ = some (.string t)
  c3 : w.cell? ⟨x.block, x.off + 3, none⟩ = some (.int .u8 c)
  ht : t.size ≤ 9223372036854775807
  hc : 0 ≤ c ∧ c ≤ 255
theorem OpAt.below {w w1 : World} {x : Addr} {kind n : Int} {t : ByteArray} {c : Int} (h : OpAt w x kind n t c) (hb : Below w.heap.size w w1) : OpAt w1 x kind n t c :=
  ⟨h.spot, pw_cell_below hb h.c0, pw_cell_below hb h.c1, pw_cell_below hb h.c2, pw_cell_below hb h.c3, h.ht, h.hc⟩
/-- The world behind a call of both: the document's old state at bX, its new one at bY. -/
structure Now (w0 W : World) (bX bY g : Nat) (s s2 : ByteArray) (room : Int) (full full2 : Bool) : Prop where
  x : W.heap[bX]? = some (.cells #[.string s, .int .i64 room, .bool full] 35 (0, 0))
  y : W.heap[bY]? = some (.cells #[.string s2, .int .i64 room, .bool full2] 35 (0, 0))
  I : IsBuf W g g (bytesOf s2) room full2
  B : Below g w0 W
  ne : bX ≠ bY
  ge : g ≤ bX
theorem Now.alloc {w0 w2 : World} {bX g : Nat} {s s2 : ByteArray} {room : Int} {full full2 : Bool} (hX : w2.heap[bX]? = some (.cells #[.string s, .int .i64 room, .bool full] 35 (0, 0))) (hI : IsBuf w2 g g (bytesOf s2) room full2) (hB : Below g w0 w2) (hg : g ≤ bX) :
    Now w0 (w2.alloc (.cells #[.string s2, .int .i64 room, .bool full2] 35)) bX w2.heap.size g s s2 room full full2 :=
  ⟨blk_alloc hX _, blk_new _ _, hI.al _, hB.alloc (Nat.le_of_lt hI.lt.2) _, Nat.ne_of_lt (blk_lt hX), hg⟩
theorem Now.put {w0 w2 : World} {bX bY g : Nat} {s s2 : ByteArray} {a b c : Value} {room : Int} {full full2 : Bool} (hX : w2.heap[bX]? = some (.cells #[.string s, .int .i64 room, .bool full] 35 (0, 0))) (hY : w2.heap[bY]? = some (.cells #[a, b, c] 35 (0, 0))) (hI : IsBuf w2 g g (bytesOf s2) room full2) (hB : Below g w0 w2) (hne : bX ≠ bY) (hg : g ≤ bX) (hgY : g ≤ bY) :
    Now w0 (((w2.setCell ⟨bY, 0, none⟩ (.string s2)).setCell ⟨bY, 1, none⟩ (.int .i64 room)).setCell ⟨bY, 2, none⟩ (.bool full2)) bX bY g s s2 room full full2 := by
  have h1 := blk_put hY 0 (.string s2) rfl
  have h2 := blk_put h1 1 (.int .i64 room) rfl
  have h3 := blk_put h2 2 (.bool full2) rfl
  exact ⟨blk_far (blk_far (blk_far hX hne _) hne _) hne _, h3, ((hI.far hY 0 _).far h1 1 _).far h2 2 _, Below.setCell (Below.setCell (Below.setCell hB hgY _) hgY _) hgY _, hne, hg⟩
theorem Now.cells {w0 W : World} {bX bY g : Nat} {s s2 : ByteArray} {room : Int} {full full2 : Bool} (h : Now w0 W bX bY g s s2 room full full2) :
    W.cell? ⟨bY, 0, none⟩ = some (.string s2) ∧ W.cell? ⟨bY, 1, none⟩ = some (.int .i64 room) ∧ W.cell? ⟨bY, 2, none⟩ = some (.bool full2) ∧ W.cell? ⟨bX, 0, none⟩ = some (.string s) ∧ W.cell? ⟨bX, 1, none⟩ = some (.int .i64 room) ∧ W.cell? ⟨bX, 2, none⟩ = some (.bool full) ∧
      W.frozen? ⟨bX, 0, none⟩ = false ∧ W.frozen? ⟨bX, 1, none⟩ = false ∧ W.frozen? ⟨bX, 2, none⟩ = false := by
  refine ⟨?_, ?_, ?_, ?_, ?_, ?_, blk_frozen h.x 0, blk_frozen h.x 1, blk_frozen h.x 2⟩
  · rw [blk_cell h.y]; rfl
  · rw [blk_cell h.y]; rfl
  · rw [blk_cell h.y]; rfl
  · rw [blk_cell h.x]; rfl
  · rw [blk_cell h.x]; rfl
  · rw [blk_cell h.x]; rfl
/-- 'x = y'. -/
theorem Now.move {w0 W : World} {bX bY g : Nat} {s s2 : ByteArray} {room : Int} {full full2 : Bool} (h : Now w0 W bX bY g s s2 room full full2) :
    ∀ W', W' = (((W.setCell ⟨bX, 0, none⟩ (.string s2)).setCell ⟨bX, 1, none⟩ (.int .i64 room)).setCell ⟨bX, 2, none⟩ (.bool full2)) →
      W'.heap[bX]? = some (.cells #[.string s2, .int .i64 room, .bool full2] 35 (0, 0)) ∧ IsBuf W' g g (bytesOf s2) room full2 ∧ Below g w0 W' := by
  rintro W' rfl
  have h1 := blk_put h.x 0 (.string s2) rfl
  have h2 := blk_put h1 1 (.int .i64 room) rfl
  have h3 := blk_put h2 2 (.bool full2) rfl
  exact ⟨h3, ((h.I.far h.x 0 _).far h1 1 _).far h2 2 _, Below.setCell (Below.setCell (Below.setCell h.B h.ge _) h.ge _) h.ge _⟩
set_option maxHeartbeats 16000000 in
theorem Plays_walk (room : Int) (A : Option Addr) (len cap : Nat) (w : World) (wr : (Lit.int .i64 room).wf = true) (hR : ∀ j, j < len → ∃ x kind n t c, A = some x ∧ OpAt w (x.add (j * 4)) kind n t c) (hlen : len ≤ 9223372036854775807) :
    Calls Try.prog 5 #[.int .i64 room, .slice A len cap] w fun e w' => e = .returned (.bool true) ∧ Below w.heap.size w w' := by
  have hr := bounds_i64 wr
  have HR := Aside0.mk hR
  clear wr hR
  by_cases h1 : room < 0
  · go_enter Try.func5, Try.ntmps5
    go_wp2_with (first | (go_at_call 6; refine (new_bad room w (.inl h1)).mono ?_; rintro e w1 ⟨rfl, hb1⟩; have Hb1 := Aside0.mk hb1; clear hb1) | (go_at_call 7; refine (awake_calls _).mono ?_; rintro e w2 ⟨rfl, hb2⟩; have Hb2 := Aside0.mk hb2; clear hb2))
    go_ret
    exact ⟨rfl, below_then Hb1.out Hb1.out.size Hb2.out⟩
  · by_cases h2 : 1048576 < room
    · go_enter Try.func5, Try.ntmps5
      go_wp2_with (first | (go_at_call 6; refine (new_bad room w (.inr h2)).mono ?_; rintro e w1 ⟨rfl, hb1⟩; have Hb1 := Aside0.mk hb1; clear hb1) | (go_at_call 7; refine (awake_calls _).mono ?_; rintro e w2 ⟨rfl, hb2⟩; have Hb2 := Aside0.mk hb2; clear hb2))
      go_ret
      exact ⟨rfl, below_then Hb1.out Hb1.out.size Hb2.out⟩
    · go_enter Try.func5, Try.ntmps5
      go_wp2_with (first | (go_at_call 6; refine (new_ok room w (by omega) (by omega)).mono ?_; rintro e w1 ⟨rfl, hB1, hb1⟩; have HB1 := Aside0.mk hB1; have Hb1 := Aside0.mk hb1; clear hB1 hb1))
      have hX := blk_new w1 (.cells #[.string { data := #[] }, .int .i64 room, .bool false] 35)
      have hI := HB1.out.al (.cells #[.string { data := #[] }, .int .i64 room, .bool false] 35)
      have hB := Hb1.out.alloc Hb1.out.size (.cells #[.string { data := #[] }, .int .i64 room, .bool false] 35)
      have hlt := HB1.out.lt.2
      generalize w1.alloc (.cells #[.string { data := #[] }, .int .i64 room, .bool false] 35) = W0 at hX hI hB ⊢
      generalize w1.heap.size = bX at hX hlt ⊢
      have HX := Aside0.mk hX
      have HI := Aside0.mk hI
      have HBW := Aside0.mk hB
      have HLT := Aside0.mk hlt
      clear hX hI hB hlt HB1 Hb1
      go_loopw [8] (fun v8 wr => ∃ (k : Nat) (s : ByteArray) (full : Bool), v8 = .int .i64 k ∧ Aside0 (k ≤ len ∧ wr.heap[bX]? = some (.cells #[.string s, .int .i64 room, .bool full] 35 (0, 0)) ∧ IsBuf wr w.heap.size w.heap.size (bytesOf s) room full ∧ (s.size : Int) ≤ room ∧ Below w.heap.size w wr)) (fun v8 _ => len - (intOf v8).toNat)
      case atStart => exact ⟨0, ⟨#[]⟩, false, rfl, ⟨Nat.zero_le _, HX.out, HI.out, by show (0 : Int) ≤ room; omega, HBW.out⟩⟩
      case round =>
        obtain ⟨k, s, full, rfl, HV⟩ := hrel
        clear HX HI HBW
        obtain ⟨hk, hX, hI, hs, hB⟩ := HV.out
        by_cases hlt : k < len
        · by_cases h100 : k < 100
          · obtain ⟨x, kind, n, t, c, rfl, hO⟩ := HR.out k hlt
            have hO2 := hO.below hB
            obtain ⟨b, o, hy⟩ : ∃ b o, x.add (k * 4) = ⟨b, o, none⟩ := ⟨_, _, by rw [← hO.spot]⟩
            rw [hy] at hO2
            have c0 := hO2.c0
            have c1 := hO2.c1
            have c2 := hO2.c2
            have c3 := hO2.c3
            have hts := hO2.ht
            have HOO := Aside0.mk hO
            have HC := Aside0.mk hO2.hc
            have HXk := Aside0.mk hX
            have HIk := Aside0.mk hI
            have HBk := Aside0.mk hB
            have HS := Aside0.mk hs
            clear hO hO2 hX hI hB hs HV
            simp only at c0 c1 c2 c3
            by_cases h200 : (200 : Int) < t.size
            · go_wp2_with (first | (go_at_call 7; refine (awake_calls _).mono ?_; rintro e w2 ⟨rfl, hb2⟩; have Hb2 := Aside0.mk hb2; clear hb2))
              go_ret
              exact ⟨rfl, below_then HBk.out HBk.out.size Hb2.out⟩
            · have dx0 := blk_cell HXk.out 0
              have dx1 := blk_cell HXk.out 1
              have dx2 := blk_cell HXk.out 2
              simp at dx0 dx1 dx2
              have HP := Aside0.mk (fun w1 (h : IsBuf w1 w.heap.size w.heap.size (bytesOf s) room full) => step_calls w.heap.size room full w.heap.size w1 kind n c s t h (by have := HS.out; omega) (by omega) (by omega) (by omega) HC.out.1 HC.out.2)
              have hsz2 := step_fits s room full kind n c t HS.out (by omega)
              generalize stepS s room full kind n t c = s2 at HP hsz2
              generalize stepF s room full kind t = full2 at HP
              have HS2 := Aside0.mk hsz2
              have HBA : Below wr.heap.size wr (wr.alloc (.cells #[.string { data := #[] }, .int .i64 0, .bool false] 35)) := below_alloc (Below.refl _ _) _
              have a0 := pw_cell_below HBA c0
              have a1 := pw_cell_below HBA c1
              have a2 := pw_cell_below HBA c2
              have a3 := pw_cell_below HBA c3
              have b0 := pw_cell_below HBA dx0
              have b1 := pw_cell_below HBA dx1
              have b2 := pw_cell_below HBA dx2
              clear HBA
              have hbne : b ≠ wr.heap.size := by
                intro e
                rw [e] at c0
                simp [World.cell?] at c0
              have hXne : bX ≠ wr.heap.size := by
                have := blk_lt HXk.out
                omega
              have HO := Aside0.mk (And.intro c0 (And.intro c1 (And.intro c2 c3)))
              clear hsz2
              go_wp2
              go_cut [9, 10] (fun v9 v10 wc => ∃ bY : Nat, v9 = .pointer (some ⟨bY, 0, none⟩) ∧ v10 = .bool true ∧ Aside0 (Now w wc bX bY w.heap.size s s2 room full full2))
              case first =>
                go_region_with (first | (go_at_call 13; refine (HP.out _ (HIk.out.drawn 1)).mono ?_; rintro e w2 ⟨rfl, hI2, hb2, hr2⟩; have hX2 := hr2 _ _ _ (blk_drew HXk.out) (by decide) (by decide); have e0 := blk_cell hX2 0; have e1 := blk_cell hX2 1; have e2 := blk_cell hX2 2; have f0 := blk_frozen hX2 0; have f1 := blk_frozen hX2 1; have f2 := blk_frozen hX2 2; simp at e0 e1 e2 f0 f1 f2; have HI2 := Aside0.mk hI2; have HX2 := Aside0.mk hX2; have HB2 := Aside0.mk hb2; clear hI2 hb2 hr2 hX2) | (go_at_call 13; refine (HP.out _ ((HIk.out.al (.cells #[.string { data := #[] }, .int .i64 0, .bool false] 35)).drawn 1)).mono ?_; rintro e w2 ⟨rfl, hI2, hb2, hr2⟩; have hX2 := hr2 _ _ _ (blk_drew (blk_alloc HXk.out (.cells #[.string { data := #[] }, .int .i64 0, .bool false] 35))) (by decide) (by decide); have hY2 := hr2 _ _ _ (blk_drew (blk_new wr (.cells #[.string { data := #[] }, .int .i64 0, .bool false] 35))) (by decide) (by decide); have y0 := blk_cell hY2 0; have y1 := blk_cell hY2 1; have y2 := blk_cell hY2 2; have q0 := blk_frozen hY2 0; have q1 := blk_frozen hY2 1; have q2 := blk_frozen hY2 2; simp at y0 y1 y2 q0 q1 q2; have HY2 := Aside0.mk hY2; clear hY2; have e0 := blk_cell hX2 0; have e1 := blk_cell hX2 1; have e2 := blk_cell hX2 2; have f0 := blk_frozen hX2 0; have f1 := blk_frozen hX2 1; have f2 := blk_frozen hX2 2; simp at e0 e1 e2 f0 f1 f2; have HI2 := Aside0.mk hI2; have HX2 := Aside0.mk hX2; have HB2 := Aside0.mk hb2; clear hI2 hb2 hr2 hX2))
                all_goals go_wp2
                all_goals go_meet
                all_goals exact ⟨_, rfl, rfl, ⟨by first | exact Now.alloc HX2.out HI2.out (HBk.out.trans (Below.trans (by first | exact below_drew (Below.refl _ _) | exact below_drew ((Below.refl _ _).alloc (by have := HBk.out.size; omega) _)) HB2.out)) (Nat.le_of_lt HLT.out) | exact Now.put HX2.out HY2.out HI2.out (HBk.out.trans (Below.trans (by first | exact below_drew (Below.refl _ _) | exact below_drew ((Below.refl _ _).alloc (by have := HBk.out.size; omega) _)) HB2.out)) hXne (Nat.le_of_lt HLT.out) (HBk.out.size)⟩⟩
              case rest =>
                obtain ⟨bY, rfl, rfl, HN⟩ := hcut
                clear c0 c1 c2 c3 dx0 dx1 dx2 a0 a1 a2 a3 b0 b1 b2
                obtain ⟨m0, m1, m2, m3, m4, m5, m6, m7, m8⟩ := HN.out.cells
                go_wp2_with fail
                obtain ⟨hX4, hI4, hB4⟩ := HN.out.move _ rfl
                generalize (((wc.setCell ⟨bX, 0, none⟩ (.string s2)).setCell ⟨bX, 1, none⟩ (.int .i64 room)).setCell ⟨bX, 2, none⟩ (.bool full2)) = W4 at hX4 hI4 hB4 ⊢
                have hO4 := HOO.out.below hB4
                rw [hy] at hO4
                have c3 := hO4.c3
                simp only at c3
                have n0 := blk_cell hX4 0
                have n1 := blk_cell hX4 1
                have n2 := blk_cell hX4 2
                simp at n0 n1 n2
                have HX4 := Aside0.mk hX4
                have HI4 := Aside0.mk hI4
                have HB4 := Aside0.mk hB4
                clear hX4 hI4 hB4 hO4 m0 m1 m2 m3 m4 m5 m6 m7 m8 HN
                have HS4 := HS2.out
                have hno : ¬ room < (s2.size : Int) := by omega
                go_cut [86] (fun v86 w5 => v86 = .bool false ∧ Aside0 (Below W4.heap.size W4 w5))
                case first =>
                  go_region_held3 (fun W' => W'.cell? ⟨bX, 0, none⟩ = some (.string s2) ∧ W'.cell? ⟨bX, 1, none⟩ = some (.int .i64 room) ∧ W'.cell? ⟨bX, 2, none⟩ = some (.bool full2) ∧ W'.cell? ⟨b, o + 3, none⟩ = some (.int .u8 c)) (first | exact ⟨n0, n1, n2, c3⟩ | exact ⟨p0, p1, p2, p3⟩) (first | (go_at_call 14; refine (is_calls w.heap.size room full2 w.heap.size _ c s2 (HI4.out.drawn 1) (by omega) (by omega) (by omega)).mono ?_; rintro e w5 ⟨rfl, hb5⟩; have p0 := pw_cell_below hb5 (show W4.drew.cell? ⟨bX, 0, none⟩ = _ from n0); have p1 := pw_cell_below hb5 (show W4.drew.cell? ⟨bX, 1, none⟩ = _ from n1); have p2 := pw_cell_below hb5 (show W4.drew.cell? ⟨bX, 2, none⟩ = _ from n2); have p3 := pw_cell_below hb5 (show W4.drew.cell? ⟨b, o + 3, none⟩ = _ from c3); have hI5 := (HI4.out.drawn 1).below hb5; have HI5 := Aside0.mk hI5; have HB5 := Aside0.mk hb5; clear hb5 hI5) | (go_at_call 11; refine (len_calls _ _ _ _ _ _ HI5.out).mono ?_; rw [bytesOf_length]; rintro e w6 ⟨rfl, ⟨n6, rfl⟩⟩))
                  all_goals go_wp2
                  all_goals go_meet
                  all_goals exact ⟨by simpa using hno, ⟨below_then (below_drew (Below.refl _ _)) (Nat.le_refl _) (pw_below_drewN HB5.out _)⟩⟩
                case rest =>
                  obtain ⟨rfl, HR5⟩ := hcut
                  go_wp2
                  go_roundw
                  case rel => exact ⟨k + 1, s2, full2, by go_num, ⟨by omega, blk_below HX4.out HR5.out, HI4.out.below HR5.out, HS4, below_then HB4.out HB4.out.size HR5.out⟩⟩
                  case measure => simp [intOf]; omega
          · go_wp2_with (first | (go_at_call 7; refine (awake_calls _).mono ?_; rintro e w2 ⟨rfl, hb2⟩; have Hb2 := Aside0.mk hb2; clear hb2))
            go_ret
            exact ⟨rfl, below_then hB hB.size Hb2.out⟩
        · go_wp2_with (first | (go_at_call 7; refine (awake_calls _).mono ?_; rintro e w2 ⟨rfl, hb2⟩; have Hb2 := Aside0.mk hb2; clear hb2))
          go_ret
          exact ⟨rfl, below_then hB hB.size Hb2.out⟩
end Go.Proofs.Ytcpkmidgpbhpkaa.Buf
