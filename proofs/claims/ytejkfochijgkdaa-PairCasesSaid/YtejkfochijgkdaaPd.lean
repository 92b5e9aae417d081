/- The document's Down, Excluded, Up, Second over a table. -/
import Derived.Test.YtejkfochijgkdaaPt
namespace Go.Proofs.Ytejkfochijgkdaa.Pt
open Go.RowKit Go.Proofs.YtejkfochijgkdaaW.PrintWords Go.Proofs.YtejkfochijgkdaaW.PrintLast Go.Proofs.YtejkfochijgkdaaW.PrintMore
set_option linter.unusedVariables false
set_option linter.unusedSimpArgs false
def rDown : List T3 → Int → Int × Int × Int
  | [], _ => (0, 0, 0)
  | x :: t, r => if x.1 = r then (if x.2.2 = 0 then (x.2.1, 0, 1) else (x.2.1, x.2.2, 2)) else rDown t r
def rExcl (l : List T3) (r : Int) : Bool := (rDown l r).2.2 == 1 || r == 836 || (decide (2392 ≤ r) && decide (r ≤ 2399))
def rUp (all : List T3) : List T3 → Int → Int → Int
  | [], _, _ => -1
  | x :: t, a, b => if x.2.1 = a ∧ x.2.2 = b ∧ b ≠ 0 ∧ rExcl all x.1 = false then x.1 else rUp all t a b
def rSec (all : List T3) : List T3 → Int → Bool
  | [], _ => false
  | x :: t, r => if x.2.2 = r ∧ r ≠ 0 ∧ rExcl all x.1 = false then true else rSec all t r
theorem drop_rd (xs : List T3) (j : Nat) (h : j < xs.length) : xs.drop j = rd53 xs (j : Int) :: xs.drop (j + 1) := by
  rw [List.drop_eq_getElem_cons h]
  unfold rd53
  rw [Int.toNat_natCast, List.getD_eq_getElem?_getD, List.getElem?_eq_getElem h]
  rfl
theorem nx {j n : Nat} (h : j < n) (hn : n ≤ 100000) : Value.int .i64 (wrap64 ((j : Int) + 1)) = .int .i64 ((j + 1 : Nat) : Int) := by
  congr 1
  unfold wrap64
  omega
set_option maxHeartbeats 4000000 in
theorem rdown_calls (w : World) (A : Option Addr) (c : Nat) (xs : List T3) (h : Kd.C k53 w A xs.length xs) (hm : xs.length ≤ 100000) (r : Int) :
    Calls Try.prog 18 #[.slice A xs.length c, .int .i64 r] w fun e w' => e = .returned (.tuple #[.agg #[.int .i64 (rDown xs r).1, .int .i64 (rDown xs r).2.1], .int .i64 (rDown xs r).2.2]) ∧ Below w.heap.size w w' := by
  have HC := Aside0.mk h
  have HM := Aside0.mk hm
  obtain ⟨Fin, hF⟩ : ∃ f, f = rDown xs r := ⟨_, rfl⟩
  rw [← hF]
  have HF := Aside0.mk hF
  clear h hm hF
  go_enter Try.func18, Try.ntmps18
  go_wp2
  go_loopg [6] (xs.length + 1) (fun kq v6 wr => ∃ (j : Nat), v6 = .int .i64 (j : Int) ∧ Aside0 (wr = w.alloc (.cells #[.int .i64 0, .int .i64 0] 41) ∧ j + kq = xs.length + 1 ∧ j ≤ xs.length ∧ rDown (xs.drop j) r = Fin))
  case atStart => exact ⟨0, rfl, ⟨rfl, by omega, by omega, HF.out.symm⟩⟩
  case round =>
    obtain ⟨j, rfl, HI⟩ := hrel
    obtain rfl := HI.out.1
    have hj := HI.out.2.2.1
    have hblk : (w.alloc (.cells #[.int .i64 0, .int .i64 0] 41)).heap[w.heap.size]? = some (.cells #[.int .i64 0, .int .i64 0] 41) := blk_new w _
    have hba : Below w.heap.size w (w.alloc (.cells #[.int .i64 0, .int .i64 0] 41)) := below_alloc (Below.refl _ _) _
    by_cases hl : j < xs.length
    · have q1 : decide ((j : Int) < (xs.length : Int)) = true := decide_eq_true (by omega)
      obtain ⟨ad, hA, hx0, hx1, hx2⟩ := at53 HC.out (j : Int) (by omega) (by omega)
      cases hA
      rw [Int.toNat_natCast] at hx0 hx1 hx2
      replace hx0 := (hba.cell (World.block_lt_of_cell? w _ hx0)).trans hx0
      replace hx1 := (hba.cell (World.block_lt_of_cell? w _ hx1)).trans hx1
      replace hx2 := (hba.cell (World.block_lt_of_cell? w _ hx2)).trans hx2
      have hd := HI.out.2.2.2
      rw [drop_rd xs j hl, rDown] at hd
      have p1 : (0 ≤ (j : Int)) = True := eq_true (by omega)
      have p2 : ((j : Int) < (xs.length : Int)) = True := eq_true (by omega)
      have f0 := blk_frozen hblk 0
      have f1 := blk_frozen hblk 1
      have c0 := blk_cell hblk 0
      have c1 := blk_cell hblk 1
      generalize hy : rd53 xs (j : Int) = y at hd hx0 hx1 hx2
      obtain ⟨x, a, b⟩ := y
      simp only at hd hx0 hx1 hx2
      have HBA := Aside0.mk hba
      have HL := Aside0.mk hl
      clear hy hba hblk hl hj
      by_cases hr : x = r
      · subst hr
        rw [if_pos rfl] at hd
        by_cases hb : b = 0
        · subst hb
          rw [if_pos rfl] at hd
          subst hd
          go_wp2
          (try simp only [Exit.inBlock, Exit.then]); refine bodyPost_ret (results_ct rfl _ _ w.heap.size 41 _ _ _ rfl (blk_new w _) Try.underlying41 rfl (by kernel_rfl)) rfl ⟨rfl, by repeat (first | exact Below.refl _ _ | apply pw_below_drewN | apply below_drew1 | apply below_alloc)⟩
        · rw [if_neg hb] at hd
          subst hd
          have e : (b == 0) = false := beq_eq_false_iff_ne.2 hb
          go_wp2
          go_region
          go_wp2
          (try simp only [Exit.inBlock, Exit.then]); refine bodyPost_ret (results_ct rfl _ _ w.heap.size 41 _ _ _ rfl (blk_new w _) Try.underlying41 rfl (by kernel_rfl)) rfl ⟨rfl, by repeat (first | exact Below.refl _ _ | apply pw_below_drewN | apply below_drew1 | apply below_alloc)⟩
      · rw [if_neg hr] at hd
        have e : (x == r) = false := beq_eq_false_iff_ne.2 hr
        have HD := Aside0.mk hd
        clear hd
        go_wp2
        cases gk with
        | zero => have := HI.out.2.1; have := HL.out; omega
        | succ q =>
        go_roundg q
        case measure => omega
        case rel => exact ⟨j + 1, nx HL.out HM.out, ⟨rfl, by have := HI.out.2.1; omega, by have := HL.out; omega, HD.out⟩⟩
    · have q1 : decide ((j : Int) < (xs.length : Int)) = false := decide_eq_false (by omega)
      have hd := HI.out.2.2.2
      rw [List.drop_eq_nil_of_le (by omega), rDown] at hd
      subst hd
      have f0 := blk_frozen hblk 0
      have f1 := blk_frozen hblk 1
      have c0 := blk_cell hblk 0
      have c1 := blk_cell hblk 1
      go_wp2
      (try simp only [Exit.inBlock, Exit.then]); refine bodyPost_ret (results_ct rfl _ _ w.heap.size 41 _ _ _ rfl (blk_new w _) Try.underlying41 rfl (by kernel_rfl)) rfl ⟨rfl, by repeat (first | exact Below.refl _ _ | apply pw_below_drewN | apply below_drew1 | apply below_alloc)⟩
set_option maxHeartbeats 4000000 in
theorem rexcl_calls (w : World) (A : Option Addr) (c : Nat) (xs : List T3) (h : Kd.C k53 w A xs.length xs) (hm : xs.length ≤ 100000) (r : Int) :
    Calls Try.prog 19 #[.slice A xs.length c, .int .i64 r] w fun e w' => e = .returned (.bool (rExcl xs r)) ∧ Below w.heap.size w w' := by
  have HC := Aside0.mk (rdown_calls w A c xs h hm r)
  unfold rExcl
  obtain ⟨⟨a, b, n⟩, hF⟩ : ∃ f, f = rDown xs r := ⟨_, rfl⟩
  rw [← hF] at HC ⊢
  clear hF h hm
  go_enter Try.func19, Try.ntmps19
  go_wp2_with (go_at_call 18; refine HC.out.mono ?_; rintro e w1 ⟨rfl, hb⟩; have HB := Aside0.mk hb; clear hb)
  repeat (go_quiet (fail); try go_wp2)
  all_goals go_ret
  all_goals refine ⟨?_, below_then HB.out HB.out.size (below_alloc (Below.refl _ _) _)⟩
  all_goals first | rfl | (simp [*]; done) | (simp [*]; omega)
set_option maxHeartbeats 4000000 in
theorem rup_calls (w : World) (A : Option Addr) (c : Nat) (xs : List T3) (h : Kd.C k53 w A xs.length xs) (hm : xs.length ≤ 100000) (a b : Int) :
    Calls Try.prog 11 #[.slice A xs.length c, .int .i64 a, .int .i64 b] w fun e w' => e = .returned (.int .i64 (rUp xs xs a b)) ∧ Below w.heap.size w w' := by
  have HC := Aside0.mk h
  have HX := Aside0.mk (fun (W : World) (hb : Below w.heap.size w W) (x : Int) => rexcl_calls W A c xs (Kd.C_below h hb) hm x)
  have HM := Aside0.mk hm
  obtain ⟨Fin, hF⟩ : ∃ f, f = rUp xs xs a b := ⟨_, rfl⟩
  rw [← hF]
  have HF := Aside0.mk hF
  clear h hm hF
  go_enter Try.func11, Try.ntmps11
  go_wp2
  go_loopg [7] (xs.length + 1) (fun kq v7 wr => ∃ (j : Nat), v7 = .int .i64 (j : Int) ∧ Aside0 (Below w.heap.size w wr ∧ j + kq = xs.length + 1 ∧ j ≤ xs.length ∧ rUp xs (xs.drop j) a b = Fin))
  case atStart => exact ⟨0, rfl, ⟨Below.refl _ _, by omega, by omega, HF.out.symm⟩⟩
  case round =>
    obtain ⟨j, rfl, HI⟩ := hrel
    have hj := HI.out.2.2.1
    have hba := HI.out.1
    by_cases hl : j < xs.length
    · have q1 : decide ((j : Int) < (xs.length : Int)) = true := decide_eq_true (by omega)
      obtain ⟨ad, hA, hx0, hx1, hx2⟩ := at53 HC.out (j : Int) (by omega) (by omega)
      cases hA
      rw [Int.toNat_natCast] at hx0 hx1 hx2
      replace hx0 := (hba.cell (World.block_lt_of_cell? w _ hx0)).trans hx0
      replace hx1 := (hba.cell (World.block_lt_of_cell? w _ hx1)).trans hx1
      replace hx2 := (hba.cell (World.block_lt_of_cell? w _ hx2)).trans hx2
      have hd := HI.out.2.2.2
      rw [drop_rd xs j hl, rUp] at hd
      have p1 : (0 ≤ (j : Int)) = True := eq_true (by omega)
      have p2 : ((j : Int) < (xs.length : Int)) = True := eq_true (by omega)
      have HXJ := Aside0.mk (HX.out wr hba (rd53 xs (j : Int)).1)
      generalize hy : rd53 xs (j : Int) = y at hd hx0 hx1 hx2 HXJ
      obtain ⟨x, a', b'⟩ := y
      simp only at hd hx0 hx1 hx2 HXJ
      have HBA := Aside0.mk hba
      have HL := Aside0.mk hl
      clear hy hba hl hj
      by_cases h1 : a' = a
      · subst h1
        by_cases h2 : b' = b
        · subst h2
          by_cases h3 : b' = 0
          · subst h3
            have HD := Aside0.mk ((if_neg (fun h => h.2.2.1 rfl)).symm.trans hd)
            clear hd HXJ
            go_wp2
            cases gk with
            | zero => have := HI.out.2.1; have := HL.out; omega
            | succ q =>
            go_roundg q
            case measure => omega
            case rel => exact ⟨j + 1, nx HL.out HM.out, ⟨HBA.out, by have := HI.out.2.1; omega, by have := HL.out; omega, HD.out⟩⟩
          · have e3 : (b' != 0) = true := bne_iff_ne.2 h3
            cases hx : rExcl xs x with
            | true =>
              have HD := Aside0.mk ((if_neg (fun h => by rw [hx] at h; exact absurd h.2.2.2 (by decide))).symm.trans hd)
              rw [hx] at HXJ
              clear hd hx h3
              go_wp2_with (go_at_call 19; refine HXJ.out.mono ?_; rintro e w1 ⟨rfl, hb⟩; replace hx0 := (hb.cell (World.block_lt_of_cell? _ _ hx0)).trans hx0; have HB := Aside0.mk (below_then HBA.out HBA.out.size hb); clear hb)
              cases gk with
              | zero => have := HI.out.2.1; have := HL.out; omega
              | succ q =>
              go_roundg q
              case measure => omega
              case rel => exact ⟨j + 1, nx HL.out HM.out, ⟨HB.out, by have := HI.out.2.1; omega, by have := HL.out; omega, HD.out⟩⟩
            | false =>
              rw [if_pos ⟨rfl, rfl, h3, hx⟩] at hd
              rw [hx] at HXJ
              subst hd
              clear hx h3
              go_wp2_with (go_at_call 19; refine HXJ.out.mono ?_; rintro e w1 ⟨rfl, hb⟩; replace hx0 := (hb.cell (World.block_lt_of_cell? _ _ hx0)).trans hx0; have HB := Aside0.mk (below_then HBA.out HBA.out.size hb); clear hb)
              go_ret
              exact ⟨rfl, HB.out⟩
        · have e2 : (b' == b) = false := beq_eq_false_iff_ne.2 h2
          have HD := Aside0.mk ((if_neg (fun h => h2 h.2.1)).symm.trans hd)
          clear hd HXJ h2
          go_wp2
          cases gk with
          | zero => have := HI.out.2.1; have := HL.out; omega
          | succ q =>
          go_roundg q
          case measure => omega
          case rel => exact ⟨j + 1, nx HL.out HM.out, ⟨HBA.out, by have := HI.out.2.1; omega, by have := HL.out; omega, HD.out⟩⟩
      · have e1 : (a' == a) = false := beq_eq_false_iff_ne.2 h1
        have HD := Aside0.mk ((if_neg (fun h => h1 h.1)).symm.trans hd)
        clear hd HXJ h1
        go_wp2
        cases gk with
        | zero => have := HI.out.2.1; have := HL.out; omega
        | succ q =>
        go_roundg q
        case measure => omega
        case rel => exact ⟨j + 1, nx HL.out HM.out, ⟨HBA.out, by have := HI.out.2.1; omega, by have := HL.out; omega, HD.out⟩⟩
    · have q1 : decide ((j : Int) < (xs.length : Int)) = false := decide_eq_false (by omega)
      have hd := HI.out.2.2.2
      rw [List.drop_eq_nil_of_le (by omega), rUp] at hd
      subst hd
      go_wp2
      go_ret
      exact ⟨rfl, HI.out.1⟩
set_option maxHeartbeats 4000000 in
theorem rsec_calls (w : World) (A : Option Addr) (c : Nat) (xs : List T3) (h : Kd.C k53 w A xs.length xs) (hm : xs.length ≤ 100000) (a : Int) :
    Calls Try.prog 21 #[.slice A xs.length c, .int .i64 a] w fun e w' => e = .returned (.bool (rSec xs xs a)) ∧ Below w.heap.size w w' := by
  have HC := Aside0.mk h
  have HX := Aside0.mk (fun (W : World) (hb : Below w.heap.size w W) (x : Int) => rexcl_calls W A c xs (Kd.C_below h hb) hm x)
  have HM := Aside0.mk hm
  obtain ⟨Fin, hF⟩ : ∃ f, f = rSec xs xs a := ⟨_, rfl⟩
  rw [← hF]
  have HF := Aside0.mk hF
  clear h hm hF
  go_enter Try.func21, Try.ntmps21
  go_wp2
  go_loopg [5] (xs.length + 1) (fun kq v5 wr => ∃ (j : Nat), v5 = .int .i64 (j : Int) ∧ Aside0 (Below w.heap.size w wr ∧ j + kq = xs.length + 1 ∧ j ≤ xs.length ∧ rSec xs (xs.drop j) a = Fin))
  case atStart => exact ⟨0, rfl, ⟨Below.refl _ _, by omega, by omega, HF.out.symm⟩⟩
  case round =>
    obtain ⟨j, rfl, HI⟩ := hrel
    have hj := HI.out.2.2.1
    have hba := HI.out.1
    by_cases hl : j < xs.length
    · have q1 : decide ((j : Int) < (xs.length : Int)) = true := decide_eq_true (by omega)
      obtain ⟨ad, hA, hx0, hx1, hx2⟩ := at53 HC.out (j : Int) (by omega) (by omega)
      cases hA
      rw [Int.toNat_natCast] at hx0 hx1 hx2
      replace hx0 := (hba.cell (World.block_lt_of_cell? w _ hx0)).trans hx0
      replace hx1 := (hba.cell (World.block_lt_of_cell? w _ hx1)).trans hx1
      replace hx2 := (hba.cell (World.block_lt_of_cell? w _ hx2)).trans hx2
      have hd := HI.out.2.2.2
      rw [drop_rd xs j hl, rSec] at hd
      have p1 : (0 ≤ (j : Int)) = True := eq_true (by omega)
      have p2 : ((j : Int) < (xs.length : Int)) = True := eq_true (by omega)
      have HXJ := Aside0.mk (HX.out wr hba (rd53 xs (j : Int)).1)
      generalize hy : rd53 xs (j : Int) = y at hd hx0 hx1 hx2 HXJ
      obtain ⟨x, a', b'⟩ := y
      simp only at hd hx0 hx1 hx2 HXJ
      have HBA := Aside0.mk hba
      have HL := Aside0.mk hl
      clear hy hba hl hj
      by_cases h2 : b' = a
      · subst h2
        by_cases h3 : b' = 0
        · subst h3
          have HD := Aside0.mk ((if_neg (fun h => h.2.1 rfl)).symm.trans hd)
          clear hd HXJ
          go_wp2
          cases gk with
          | zero => have := HI.out.2.1; have := HL.out; omega
          | succ q =>
          go_roundg q
          case measure => omega
          case rel => exact ⟨j + 1, nx HL.out HM.out, ⟨HBA.out, by have := HI.out.2.1; omega, by have := HL.out; omega, HD.out⟩⟩
        · have e3 : (b' != 0) = true := bne_iff_ne.2 h3
          cases hx : rExcl xs x with
          | true =>
            have HD := Aside0.mk ((if_neg (fun h => by rw [hx] at h; exact absurd h.2.2 (by decide))).symm.trans hd)
            rw [hx] at HXJ
            clear hd hx h3
            go_wp2_with (go_at_call 19; refine HXJ.out.mono ?_; rintro e w1 ⟨rfl, hb⟩; have HB := Aside0.mk (below_then HBA.out HBA.out.size hb); clear hb)
            cases gk with
            | zero => have := HI.out.2.1; have := HL.out; omega
            | succ q =>
            go_roundg q
            case measure => omega
            case rel => exact ⟨j + 1, nx HL.out HM.out, ⟨HB.out, by have := HI.out.2.1; omega, by have := HL.out; omega, HD.out⟩⟩
          | false =>
            rw [if_pos ⟨rfl, h3, hx⟩] at hd
            rw [hx] at HXJ
            subst hd
            clear hx h3
            go_wp2_with (go_at_call 19; refine HXJ.out.mono ?_; rintro e w1 ⟨rfl, hb⟩; have HB := Aside0.mk (below_then HBA.out HBA.out.size hb); clear hb)
            go_ret
            exact ⟨rfl, HB.out⟩
      · have e2 : (b' == a) = false := beq_eq_false_iff_ne.2 h2
        have HD := Aside0.mk ((if_neg (fun h => h2 h.1)).symm.trans hd)
        clear hd HXJ h2
        go_wp2
        cases gk with
        | zero => have := HI.out.2.1; have := HL.out; omega
        | succ q =>
        go_roundg q
        case measure => omega
        case rel => exact ⟨j + 1, nx HL.out HM.out, ⟨HBA.out, by have := HI.out.2.1; omega, by have := HL.out; omega, HD.out⟩⟩
    · have q1 : decide ((j : Int) < (xs.length : Int)) = false := decide_eq_false (by omega)
      have hd := HI.out.2.2.2
      rw [List.drop_eq_nil_of_le (by omega), rSec] at hd
      subst hd
      go_wp2
      go_ret
      exact ⟨rfl, HI.out.1⟩
end Go.Proofs.Ytejkfochijgkdaa.Pt
