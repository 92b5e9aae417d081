-- SPLICED by sprint.py: out of the kit's printer, with some functions by this session's own texts. No printed file. Lean checks it.
import Derived.Test.YtcfoggglbcmhpaaPAllx0
import Derived.Test.YtcfoggglbcmhpaaPAllx1
import Derived.Test.YtcfoggglbcmhpaaPAllx2
import Derived.Test.YtcfoggglbcmhpaaPAllx3
import Derived.Test.YtcfoggglbcmhpaaPAllx4
import Derived.Test.YtcfoggglbcmhpaaPAllx5
namespace Go.Proofs.Ytcfoggglbcmhpaa.PAll
open Go.RowKit Go.Proofs.YtcfoggglbcmhpaaW.PrintWords Go.Proofs.YtcfoggglbcmhpaaW.PrintLast Go.Proofs.YtcfoggglbcmhpaaW.PrintMore
attribute [local go_sem] max2_int min2_int max_two min_two max_three min_three max_four min_four   -- for this text's walks alone
set_option linter.unusedVariables false
set_option linter.unusedSimpArgs false

/-- Is there a value at place k, and in range? -/
def inr (l : List Int) (k : Nat) (lo hi : Int) : Bool := match l[k]? with
  | some c => decide (lo ≤ c ∧ c ≤ hi)
  | none => false
/-- Of a first byte: how many bytes, and the bounds of the second. -/
def shp (b : Int) : Int × Int × Int :=
  if b < 128 then (1, 0, 0) else if 194 ≤ b ∧ b ≤ 223 then (2, 128, 191) else if b = 224 then (3, 160, 191) else if b = 237 then (3, 128, 159) else if 225 ≤ b ∧ b ≤ 239 then (3, 128, 191)
  else if b = 240 then (4, 144, 191) else if b = 244 then (4, 128, 143) else if 241 ≤ b ∧ b ≤ 243 then (4, 128, 191) else (0, 0, 0)
/-- How many bytes fit one row, and how many that row has. -/
def frontI (l : List Int) : Int × Int :=
  if l = [] then (0, 0) else
    let s := shp (l.getD 0 0)
    if s.1 = 0 then (1, 0) else if s.1 = 1 then (1, 1) else
    if inr l 1 s.2.1 s.2.2 = true then (if s.1 = 2 then (2, 2) else if inr l 2 128 191 = true then (if s.1 = 3 then (3, 3) else if inr l 3 128 191 = true then (4, 4) else (3, 4)) else (2, s.1)) else (1, s.1)
def valI (l : List Int) (n : Int) : Int :=
  if n = 1 then l.getD 0 0 else if n = 2 then (l.getD 0 0 - 192) * 64 + (l.getD 1 0 - 128) else if n = 3 then (l.getD 0 0 - 224) * 4096 + (l.getD 1 0 - 128) * 64 + (l.getD 2 0 - 128)
  else (l.getD 0 0 - 240) * 262144 + (l.getD 1 0 - 128) * 4096 + (l.getD 2 0 - 128) * 64 + (l.getD 3 0 - 128)
/-- What begins a text: the code point, how many bytes, whether it is one. -/
def dec (l : List Int) : Int × Int × Bool := if (frontI l).2 = 0 ∨ (frontI l).1 < (frontI l).2 then (0, (frontI l).1, false) else (valI l (frontI l).2, (frontI l).2, true)

theorem shape_eq : ∀ n : Fin 256, utf_shape.f 6 ((n.val : Nat) : Int) = some (shp (n.val : Nat)) := by decide +kernel
theorem shape_ev (b : Int) (h : 0 ≤ b ∧ b ≤ 255) : Ev (fun k => utf_shape.f k b) (shp b) := by
  have := shape_eq ⟨b.toNat, by omega⟩
  simp only at this
  rw [show ((b.toNat : Nat) : Int) = b by omega] at this
  exact Ev.of (fun k => utf_shape.mono b k) this
theorem shp_bounds (b : Int) : 0 ≤ (shp b).1 ∧ (shp b).1 ≤ 4 := by
  unfold shp
  repeat' split
  all_goals simp
theorem inr_iff (s : ByteArray) (k : Nat) (lo hi : Int) : inr (bytesOf s) k lo hi = true ↔ k < s.size ∧ lo ≤ bt s k ∧ bt s k ≤ hi := by
  unfold inr
  have e : bt s k = (bytesOf s).getD k 0 := by rw [← rd_bytesOf]; rfl
  by_cases h : k < (bytesOf s).length
  · rw [List.getElem?_eq_getElem h]
    have h2 : k < s.size := by rw [← bytesOf_length]; exact h
    rw [e]
    simp [List.getD_eq_getElem?_getD, h, h2]
  · rw [List.getElem?_eq_none (by omega)]
    rw [bytesOf_length] at h
    simp [h]
theorem front_end (s : ByteArray) (n lo hi j : Int) (h : ¬ j < n) : Ev (fun k => utf_front.l0 k s n lo hi j) (j, n) :=
  Ev.step (f := fun _ => some (j, n)) (fun k => by simp only [utf_front.l0]; rw [if_neg h]) (Ev.now _)
theorem front_out (s : ByteArray) (n lo hi : Int) (j : Nat) (h : ¬ inr (bytesOf s) j lo hi = true) (hj : (j : Int) < n) : Ev (fun k => utf_front.l0 k s n lo hi (j : Int)) ((j : Int), n) := by
  rw [inr_iff] at h
  refine Ev.step (f := fun _ => some ((j : Int), n)) (fun k => ?_) (Ev.now _)
  simp only [utf_front.l0]; rw [if_pos hj]
  by_cases h1 : (j : Int) < (s.size : Int)
  · rw [if_pos h1, if_pos (by omega)]
    by_cases h2 : bt s j ≥ lo
    · rw [if_pos h2, if_neg (by omega)]
    · rw [if_neg h2]
  · rw [if_neg h1]
theorem front_in (s : ByteArray) (n lo hi : Int) (j : Nat) (r : Int × Int) (h : inr (bytesOf s) j lo hi = true) (hj : (j : Int) < n) (hn : n ≤ 4) (k : Ev (fun k => utf_front.l0 k s n 128 191 ((j + 1 : Nat) : Int)) r) : Ev (fun k => utf_front.l0 k s n lo hi (j : Int)) r := by
  rw [inr_iff] at h
  refine Ev.step (f := fun k => utf_front.l0 k s n 128 191 ((j + 1 : Nat) : Int)) (fun k => ?_) k
  simp only [utf_front.l0]; rw [if_pos hj, if_pos (by omega), if_pos (by omega), if_pos (by omega), if_pos (by omega), show wrap64 ((j : Int) + 1) = ((j + 1 : Nat) : Int) by unfold wrap64; omega]
theorem front_ev (s : ByteArray) : Ev (fun k => utf_front.f k s) (frontI (bytesOf s)) := by
  unfold utf_front.f frontI
  by_cases h0 : s.size = 0
  · have e : bytesOf s = [] := by rw [← List.length_eq_zero_iff, bytesOf_length]; exact h0
    rw [if_pos e]
    simp only [h0, Int.ofNat_zero, if_true]
    exact Ev.now _
  · have e : ¬ bytesOf s = [] := by rw [← List.length_eq_zero_iff, bytesOf_length]; exact h0
    have h1 : ¬ (s.size : Int) = 0 := by omega
    have h2 : 0 < (s.size : Int) := by omega
    rw [if_neg e]
    simp only [h1, h2, if_false, if_true]
    have eb : (bytesOf s).getD 0 0 = bt s 0 := by rw [← rd_bytesOf]; rfl
    rw [eb]
    have hb := shp_bounds (bt s 0)
    refine Ev.bind (f := fun k p => if p.1 = 0 then some (1, 0) else utf_front.l0 k s p.1 p.2.1 p.2.2 1) (shape_ev _ (bt_range s 0)) ?_
    generalize shp (bt s 0) = p at hb
    by_cases p0 : p.1 = 0
    · simp only [p0, if_true]; exact Ev.now _
    simp only [p0, if_false]
    by_cases p1 : p.1 = 1
    · simp only [p1, if_true]
      exact front_end s 1 _ _ 1 (by omega)
    simp only [p1, if_false]
    by_cases i1 : inr (bytesOf s) 1 p.2.1 p.2.2 = true
    · simp only [i1, if_true]
      refine front_in s p.1 _ _ 1 _ i1 (by omega) (by omega) ?_
      by_cases p2 : p.1 = 2
      · simp only [p2, if_true]; exact front_end s 2 _ _ 2 (by omega)
      simp only [p2, if_false]
      by_cases i2 : inr (bytesOf s) 2 128 191 = true
      · simp only [i2, if_true]
        refine front_in s p.1 _ _ 2 _ i2 (by omega) (by omega) ?_
        by_cases p3 : p.1 = 3
        · simp only [p3, if_true]; exact front_end s 3 _ _ 3 (by omega)
        simp only [p3, if_false]
        have p4 : p.1 = 4 := by omega
        by_cases i3 : inr (bytesOf s) 3 128 191 = true
        · simp only [i3, if_true, p4]
          exact front_in s 4 _ _ 3 _ i3 (by omega) (by omega) (front_end s 4 _ _ _ (by omega))
        · simp only [i3, if_false, p4, Bool.false_eq_true]
          exact front_out s 4 _ _ 3 i3 (by omega)
      · simp only [i2, if_false, Bool.false_eq_true]
        exact front_out s p.1 _ _ 2 i2 (by omega)
    · simp only [i1, if_false, Bool.false_eq_true]
      exact front_out s p.1 _ _ 1 i1 (by omega)
theorem bits_one {x : Int} (h0 : 0 ≤ x) (h1 : x < 128) : wrap32 (Go.bits .and .u8 x 127) = x := by
  have e : Go.bits .and .u8 x 127 = x % 128 := bits_mask .u8 8 (by decide) wraps_u8 7 (by decide) x h0 (by omega)
  rw [e]
  unfold wrap32; omega
theorem w32b {x : Int} (h1 : -2147483648 ≤ x) (h2 : x ≤ 2147483647) : wrap32 x = x := by unfold wrap32; omega
theorem bits_step {m y : Int} (h0 : 0 ≤ m) (h1 : m < 33554432) (hy : 128 ≤ y) (hy2 : y ≤ 191) : Go.bits .or .i32 (wrap32 (m * 64)) (wrap32 (Go.bits .and .u8 y 63)) = m * 64 + (y - 128) := by
  rw [u8_and63 _ (by omega) (by omega), w32b (x := m * 64) (by omega) (by omega), w32b (x := y % 64) (by omega) (by omega), i32_or6 _ _ (by omega) (by omega) (by omega) (by omega) (by omega)]
  omega
/-- The value as the code reckons it. -/
def first2 (x m : Int) : Int := wrap32 (Go.bits .and .u8 x m)
def next6 (m y : Int) : Int := Go.bits .or .i32 (wrap32 (m * 64)) (wrap32 (Go.bits .and .u8 y 63))
theorem next6_eq {m y : Int} (h0 : 0 ≤ m) (h1 : m < 33554432) (hy : 128 ≤ y) (hy2 : y ≤ 191) : next6 m y = m * 64 + (y - 128) := bits_step h0 h1 hy hy2
theorem first2_31 {x : Int} (h0 : 192 ≤ x) (h1 : x < 224) : first2 x 31 = x - 192 := by
  unfold first2; rw [u8_and31 _ (by omega) (by omega), w32b (by omega) (by omega)]; omega
theorem first2_15 {x : Int} (h0 : 224 ≤ x) (h1 : x < 240) : first2 x 15 = x - 224 := by
  unfold first2; rw [u8_and15 _ (by omega) (by omega), w32b (by omega) (by omega)]; omega
theorem first2_7 {x : Int} (h0 : 240 ≤ x) (h1 : x < 248) : first2 x 7 = x - 240 := by
  unfold first2; rw [u8_and7 _ (by omega) (by omega), w32b (by omega) (by omega)]; omega
theorem decode_no (s : ByteArray) (fit all : Int) (k : Nat) (w : World) (H : Aside0 (utf_front.f k s = some (fit, all))) (h : all = 0 ∨ (¬ all = 0 ∧ fit < all)) :
    Calls Try.prog 26 #[.string s] w fun e w' => e = .returned (.tuple #[.int .i32 0, .int .i64 fit, .bool false]) ∧ Below w.heap.size w w' := by
  rcases h with h | ⟨h, h2⟩
  · subst h
    go_enter Try.func26, Try.ntmps26
    go_wp2_with (first | (go_at_call 29; refine (utf_front.calls k s fit 0 _ H.out).mono ?_; rintro e w1 ⟨rfl, hd⟩; have HD := Aside0.mk hd.below; clear hd))
    go_ret3
    exact ⟨rfl, HD.out⟩
  · have hz : (all == 0) = false := by simpa using h
    clear h
    go_enter Try.func26, Try.ntmps26
    go_wp2_with (first | (go_at_call 29; refine (utf_front.calls k s fit all _ H.out).mono ?_; rintro e w1 ⟨rfl, hd⟩; have HD := Aside0.mk hd.below; clear hd))
    go_ret3
    exact ⟨rfl, HD.out⟩
set_option maxHeartbeats 1000000 in
theorem decode_1 (s : ByteArray) (k : Nat) (w : World) (H : Aside0 (utf_front.f k s = some (1, 1))) (q0 : 0 < s.size) (hs : s.size ≤ 140737488355328) :
    Calls Try.prog 26 #[.string s] w fun e w' => e = .returned (.tuple #[.int .i32 (first2 (s[0]'q0).toNat 127), .int .i64 1, .bool true]) ∧ Below w.heap.size w w' := by
  have p0 : (0 : Int) < s.size := by omega
  go_enter Try.func26, Try.ntmps26
  go_wp2_with (first | (go_at_call 29; refine (utf_front.calls k s 1 1 _ H.out).mono ?_; rintro e w1 ⟨rfl, hd⟩; have HD := Aside0.mk hd.below; clear hd))
  go_quiet (fail)
  go_wp2
  refine wp_loop_rounds 1 ?_
  rw [rounds_succ]
  go_wp2
  go_ret3
  exact ⟨rfl, by repeat (first | exact HD.out | apply below_alloc | apply pw_below_drewN)⟩
set_option maxHeartbeats 1000000 in
theorem decode_2 (s : ByteArray) (k : Nat) (w : World) (H : Aside0 (utf_front.f k s = some (2, 2))) (q0 : 0 < s.size) (q1 : 1 < s.size) (hs : s.size ≤ 140737488355328) :
    Calls Try.prog 26 #[.string s] w fun e w' => e = .returned (.tuple #[.int .i32 (next6 (first2 (s[0]'q0).toNat 31) (s[1]'q1).toNat), .int .i64 2, .bool true]) ∧ Below w.heap.size w w' := by
  have p0 : (0 : Int) < s.size := by omega
  have p1 : (1 : Int) < s.size := by omega
  go_enter Try.func26, Try.ntmps26
  go_wp2_with (first | (go_at_call 29; refine (utf_front.calls k s 2 2 _ H.out).mono ?_; rintro e w1 ⟨rfl, hd⟩; have HD := Aside0.mk hd.below; clear hd))
  go_quiet (fail)
  go_wp2
  refine wp_loop_rounds 2 ?_
  rw [rounds_succ]
  go_wp2
  rw [rounds_succ]
  go_wp2
  go_ret3
  exact ⟨rfl, by repeat (first | exact HD.out | apply below_alloc | apply pw_below_drewN)⟩
set_option maxHeartbeats 1000000 in
theorem decode_3 (s : ByteArray) (k : Nat) (w : World) (H : Aside0 (utf_front.f k s = some (3, 3))) (q0 : 0 < s.size) (q1 : 1 < s.size) (q2 : 2 < s.size) (hs : s.size ≤ 140737488355328) :
    Calls Try.prog 26 #[.string s] w fun e w' => e = .returned (.tuple #[.int .i32 (next6 (next6 (first2 (s[0]'q0).toNat 15) (s[1]'q1).toNat) (s[2]'q2).toNat), .int .i64 3, .bool true]) ∧ Below w.heap.size w w' := by
  have p0 : (0 : Int) < s.size := by omega
  have p1 : (1 : Int) < s.size := by omega
  have p2 : (2 : Int) < s.size := by omega
  go_enter Try.func26, Try.ntmps26
  go_wp2_with (first | (go_at_call 29; refine (utf_front.calls k s 3 3 _ H.out).mono ?_; rintro e w1 ⟨rfl, hd⟩; have HD := Aside0.mk hd.below; clear hd))
  go_quiet (fail)
  go_wp2
  refine wp_loop_rounds 3 ?_
  rw [rounds_succ]
  go_wp2
  rw [rounds_succ]
  go_wp2
  rw [rounds_succ]
  go_wp2
  go_ret3
  exact ⟨rfl, by repeat (first | exact HD.out | apply below_alloc | apply pw_below_drewN)⟩
set_option maxHeartbeats 1000000 in
theorem decode_4 (s : ByteArray) (k : Nat) (w : World) (H : Aside0 (utf_front.f k s = some (4, 4))) (q0 : 0 < s.size) (q1 : 1 < s.size) (q2 : 2 < s.size) (q3 : 3 < s.size) (hs : s.size ≤ 140737488355328) :
    Calls Try.prog 26 #[.string s] w fun e w' => e = .returned (.tuple #[.int .i32 (next6 (next6 (next6 (first2 (s[0]'q0).toNat 7) (s[1]'q1).toNat) (s[2]'q2).toNat) (s[3]'q3).toNat), .int .i64 4, .bool true]) ∧ Below w.heap.size w w' := by
  have p0 : (0 : Int) < s.size := by omega
  have p1 : (1 : Int) < s.size := by omega
  have p2 : (2 : Int) < s.size := by omega
  have p3 : (3 : Int) < s.size := by omega
  go_enter Try.func26, Try.ntmps26
  go_wp2_with (first | (go_at_call 29; refine (utf_front.calls k s 4 4 _ H.out).mono ?_; rintro e w1 ⟨rfl, hd⟩; have HD := Aside0.mk hd.below; clear hd))
  go_quiet (fail)
  go_wp2
  refine wp_loop_rounds 4 ?_
  rw [rounds_succ]
  go_wp2
  rw [rounds_succ]
  go_wp2
  rw [rounds_succ]
  go_wp2
  rw [rounds_succ]
  go_wp2
  go_ret3
  exact ⟨rfl, by repeat (first | exact HD.out | apply below_alloc | apply pw_below_drewN)⟩

theorem bt_lit (s : ByteArray) (i : Nat) (h : i < s.size) : ((s[i]'h).toNat : Int) = (bytesOf s).getD i 0 := by
  have e := bt_at s (i : Int) (by simpa using h)
  have e2 : bt s i = (bytesOf s).getD i 0 := by rw [← rd_bytesOf]; rfl
  rw [← e2, ← e]
  rfl
theorem front_shape (l : List Int) (hl : ∀ x ∈ l, 0 ≤ x ∧ x ≤ 255) : ((frontI l).2 = 0 ∨ (¬ (frontI l).2 = 0 ∧ (frontI l).1 < (frontI l).2)) ∨
    (frontI l = (1, 1) ∧ 0 < l.length ∧ l.getD 0 0 < 128) ∨ (frontI l = (2, 2) ∧ 1 < l.length ∧ (194 ≤ l.getD 0 0 ∧ l.getD 0 0 ≤ 223) ∧ 128 ≤ l.getD 1 0 ∧ l.getD 1 0 ≤ 191) ∨
    (frontI l = (3, 3) ∧ 2 < l.length ∧ (224 ≤ l.getD 0 0 ∧ l.getD 0 0 ≤ 239) ∧ ((128 ≤ l.getD 1 0 ∧ l.getD 1 0 ≤ 191) ∧ (l.getD 0 0 = 224 → 160 ≤ l.getD 1 0) ∧ (l.getD 0 0 = 237 → l.getD 1 0 ≤ 159)) ∧ 128 ≤ l.getD 2 0 ∧ l.getD 2 0 ≤ 191) ∨
    (frontI l = (4, 4) ∧ 3 < l.length ∧ (240 ≤ l.getD 0 0 ∧ l.getD 0 0 ≤ 244) ∧ ((128 ≤ l.getD 1 0 ∧ l.getD 1 0 ≤ 191) ∧ (l.getD 0 0 = 240 → 144 ≤ l.getD 1 0) ∧ (l.getD 0 0 = 244 → l.getD 1 0 ≤ 143)) ∧ (128 ≤ l.getD 2 0 ∧ l.getD 2 0 ≤ 191) ∧ 128 ≤ l.getD 3 0 ∧ l.getD 3 0 ≤ 191) := by
  have inr2 : ∀ k lo hi, inr l k lo hi = true → k < l.length ∧ lo ≤ l.getD k 0 ∧ l.getD k 0 ≤ hi := by
    intro k lo hi h
    unfold inr at h
    by_cases hk : k < l.length
    · rw [List.getElem?_eq_getElem hk] at h
      simp only [decide_eq_true_eq] at h
      refine ⟨hk, ?_⟩
      simpa [List.getD_eq_getElem?_getD, hk] using h
    · rw [List.getElem?_eq_none (by omega)] at h
      cases h
  have hs : (shp (l.getD 0 0)).1 = 0 ∨ ((shp (l.getD 0 0)).1 = 1 ∧ l.getD 0 0 < 128) ∨ ((shp (l.getD 0 0)).1 = 2 ∧ (194 ≤ l.getD 0 0 ∧ l.getD 0 0 ≤ 223) ∧ 128 ≤ (shp (l.getD 0 0)).2.1 ∧ (shp (l.getD 0 0)).2.2 ≤ 191) ∨
      ((shp (l.getD 0 0)).1 = 3 ∧ (224 ≤ l.getD 0 0 ∧ l.getD 0 0 ≤ 239) ∧ (128 ≤ (shp (l.getD 0 0)).2.1 ∧ (l.getD 0 0 = 224 → 160 ≤ (shp (l.getD 0 0)).2.1)) ∧ (shp (l.getD 0 0)).2.2 ≤ 191 ∧ (l.getD 0 0 = 237 → (shp (l.getD 0 0)).2.2 ≤ 159)) ∨
      ((shp (l.getD 0 0)).1 = 4 ∧ (240 ≤ l.getD 0 0 ∧ l.getD 0 0 ≤ 244) ∧ (128 ≤ (shp (l.getD 0 0)).2.1 ∧ (l.getD 0 0 = 240 → 144 ≤ (shp (l.getD 0 0)).2.1)) ∧ (shp (l.getD 0 0)).2.2 ≤ 191 ∧ (l.getD 0 0 = 244 → (shp (l.getD 0 0)).2.2 ≤ 143)) := by
    generalize l.getD 0 0 = b
    unfold shp
    repeat' split
    all_goals simp
    all_goals omega
  by_cases h0 : l = []
  · left; left; unfold frontI; rw [if_pos h0]
  have hp : 0 < l.length := List.length_pos_iff.2 h0
  unfold frontI
  rw [if_neg h0]
  generalize hsp : shp (l.getD 0 0) = p at hs
  rcases hs with hs | ⟨hs, hb⟩ | ⟨hs, hb, hlo, hhi⟩ | ⟨hs, hb, hlo, hhi⟩ | ⟨hs, hb, hlo, hhi⟩
  · left; left; simp [hs]
  · right; left; exact ⟨by simp [hs], hp, hb⟩
  · by_cases i1 : inr l 1 p.2.1 p.2.2 = true
    · have j1 := inr2 _ _ _ i1
      right; right; left
      exact ⟨by simp [hs, i1], by omega, hb, by omega, by omega⟩
    · left; right; simp [hs, i1]
  · by_cases i1 : inr l 1 p.2.1 p.2.2 = true
    · by_cases i2 : inr l 2 128 191 = true
      · have j1 := inr2 _ _ _ i1
        have j2 := inr2 _ _ _ i2
        right; right; right; left
        exact ⟨by simp [hs, i1, i2], by omega, hb, ⟨by omega, by omega, by omega⟩, by omega, by omega⟩
      · left; right; simp [hs, i1, i2]
    · left; right; simp [hs, i1]
  · by_cases i1 : inr l 1 p.2.1 p.2.2 = true
    · by_cases i2 : inr l 2 128 191 = true
      · by_cases i3 : inr l 3 128 191 = true
        · have j1 := inr2 _ _ _ i1
          have j2 := inr2 _ _ _ i2
          have j3 := inr2 _ _ _ i3
          right; right; right; right
          exact ⟨by simp [hs, i1, i2, i3], by omega, hb, ⟨by omega, by omega, by omega⟩, by omega, by omega, by omega⟩
        · left; right; simp [hs, i1, i2, i3]
      · left; right; simp [hs, i1, i2]
    · left; right; simp [hs, i1]
theorem bytes_rng (s : ByteArray) : ∀ x ∈ bytesOf s, 0 ≤ x ∧ x ≤ 255 := by
  intro x hx
  unfold bytesOf at hx
  obtain ⟨b, _, rfl⟩ := List.mem_map.1 hx
  have := b.toNat_lt
  omega
theorem decode_any (s : ByteArray) (w : World) (hs : s.size ≤ 140737488355328) :
    Calls Try.prog 26 #[.string s] w fun e w' => e = .returned (.tuple #[.int .i32 (dec (bytesOf s)).1, .int .i64 (dec (bytesOf s)).2.1, .bool (dec (bytesOf s)).2.2]) ∧ Below w.heap.size w w' := by
  obtain ⟨k, hk⟩ := (front_ev s).rounds
  rcases front_shape (bytesOf s) (bytes_rng s) with h | ⟨h, hl, h0⟩ | ⟨h, hl, h0, h1⟩ | ⟨h, hl, h0, h1, h2⟩ | ⟨h, hl, h0, h1, h2, h3⟩
  · have e : dec (bytesOf s) = (0, (frontI (bytesOf s)).1, false) := by unfold dec; rw [if_pos (by omega)]
    rw [e]
    exact decode_no s _ _ k w ⟨hk⟩ h
  · rw [bytesOf_length] at hl
    rw [h] at hk
    have e : dec (bytesOf s) = ((bytesOf s).getD 0 0, 1, true) := by unfold dec; rw [h]; simp [valI]
    have b0 := bytes_rng s ((bytesOf s).getD 0 0) (by rw [List.getD_eq_getElem?_getD, List.getElem?_eq_getElem (by rw [bytesOf_length]; omega)]; simp)
    rw [e]
    have := decode_1 s k w ⟨hk⟩ (by omega) hs
    unfold first2 at this
    rwa [bt_lit, bits_one (by omega) (by omega)] at this
  · rw [bytesOf_length] at hl
    rw [h] at hk
    have e : dec (bytesOf s) = (((bytesOf s).getD 0 0 - 192) * 64 + ((bytesOf s).getD 1 0 - 128), 2, true) := by unfold dec; rw [h]; simp [valI]
    rw [e]
    have := decode_2 s k w ⟨hk⟩ (by omega) (by omega) hs
    rwa [bt_lit, bt_lit, first2_31 (by omega) (by omega), next6_eq (by omega) (by omega) (by omega) (by omega)] at this
  · rw [bytesOf_length] at hl
    rw [h] at hk
    have e : dec (bytesOf s) = (((bytesOf s).getD 0 0 - 224) * 4096 + ((bytesOf s).getD 1 0 - 128) * 64 + ((bytesOf s).getD 2 0 - 128), 3, true) := by unfold dec; rw [h]; simp [valI]
    rw [e]
    have := decode_3 s k w ⟨hk⟩ (by omega) (by omega) (by omega) hs
    rw [bt_lit, bt_lit, bt_lit, first2_15 (by omega) (by omega), next6_eq (m := (bytesOf s).getD 0 0 - 224) (by omega) (by omega) (by omega) (by omega), next6_eq (by omega) (by omega) (by omega) (by omega)] at this
    rwa [show (((bytesOf s).getD 0 0 - 224) * 64 + ((bytesOf s).getD 1 0 - 128)) * 64 + ((bytesOf s).getD 2 0 - 128) = ((bytesOf s).getD 0 0 - 224) * 4096 + ((bytesOf s).getD 1 0 - 128) * 64 + ((bytesOf s).getD 2 0 - 128) by omega] at this
  · rw [bytesOf_length] at hl
    rw [h] at hk
    have e : dec (bytesOf s) = (((bytesOf s).getD 0 0 - 240) * 262144 + ((bytesOf s).getD 1 0 - 128) * 4096 + ((bytesOf s).getD 2 0 - 128) * 64 + ((bytesOf s).getD 3 0 - 128), 4, true) := by unfold dec; rw [h]; simp [valI]
    rw [e]
    have := decode_4 s k w ⟨hk⟩ (by omega) (by omega) (by omega) (by omega) hs
    rw [bt_lit, bt_lit, bt_lit, bt_lit, first2_7 (by omega) (by omega), next6_eq (m := (bytesOf s).getD 0 0 - 240) (by omega) (by omega) (by omega) (by omega), next6_eq (m := ((bytesOf s).getD 0 0 - 240) * 64 + ((bytesOf s).getD 1 0 - 128)) (by omega) (by omega) (by omega) (by omega), next6_eq (by omega) (by omega) (by omega) (by omega)] at this
    rwa [show ((((bytesOf s).getD 0 0 - 240) * 64 + ((bytesOf s).getD 1 0 - 128)) * 64 + ((bytesOf s).getD 2 0 - 128)) * 64 + ((bytesOf s).getD 3 0 - 128) = ((bytesOf s).getD 0 0 - 240) * 262144 + ((bytesOf s).getD 1 0 - 128) * 4096 + ((bytesOf s).getD 2 0 - 128) * 64 + ((bytesOf s).getD 3 0 - 128) by omega] at this

/-! ### utf_Decode: function 26 (own text) -/
def utf_Decode.f (a0 : ByteArray) : Option (Int × Int × Bool) := if a0.size ≤ 140737488355328 then some (dec (bytesOf a0)) else none
theorem utf_Decode.calls (a0 : ByteArray) (r1 r2 : Int) (r3 : Bool) (w : World) (h : utf_Decode.f a0 = some (r1, r2, r3)) :
    Calls Try.prog 26 #[.string a0] w fun e w' => e = .returned (.tuple #[.int .i32 r1, .int .i64 r2, .bool r3]) ∧ Below w.heap.size w w' := by
  unfold utf_Decode.f at h
  by_cases hs : a0.size ≤ 140737488355328
  · rw [if_pos hs] at h
    have e := Option.some.inj h
    have := decode_any a0 w hs
    rwa [e] at this
  · rw [if_neg hs] at h
    cases h

/-! ### lexis_Span: function 23 -/
def lexis_Span.l0 : Nat → Int → Bool → ByteArray → Int → Option (Int)
  | 0, _, _, _, _ => none
  | k + 1, x0, x1, x2, x7 => if x7 < (x2.size : Int) then ((lexis_extra.f x0).bind fun bt135 => (if bt135.2 = true then ((escape_At.f k x2 x7).bind fun bt137 => (if bt137.2 = true then (lexis_Span.l0 k x0 x1 x2 (wrap64 (x7 + 3))) else (if 0 ≤ x7 then (if x7 ≤ (x2.size : Int) then ((utf_Decode.f (x2.extract (x7 : Int).toNat x2.size)).bind fun bt139 => (if bt139.2.2 = true then ((lexis_May.f k x0 x1 bt139.1).bind fun t142 => (if t142 = true then (lexis_Span.l0 k x0 x1 x2 (wrap64 (x7 + bt139.2.1))) else (some x7))) else (some x7))) else (none)) else (none)))) else (some 0))) else (some x7)
def lexis_Span.f (k : Nat) (a0 : Int) (a1 : Bool) (a2 : ByteArray) : Option (Int) := lexis_Span.l0 k a0 a1 a2 0
theorem lexis_Span.mono_l : ∀ k, (∀ y0 y1 y2 y3, LeO (lexis_Span.l0 k y0 y1 y2 y3) (lexis_Span.l0 (k + 1) y0 y1 y2 y3))
  | 0 => fun _ _ _ _ r h => by simp [lexis_Span.l0] at h
  | k + 1 => by
    have ih0 := lexis_Span.mono_l k
    · intro y0 y1 y2 y3
      unfold lexis_Span.l0
      repeat' first
      | (with_reducible exact ih0 _ _ _ _)
      | (with_reducible exact escape_At.mono _ _ _)
      | (with_reducible exact lexis_May.mono _ _ _ _)
      | (with_reducible exact LeO.refl _)
      | (with_reducible exact LeO.none _)
      | (with_reducible refine LeO.ite ?_ ?_)
      | (with_reducible refine LeO.bind ?_ (fun _ => ?_))
      | exact ih0 _ _ _ _
      | exact escape_At.mono _ _ _
      | exact lexis_May.mono _ _ _ _
      | exact LeO.none _
      | refine LeO.ite ?_ ?_
      | refine LeO.bind ?_ (fun _ => ?_)
theorem lexis_Span.mono : ∀ a0 a1 a2 k, LeO (lexis_Span.f k a0 a1 a2) (lexis_Span.f (k + 1) a0 a1 a2) := by
  intro a0 a1 a2 k
  have ih0 := lexis_Span.mono_l k
  unfold lexis_Span.f
  repeat' first
      | (with_reducible exact ih0 _ _ _ _)
      | (with_reducible exact escape_At.mono _ _ _)
      | (with_reducible exact lexis_May.mono _ _ _ _)
      | (with_reducible exact LeO.refl _)
      | (with_reducible exact LeO.none _)
      | (with_reducible refine LeO.ite ?_ ?_)
      | (with_reducible refine LeO.bind ?_ (fun _ => ?_))
      | exact ih0 _ _ _ _
      | exact escape_At.mono _ _ _
      | exact lexis_May.mono _ _ _ _
      | exact LeO.none _
      | refine LeO.ite ?_ ?_
      | refine LeO.bind ?_ (fun _ => ?_)
set_option maxHeartbeats 8000000 in
set_option maxRecDepth 100000 in
theorem lexis_Span.calls (k : Nat) (a0 : Int) (a1 : Bool) (a2 : ByteArray) (r : Int) (w : World) (h : lexis_Span.f k a0 a1 a2 = some r) :
    Calls Try.prog 23 #[.int .i64 a0, .bool a1, .string a2] w fun e w' => e = .returned (.int .i64 r) ∧ Below w.heap.size w w' := by
  have HB := Aside0.mk (Below.refl w.heap.size w)
  have H : (lexis_Span.l0 k a0 a1 a2 0) = some r := h
  clear h
  have H' := Aside0.mk H
  clear H
  go_enter Try.func23, Try.ntmps23
  go_wp2
  go_loopg [7] k (fun kq v7 w' => ∃ (x7_1 : Int), v7 = .int .i64 x7_1 ∧ Aside0 (lexis_Span.l0 kq a0 a1 a2 x7_1 = some r) ∧ Aside0 (kq ≤ k) ∧ Aside0 (Below w.heap.size w w'))
  case atStart => exact ⟨(0), (by first | rfl | (simp; done) | (simp [*]; done)), H', ⟨Nat.le_refl _⟩, ⟨by repeat (first | (with_reducible first | exact HB.out | apply below_alloc | apply pw_below_drewN | apply below_drew1) | exact HB.out)⟩⟩
  case round =>
    clear H'
    try clear c2
    try clear p2
    obtain ⟨x7_1, rfl, HA, HK1, HB⟩ := hrel
    cases gk with
    | zero => exact absurd HA.out (by simp [lexis_Span.l0])
    | succ k1 =>
      have H := HA.out
      clear HA
      simp only [lexis_Span.l0] at H
      by_cases c4 : x7_1 < (a2.size : Int)
      · rw [if_pos c4] at H
        have c4b0 : decide (x7_1 < (a2.size : Int)) = true := decide_eq_true c4
        clear c4
        replace H := Option.bind_eq_some_iff.mp H
        obtain ⟨⟨t135, t136⟩, A50, H⟩ := H
        replace H : (if t136 = true then ((escape_At.f k1 a2 x7_1).bind fun bt137 => (if bt137.2 = true then (lexis_Span.l0 k1 a0 a1 a2 (wrap64 (x7_1 + 3))) else (if 0 ≤ x7_1 then (if x7_1 ≤ (a2.size : Int) then ((utf_Decode.f (a2.extract (x7_1 : Int).toNat a2.size)).bind fun bt139 => (if bt139.2.2 = true then ((lexis_May.f k1 a0 a1 bt139.1).bind fun t142 => (if t142 = true then (lexis_Span.l0 k1 a0 a1 a2 (wrap64 (x7_1 + bt139.2.1))) else (some x7_1))) else (some x7_1))) else (none)) else (none)))) else (some 0)) = some r := H
        have A5 := Aside0.mk A50
        clear A50
        by_cases c6 : t136 = true
        · subst c6
          have H1 : ((escape_At.f k1 a2 x7_1).bind fun bt137 => (if bt137.2 = true then (lexis_Span.l0 k1 a0 a1 a2 (wrap64 (x7_1 + 3))) else (if 0 ≤ x7_1 then (if x7_1 ≤ (a2.size : Int) then ((utf_Decode.f (a2.extract (x7_1 : Int).toNat a2.size)).bind fun bt139 => (if bt139.2.2 = true then ((lexis_May.f k1 a0 a1 bt139.1).bind fun t142 => (if t142 = true then (lexis_Span.l0 k1 a0 a1 a2 (wrap64 (x7_1 + bt139.2.1))) else (some x7_1))) else (some x7_1))) else (none)) else (none)))) = some r := by rw [if_pos rfl] at H; exact H
          clear H
          have H := H1
          clear H1
          replace H := Option.bind_eq_some_iff.mp H
          obtain ⟨⟨t137, t138⟩, A70, H⟩ := H
          replace H : (if t138 = true then (lexis_Span.l0 k1 a0 a1 a2 (wrap64 (x7_1 + 3))) else (if 0 ≤ x7_1 then (if x7_1 ≤ (a2.size : Int) then ((utf_Decode.f (a2.extract (x7_1 : Int).toNat a2.size)).bind fun bt139 => (if bt139.2.2 = true then ((lexis_May.f k1 a0 a1 bt139.1).bind fun t142 => (if t142 = true then (lexis_Span.l0 k1 a0 a1 a2 (wrap64 (x7_1 + bt139.2.1))) else (some x7_1))) else (some x7_1))) else (none)) else (none))) = some r := H
          have A7 := Aside0.mk A70
          clear A70
          by_cases c8 : t138 = true
          · subst c8
            have H1 : (lexis_Span.l0 k1 a0 a1 a2 (wrap64 (x7_1 + 3))) = some r := by rw [if_pos rfl] at H; exact H
            clear H
            have H := H1
            clear H1
            have H' := Aside0.mk H
            clear H
            go_wp2_with (first | ((with_reducible refine gate_callee (f := 18) rfl ?_); refine goesL_ (some 21) rfl rfl Try.func18 (by kernel_rfl) rfl #[.int .i64 a0] rfl (by (try simp only [List.map_toArray, List.map_cons, List.map_nil]); first | done | rfl | (simp only [List.length_drop, List.length_take]; rfl)) ?_; (with_reducible refine (lexis_extra.calls a0 t135 true _ A5.out).mono ?_); rintro e w' ⟨rfl, ⟨nd, rfl⟩⟩; refine ⟨_, rfl, ?_⟩) | ((with_reducible refine gate_callee (f := 25) rfl ?_); refine goesL_ (some 29) rfl rfl Try.func25 (by kernel_rfl) rfl #[.string a2, .int .i64 x7_1] rfl (by (try simp only [List.map_toArray, List.map_cons, List.map_nil]); first | done | rfl | (simp only [List.length_drop, List.length_take]; rfl)) ?_; (with_reducible refine (escape_At.calls k1 a2 x7_1 t137 true _ A7.out).mono ?_); rintro e w' ⟨rfl, ⟨nd, rfl⟩⟩; refine ⟨_, rfl, ?_⟩))
            go_roundg k1
            case measure => have := HK1.out; omega
            case rel => exact ⟨(wrap64 (x7_1 + 3)), (by first | rfl | (simp; done) | (simp [*]; done)), H', ⟨by have := HK1.out; omega⟩, ⟨by repeat (first | (with_reducible first | exact HB.out | apply below_alloc | apply pw_below_drewN | apply below_drew1) | exact HB.out)⟩⟩
          · replace c8 := Bool.eq_false_iff.mpr c8
            subst c8
            have H1 : (if 0 ≤ x7_1 then (if x7_1 ≤ (a2.size : Int) then ((utf_Decode.f (a2.extract (x7_1 : Int).toNat a2.size)).bind fun bt139 => (if bt139.2.2 = true then ((lexis_May.f k1 a0 a1 bt139.1).bind fun t142 => (if t142 = true then (lexis_Span.l0 k1 a0 a1 a2 (wrap64 (x7_1 + bt139.2.1))) else (some x7_1))) else (some x7_1))) else (none)) else (none)) = some r := by rw [if_neg (show ¬ (false = true) by decide)] at H; exact H
            clear H
            have H := H1
            clear H1
            by_cases c9 : 0 ≤ x7_1
            · rw [if_pos c9] at H
              have c9b0 := eq_true c9
              have c9b1 : decide (0 ≤ x7_1) = true := decide_eq_true c9
              clear c9
              by_cases c10 : x7_1 ≤ (a2.size : Int)
              · rw [if_pos c10] at H
                have c10b0 := eq_true c10
                have c10b1 : decide (x7_1 ≤ (a2.size : Int)) = true := decide_eq_true c10
                clear c10
                replace H := Option.bind_eq_some_iff.mp H
                obtain ⟨⟨t139, t140, t141⟩, A110, H⟩ := H
                replace H : (if t141 = true then ((lexis_May.f k1 a0 a1 t139).bind fun t142 => (if t142 = true then (lexis_Span.l0 k1 a0 a1 a2 (wrap64 (x7_1 + t140))) else (some x7_1))) else (some x7_1)) = some r := H
                have A11 := Aside0.mk A110
                clear A110
                by_cases c12 : t141 = true
                · subst c12
                  have H1 : ((lexis_May.f k1 a0 a1 t139).bind fun t142 => (if t142 = true then (lexis_Span.l0 k1 a0 a1 a2 (wrap64 (x7_1 + t140))) else (some x7_1))) = some r := by rw [if_pos rfl] at H; exact H
                  clear H
                  have H := H1
                  clear H1
                  replace H := Option.bind_eq_some_iff.mp H
                  obtain ⟨t142, A130, H⟩ := H
                  replace H : (if t142 = true then (lexis_Span.l0 k1 a0 a1 a2 (wrap64 (x7_1 + t140))) else (some x7_1)) = some r := H
                  have A13 := Aside0.mk A130
                  clear A130
                  by_cases c14 : t142 = true
                  · subst c14
                    have H1 : (lexis_Span.l0 k1 a0 a1 a2 (wrap64 (x7_1 + t140))) = some r := by rw [if_pos rfl] at H; exact H
                    clear H
                    have H := H1
                    clear H1
                    have H' := Aside0.mk H
                    clear H
                    go_wp2_with (first | ((with_reducible refine gate_callee (f := 18) rfl ?_); refine goesL_ (some 21) rfl rfl Try.func18 (by kernel_rfl) rfl #[.int .i64 a0] rfl (by (try simp only [List.map_toArray, List.map_cons, List.map_nil]); first | done | rfl | (simp only [List.length_drop, List.length_take]; rfl)) ?_; (with_reducible refine (lexis_extra.calls a0 t135 true _ A5.out).mono ?_); rintro e w' ⟨rfl, ⟨nd, rfl⟩⟩; refine ⟨_, rfl, ?_⟩) | ((with_reducible refine gate_callee (f := 25) rfl ?_); refine goesL_ (some 29) rfl rfl Try.func25 (by kernel_rfl) rfl #[.string a2, .int .i64 x7_1] rfl (by (try simp only [List.map_toArray, List.map_cons, List.map_nil]); first | done | rfl | (simp only [List.length_drop, List.length_take]; rfl)) ?_; (with_reducible refine (escape_At.calls k1 a2 x7_1 t137 false _ A7.out).mono ?_); rintro e w' ⟨rfl, ⟨nd, rfl⟩⟩; refine ⟨_, rfl, ?_⟩) | ((with_reducible refine gate_callee (f := 26) rfl ?_); refine goesL_ (some 39) rfl rfl Try.func26 (by kernel_rfl) rfl #[.string (a2.extract (x7_1 : Int).toNat a2.size)] rfl (by (try simp only [List.map_toArray, List.map_cons, List.map_nil]); first | done | rfl | (simp only [List.length_drop, List.length_take]; rfl)) ?_; (with_reducible refine (utf_Decode.calls (a2.extract (x7_1 : Int).toNat a2.size) t139 t140 true _ A11.out).mono ?_); rintro e w15 ⟨rfl, hb⟩; refine ⟨_, rfl, ?_⟩; have n0_ := Aside0.mk (below_step (by repeat (first | (with_reducible first | exact HB.out | apply below_alloc | apply pw_below_drewN | apply below_drew1) | exact HB.out)) hb); clear HB; have HB := n0_; clear n0_; (try clear hb); (try clear hb2); (try clear hk); (try clear hi)) | (go_at_call 16; (with_reducible refine (lexis_May.calls k1 a0 a1 t139 true _ A13.out).mono ?_); rintro e w16 ⟨rfl, hb⟩; have n0_ := Aside0.mk (below_step (by repeat (first | (with_reducible first | exact HB.out | apply below_alloc | apply pw_below_drewN | apply below_drew1) | exact HB.out)) hb); clear HB; have HB := n0_; clear n0_; (try clear hb); (try clear hb2); (try clear hk); (try clear hi)))
                    go_roundg k1
                    case measure => have := HK1.out; omega
                    case rel => exact ⟨(wrap64 (x7_1 + t140)), (by first | rfl | (simp; done) | (simp [*]; done)), H', ⟨by have := HK1.out; omega⟩, ⟨by repeat (first | (with_reducible first | exact HB.out | apply below_alloc | apply pw_below_drewN | apply below_drew1) | exact HB.out)⟩⟩
                  · replace c14 := Bool.eq_false_iff.mpr c14
                    subst c14
                    have H1 : (some x7_1) = some r := by rw [if_neg (show ¬ (false = true) by decide)] at H; exact H
                    clear H
                    have H := H1
                    clear H1
                    obtain rfl := Option.some.inj H
                    go_wp2_with (first | ((with_reducible refine gate_callee (f := 18) rfl ?_); refine goesL_ (some 21) rfl rfl Try.func18 (by kernel_rfl) rfl #[.int .i64 a0] rfl (by (try simp only [List.map_toArray, List.map_cons, List.map_nil]); first | done | rfl | (simp only [List.length_drop, List.length_take]; rfl)) ?_; (with_reducible refine (lexis_extra.calls a0 t135 true _ A5.out).mono ?_); rintro e w' ⟨rfl, ⟨nd, rfl⟩⟩; refine ⟨_, rfl, ?_⟩) | ((with_reducible refine gate_callee (f := 25) rfl ?_); refine goesL_ (some 29) rfl rfl Try.func25 (by kernel_rfl) rfl #[.string a2, .int .i64 x7_1] rfl (by (try simp only [List.map_toArray, List.map_cons, List.map_nil]); first | done | rfl | (simp only [List.length_drop, List.length_take]; rfl)) ?_; (with_reducible refine (escape_At.calls k1 a2 x7_1 t137 false _ A7.out).mono ?_); rintro e w' ⟨rfl, ⟨nd, rfl⟩⟩; refine ⟨_, rfl, ?_⟩) | ((with_reducible refine gate_callee (f := 26) rfl ?_); refine goesL_ (some 39) rfl rfl Try.func26 (by kernel_rfl) rfl #[.string (a2.extract (x7_1 : Int).toNat a2.size)] rfl (by (try simp only [List.map_toArray, List.map_cons, List.map_nil]); first | done | rfl | (simp only [List.length_drop, List.length_take]; rfl)) ?_; (with_reducible refine (utf_Decode.calls (a2.extract (x7_1 : Int).toNat a2.size) t139 t140 true _ A11.out).mono ?_); rintro e w17 ⟨rfl, hb⟩; refine ⟨_, rfl, ?_⟩; have n0_ := Aside0.mk (below_step (by repeat (first | (with_reducible first | exact HB.out | apply below_alloc | apply pw_below_drewN | apply below_drew1) | exact HB.out)) hb); clear HB; have HB := n0_; clear n0_; (try clear hb); (try clear hb2); (try clear hk); (try clear hi)) | (go_at_call 16; (with_reducible refine (lexis_May.calls k1 a0 a1 t139 false _ A13.out).mono ?_); rintro e w18 ⟨rfl, hb⟩; have n0_ := Aside0.mk (below_step (by repeat (first | (with_reducible first | exact HB.out | apply below_alloc | apply pw_below_drewN | apply below_drew1) | exact HB.out)) hb); clear HB; have HB := n0_; clear n0_; (try clear hb); (try clear hb2); (try clear hk); (try clear hi)))
                    go_ret
                    exact ⟨by first | rfl | (simp [errW_none, errW_some] <;> rfl) | (simp [*, errW_none, errW_some] <;> rfl), by repeat (first | (with_reducible first | exact HB.out | apply below_alloc | apply pw_below_drewN | apply below_drew1) | exact HB.out)⟩
                · replace c12 := Bool.eq_false_iff.mpr c12
                  subst c12
                  have H1 : (some x7_1) = some r := by rw [if_neg (show ¬ (false = true) by decide)] at H; exact H
                  clear H
                  have H := H1
                  clear H1
                  obtain rfl := Option.some.inj H
                  go_wp2_with (first | ((with_reducible refine gate_callee (f := 18) rfl ?_); refine goesL_ (some 21) rfl rfl Try.func18 (by kernel_rfl) rfl #[.int .i64 a0] rfl (by (try simp only [List.map_toArray, List.map_cons, List.map_nil]); first | done | rfl | (simp only [List.length_drop, List.length_take]; rfl)) ?_; (with_reducible refine (lexis_extra.calls a0 t135 true _ A5.out).mono ?_); rintro e w' ⟨rfl, ⟨nd, rfl⟩⟩; refine ⟨_, rfl, ?_⟩) | ((with_reducible refine gate_callee (f := 25) rfl ?_); refine goesL_ (some 29) rfl rfl Try.func25 (by kernel_rfl) rfl #[.string a2, .int .i64 x7_1] rfl (by (try simp only [List.map_toArray, List.map_cons, List.map_nil]); first | done | rfl | (simp only [List.length_drop, List.length_take]; rfl)) ?_; (with_reducible refine (escape_At.calls k1 a2 x7_1 t137 false _ A7.out).mono ?_); rintro e w' ⟨rfl, ⟨nd, rfl⟩⟩; refine ⟨_, rfl, ?_⟩) | ((with_reducible refine gate_callee (f := 26) rfl ?_); refine goesL_ (some 39) rfl rfl Try.func26 (by kernel_rfl) rfl #[.string (a2.extract (x7_1 : Int).toNat a2.size)] rfl (by (try simp only [List.map_toArray, List.map_cons, List.map_nil]); first | done | rfl | (simp only [List.length_drop, List.length_take]; rfl)) ?_; (with_reducible refine (utf_Decode.calls (a2.extract (x7_1 : Int).toNat a2.size) t139 t140 false _ A11.out).mono ?_); rintro e w19 ⟨rfl, hb⟩; refine ⟨_, rfl, ?_⟩; have n0_ := Aside0.mk (below_step (by repeat (first | (with_reducible first | exact HB.out | apply below_alloc | apply pw_below_drewN | apply below_drew1) | exact HB.out)) hb); clear HB; have HB := n0_; clear n0_; (try clear hb); (try clear hb2); (try clear hk); (try clear hi)))
                  go_ret
                  exact ⟨by first | rfl | (simp [errW_none, errW_some] <;> rfl) | (simp [*, errW_none, errW_some] <;> rfl), by repeat (first | (with_reducible first | exact HB.out | apply below_alloc | apply pw_below_drewN | apply below_drew1) | exact HB.out)⟩
              · rw [if_neg c10] at H
                exact absurd H (by simp)
            · rw [if_neg c9] at H
              exact absurd H (by simp)
        · replace c6 := Bool.eq_false_iff.mpr c6
          subst c6
          have H1 : (some 0) = some r := by rw [if_neg (show ¬ (false = true) by decide)] at H; exact H
          clear H
          have H := H1
          clear H1
          obtain rfl := Option.some.inj H
          go_wp2_with (first | ((with_reducible refine gate_callee (f := 18) rfl ?_); refine goesL_ (some 21) rfl rfl Try.func18 (by kernel_rfl) rfl #[.int .i64 a0] rfl (by (try simp only [List.map_toArray, List.map_cons, List.map_nil]); first | done | rfl | (simp only [List.length_drop, List.length_take]; rfl)) ?_; (with_reducible refine (lexis_extra.calls a0 t135 false _ A5.out).mono ?_); rintro e w' ⟨rfl, ⟨nd, rfl⟩⟩; refine ⟨_, rfl, ?_⟩))
          go_ret
          exact ⟨by first | rfl | (simp [errW_none, errW_some] <;> rfl) | (simp [*, errW_none, errW_some] <;> rfl), by repeat (first | (with_reducible first | exact HB.out | apply below_alloc | apply pw_below_drewN | apply below_drew1) | exact HB.out)⟩
      · rw [if_neg c4] at H
        have c4b0 : decide (x7_1 < (a2.size : Int)) = false := decide_eq_false c4
        clear c4
        obtain rfl := Option.some.inj H
        go_wp2
        go_ret
        exact ⟨by first | rfl | (simp [errW_none, errW_some] <;> rfl) | (simp [*, errW_none, errW_some] <;> rfl), by repeat (first | (with_reducible first | exact HB.out | apply below_alloc | apply pw_below_drewN | apply below_drew1) | exact HB.out)⟩

/-! ### monikerlaw18_awake: function 8 -/
def monikerlaw18_awake.f (k : Nat)  : Option (Bool) := (lexis_Span.f k 3 false (⟨#[97, 37, 50, 70, 98, 47, 99]⟩ : ByteArray)).bind fun t143 => (if t143 = 5 then ((lexis_Span.f k 3 false (⟨#[37, 122, 122]⟩ : ByteArray)).bind fun t144 => (if t144 = 0 then ((lexis_May.f k 5 true 252).bind fun t145 => (if t145 = true then ((lexis_May.f k 5 false 252).bind fun t146 => (if t146 = true then (some false) else ((lexis_Scheme.f k (⟨#[97, 43, 98]⟩ : ByteArray)).bind fun t147 => (some t147)))) else (some false))) else (some false))) else (some false))
theorem monikerlaw18_awake.mono : ∀ k, LeO (monikerlaw18_awake.f k ) (monikerlaw18_awake.f (k + 1) ) := by
  intro  k
  unfold monikerlaw18_awake.f
  repeat' first
      | (with_reducible exact lexis_May.mono _ _ _ _)
      | (with_reducible exact lexis_Scheme.mono _ _)
      | (with_reducible exact lexis_Span.mono _ _ _ _)
      | (with_reducible exact LeO.refl _)
      | (with_reducible exact LeO.none _)
      | (with_reducible refine LeO.ite ?_ ?_)
      | (with_reducible refine LeO.bind ?_ (fun _ => ?_))
      | exact lexis_May.mono _ _ _ _
      | exact lexis_Scheme.mono _ _
      | exact lexis_Span.mono _ _ _ _
      | exact LeO.none _
      | refine LeO.ite ?_ ?_
      | refine LeO.bind ?_ (fun _ => ?_)
set_option maxHeartbeats 8000000 in
set_option maxRecDepth 100000 in
theorem monikerlaw18_awake.calls (k : Nat)  (r : Bool) (w : World) (h : monikerlaw18_awake.f k  = some r) :
    Calls Try.prog 8 #[] w fun e w' => e = .returned (.bool r) ∧ Below w.heap.size w w' := by
  have HB := Aside0.mk (Below.refl w.heap.size w)
  have H : ((lexis_Span.f k 3 false (⟨#[97, 37, 50, 70, 98, 47, 99]⟩ : ByteArray)).bind fun t143 => (if t143 = 5 then ((lexis_Span.f k 3 false (⟨#[37, 122, 122]⟩ : ByteArray)).bind fun t144 => (if t144 = 0 then ((lexis_May.f k 5 true 252).bind fun t145 => (if t145 = true then ((lexis_May.f k 5 false 252).bind fun t146 => (if t146 = true then (some false) else ((lexis_Scheme.f k (⟨#[97, 43, 98]⟩ : ByteArray)).bind fun t147 => (some t147)))) else (some false))) else (some false))) else (some false))) = some r := h
  clear h
  replace H := Option.bind_eq_some_iff.mp H
  obtain ⟨t143, A10, H⟩ := H
  replace H : (if t143 = 5 then ((lexis_Span.f k 3 false (⟨#[37, 122, 122]⟩ : ByteArray)).bind fun t144 => (if t144 = 0 then ((lexis_May.f k 5 true 252).bind fun t145 => (if t145 = true then ((lexis_May.f k 5 false 252).bind fun t146 => (if t146 = true then (some false) else ((lexis_Scheme.f k (⟨#[97, 43, 98]⟩ : ByteArray)).bind fun t147 => (some t147)))) else (some false))) else (some false))) else (some false)) = some r := H
  have A1 := Aside0.mk A10
  clear A10
  by_cases c2 : t143 = 5
  · rw [if_pos c2] at H
    have c2b0 : (t143 == 5) = true := beq_iff_eq.mpr c2
    have c2b1 : (t143 != 5) = false := bne_eq_false_iff_eq.mpr c2
    clear c2
    replace H := Option.bind_eq_some_iff.mp H
    obtain ⟨t144, A30, H⟩ := H
    replace H : (if t144 = 0 then ((lexis_May.f k 5 true 252).bind fun t145 => (if t145 = true then ((lexis_May.f k 5 false 252).bind fun t146 => (if t146 = true then (some false) else ((lexis_Scheme.f k (⟨#[97, 43, 98]⟩ : ByteArray)).bind fun t147 => (some t147)))) else (some false))) else (some false)) = some r := H
    have A3 := Aside0.mk A30
    clear A30
    by_cases c4 : t144 = 0
    · rw [if_pos c4] at H
      have c4b0 : (t144 == 0) = true := beq_iff_eq.mpr c4
      have c4b1 : (t144 != 0) = false := bne_eq_false_iff_eq.mpr c4
      clear c4
      replace H := Option.bind_eq_some_iff.mp H
      obtain ⟨t145, A50, H⟩ := H
      replace H : (if t145 = true then ((lexis_May.f k 5 false 252).bind fun t146 => (if t146 = true then (some false) else ((lexis_Scheme.f k (⟨#[97, 43, 98]⟩ : ByteArray)).bind fun t147 => (some t147)))) else (some false)) = some r := H
      have A5 := Aside0.mk A50
      clear A50
      by_cases c6 : t145 = true
      · subst c6
        have H1 : ((lexis_May.f k 5 false 252).bind fun t146 => (if t146 = true then (some false) else ((lexis_Scheme.f k (⟨#[97, 43, 98]⟩ : ByteArray)).bind fun t147 => (some t147)))) = some r := by rw [if_pos rfl] at H; exact H
        clear H
        have H := H1
        clear H1
        replace H := Option.bind_eq_some_iff.mp H
        obtain ⟨t146, A70, H⟩ := H
        replace H : (if t146 = true then (some false) else ((lexis_Scheme.f k (⟨#[97, 43, 98]⟩ : ByteArray)).bind fun t147 => (some t147))) = some r := H
        have A7 := Aside0.mk A70
        clear A70
        by_cases c8 : t146 = true
        · subst c8
          have H1 : (some false) = some r := by rw [if_pos rfl] at H; exact H
          clear H
          have H := H1
          clear H1
          obtain rfl := Option.some.inj H
          go_enter Try.func8, Try.ntmps8
          go_wp2_with (first | ((with_reducible refine gate_callee (f := 23) rfl ?_); refine goesL_ (some 1) rfl rfl Try.func23 (by kernel_rfl) rfl #[.int .i64 3, .bool false, .string (⟨#[97, 37, 50, 70, 98, 47, 99]⟩ : ByteArray)] rfl (by (try simp only [List.map_toArray, List.map_cons, List.map_nil]); first | done | rfl | (simp only [List.length_drop, List.length_take]; rfl)) ?_; (with_reducible refine (lexis_Span.calls k 3 false (⟨#[97, 37, 50, 70, 98, 47, 99]⟩ : ByteArray) t143 _ A1.out).mono ?_); rintro e w9 ⟨rfl, hb⟩; refine ⟨_, rfl, ?_⟩; have n0_ := Aside0.mk (below_step (by repeat (first | (with_reducible first | exact HB.out | apply below_alloc | apply pw_below_drewN | apply below_drew1) | exact HB.out)) hb); clear HB; have HB := n0_; clear n0_; (try clear hb); (try clear hb2); (try clear hk); (try clear hi)) | (go_at_call 23; (with_reducible refine (lexis_Span.calls k 3 false (⟨#[37, 122, 122]⟩ : ByteArray) t144 _ A3.out).mono ?_); rintro e w10 ⟨rfl, hb⟩; have n0_ := Aside0.mk (below_step (by repeat (first | (with_reducible first | exact HB.out | apply below_alloc | apply pw_below_drewN | apply below_drew1) | exact HB.out)) hb); clear HB; have HB := n0_; clear n0_; (try clear hb); (try clear hb2); (try clear hk); (try clear hi)) | (go_at_call 16; (with_reducible refine (lexis_May.calls k 5 true 252 true _ A5.out).mono ?_); rintro e w11 ⟨rfl, hb⟩; have n0_ := Aside0.mk (below_step (by repeat (first | (with_reducible first | exact HB.out | apply below_alloc | apply pw_below_drewN | apply below_drew1) | exact HB.out)) hb); clear HB; have HB := n0_; clear n0_; (try clear hb); (try clear hb2); (try clear hk); (try clear hi)) | (go_at_call 16; (with_reducible refine (lexis_May.calls k 5 false 252 true _ A7.out).mono ?_); rintro e w12 ⟨rfl, hb⟩; have n0_ := Aside0.mk (below_step (by repeat (first | (with_reducible first | exact HB.out | apply below_alloc | apply pw_below_drewN | apply below_drew1) | exact HB.out)) hb); clear HB; have HB := n0_; clear n0_; (try clear hb); (try clear hb2); (try clear hk); (try clear hi)))
          go_ret
          exact ⟨by first | rfl | (simp [errW_none, errW_some] <;> rfl) | (simp [*, errW_none, errW_some] <;> rfl), by repeat (first | (with_reducible first | exact HB.out | apply below_alloc | apply pw_below_drewN | apply below_drew1) | exact HB.out)⟩
        · replace c8 := Bool.eq_false_iff.mpr c8
          subst c8
          have H1 : ((lexis_Scheme.f k (⟨#[97, 43, 98]⟩ : ByteArray)).bind fun t147 => (some t147)) = some r := by rw [if_neg (show ¬ (false = true) by decide)] at H; exact H
          clear H
          have H := H1
          clear H1
          replace H := Option.bind_eq_some_iff.mp H
          obtain ⟨t147, A130, H⟩ := H
          replace H : (some t147) = some r := H
          have A13 := Aside0.mk A130
          clear A130
          obtain rfl := Option.some.inj H
          go_enter Try.func8, Try.ntmps8
          go_wp2_with (first | ((with_reducible refine gate_callee (f := 23) rfl ?_); refine goesL_ (some 1) rfl rfl Try.func23 (by kernel_rfl) rfl #[.int .i64 3, .bool false, .string (⟨#[97, 37, 50, 70, 98, 47, 99]⟩ : ByteArray)] rfl (by (try simp only [List.map_toArray, List.map_cons, List.map_nil]); first | done | rfl | (simp only [List.length_drop, List.length_take]; rfl)) ?_; (with_reducible refine (lexis_Span.calls k 3 false (⟨#[97, 37, 50, 70, 98, 47, 99]⟩ : ByteArray) t143 _ A1.out).mono ?_); rintro e w14 ⟨rfl, hb⟩; refine ⟨_, rfl, ?_⟩; have n0_ := Aside0.mk (below_step (by repeat (first | (with_reducible first | exact HB.out | apply below_alloc | apply pw_below_drewN | apply below_drew1) | exact HB.out)) hb); clear HB; have HB := n0_; clear n0_; (try clear hb); (try clear hb2); (try clear hk); (try clear hi)) | (go_at_call 23; (with_reducible refine (lexis_Span.calls k 3 false (⟨#[37, 122, 122]⟩ : ByteArray) t144 _ A3.out).mono ?_); rintro e w15 ⟨rfl, hb⟩; have n0_ := Aside0.mk (below_step (by repeat (first | (with_reducible first | exact HB.out | apply below_alloc | apply pw_below_drewN | apply below_drew1) | exact HB.out)) hb); clear HB; have HB := n0_; clear n0_; (try clear hb); (try clear hb2); (try clear hk); (try clear hi)) | (go_at_call 16; (with_reducible refine (lexis_May.calls k 5 true 252 true _ A5.out).mono ?_); rintro e w16 ⟨rfl, hb⟩; have n0_ := Aside0.mk (below_step (by repeat (first | (with_reducible first | exact HB.out | apply below_alloc | apply pw_below_drewN | apply below_drew1) | exact HB.out)) hb); clear HB; have HB := n0_; clear n0_; (try clear hb); (try clear hb2); (try clear hk); (try clear hi)) | (go_at_call 16; (with_reducible refine (lexis_May.calls k 5 false 252 false _ A7.out).mono ?_); rintro e w17 ⟨rfl, hb⟩; have n0_ := Aside0.mk (below_step (by repeat (first | (with_reducible first | exact HB.out | apply below_alloc | apply pw_below_drewN | apply below_drew1) | exact HB.out)) hb); clear HB; have HB := n0_; clear n0_; (try clear hb); (try clear hb2); (try clear hk); (try clear hi)) | (go_at_call 9; (with_reducible refine (lexis_Scheme.calls k (⟨#[97, 43, 98]⟩ : ByteArray) t147 _ A13.out).mono ?_); rintro e w18 ⟨rfl, hb⟩; have n0_ := Aside0.mk (below_step (by repeat (first | (with_reducible first | exact HB.out | apply below_alloc | apply pw_below_drewN | apply below_drew1) | exact HB.out)) hb); clear HB; have HB := n0_; clear n0_; (try clear hb); (try clear hb2); (try clear hk); (try clear hi)))
          go_ret
          exact ⟨by first | rfl | (simp [errW_none, errW_some] <;> rfl) | (simp [*, errW_none, errW_some] <;> rfl), by repeat (first | (with_reducible first | exact HB.out | apply below_alloc | apply pw_below_drewN | apply below_drew1) | exact HB.out)⟩
      · replace c6 := Bool.eq_false_iff.mpr c6
        subst c6
        have H1 : (some false) = some r := by rw [if_neg (show ¬ (false = true) by decide)] at H; exact H
        clear H
        have H := H1
        clear H1
        obtain rfl := Option.some.inj H
        go_enter Try.func8, Try.ntmps8
        go_wp2_with (first | ((with_reducible refine gate_callee (f := 23) rfl ?_); refine goesL_ (some 1) rfl rfl Try.func23 (by kernel_rfl) rfl #[.int .i64 3, .bool false, .string (⟨#[97, 37, 50, 70, 98, 47, 99]⟩ : ByteArray)] rfl (by (try simp only [List.map_toArray, List.map_cons, List.map_nil]); first | done | rfl | (simp only [List.length_drop, List.length_take]; rfl)) ?_; (with_reducible refine (lexis_Span.calls k 3 false (⟨#[97, 37, 50, 70, 98, 47, 99]⟩ : ByteArray) t143 _ A1.out).mono ?_); rintro e w19 ⟨rfl, hb⟩; refine ⟨_, rfl, ?_⟩; have n0_ := Aside0.mk (below_step (by repeat (first | (with_reducible first | exact HB.out | apply below_alloc | apply pw_below_drewN | apply below_drew1) | exact HB.out)) hb); clear HB; have HB := n0_; clear n0_; (try clear hb); (try clear hb2); (try clear hk); (try clear hi)) | (go_at_call 23; (with_reducible refine (lexis_Span.calls k 3 false (⟨#[37, 122, 122]⟩ : ByteArray) t144 _ A3.out).mono ?_); rintro e w20 ⟨rfl, hb⟩; have n0_ := Aside0.mk (below_step (by repeat (first | (with_reducible first | exact HB.out | apply below_alloc | apply pw_below_drewN | apply below_drew1) | exact HB.out)) hb); clear HB; have HB := n0_; clear n0_; (try clear hb); (try clear hb2); (try clear hk); (try clear hi)) | (go_at_call 16; (with_reducible refine (lexis_May.calls k 5 true 252 false _ A5.out).mono ?_); rintro e w21 ⟨rfl, hb⟩; have n0_ := Aside0.mk (below_step (by repeat (first | (with_reducible first | exact HB.out | apply below_alloc | apply pw_below_drewN | apply below_drew1) | exact HB.out)) hb); clear HB; have HB := n0_; clear n0_; (try clear hb); (try clear hb2); (try clear hk); (try clear hi)))
        go_ret
        exact ⟨by first | rfl | (simp [errW_none, errW_some] <;> rfl) | (simp [*, errW_none, errW_some] <;> rfl), by repeat (first | (with_reducible first | exact HB.out | apply below_alloc | apply pw_below_drewN | apply below_drew1) | exact HB.out)⟩
    · rw [if_neg c4] at H
      have c4b0 : (t144 == 0) = false := beq_eq_false_iff_ne.mpr c4
      have c4b1 : (t144 != 0) = true := bne_iff_ne.mpr c4
      obtain rfl := Option.some.inj H
      go_enter Try.func8, Try.ntmps8
      go_wp2_with (first | ((with_reducible refine gate_callee (f := 23) rfl ?_); refine goesL_ (some 1) rfl rfl Try.func23 (by kernel_rfl) rfl #[.int .i64 3, .bool false, .string (⟨#[97, 37, 50, 70, 98, 47, 99]⟩ : ByteArray)] rfl (by (try simp only [List.map_toArray, List.map_cons, List.map_nil]); first | done | rfl | (simp only [List.length_drop, List.length_take]; rfl)) ?_; (with_reducible refine (lexis_Span.calls k 3 false (⟨#[97, 37, 50, 70, 98, 47, 99]⟩ : ByteArray) t143 _ A1.out).mono ?_); rintro e w22 ⟨rfl, hb⟩; refine ⟨_, rfl, ?_⟩; have n0_ := Aside0.mk (below_step (by repeat (first | (with_reducible first | exact HB.out | apply below_alloc | apply pw_below_drewN | apply below_drew1) | exact HB.out)) hb); clear HB; have HB := n0_; clear n0_; (try clear hb); (try clear hb2); (try clear hk); (try clear hi)) | (go_at_call 23; (with_reducible refine (lexis_Span.calls k 3 false (⟨#[37, 122, 122]⟩ : ByteArray) t144 _ A3.out).mono ?_); rintro e w23 ⟨rfl, hb⟩; have n0_ := Aside0.mk (below_step (by repeat (first | (with_reducible first | exact HB.out | apply below_alloc | apply pw_below_drewN | apply below_drew1) | exact HB.out)) hb); clear HB; have HB := n0_; clear n0_; (try clear hb); (try clear hb2); (try clear hk); (try clear hi)))
      go_ret
      exact ⟨by first | rfl | (simp [errW_none, errW_some] <;> rfl) | (simp [*, errW_none, errW_some] <;> rfl), by repeat (first | (with_reducible first | exact HB.out | apply below_alloc | apply pw_below_drewN | apply below_drew1) | exact HB.out)⟩
  · rw [if_neg c2] at H
    have c2b0 : (t143 == 5) = false := beq_eq_false_iff_ne.mpr c2
    have c2b1 : (t143 != 5) = true := bne_iff_ne.mpr c2
    obtain rfl := Option.some.inj H
    go_enter Try.func8, Try.ntmps8
    go_wp2_with (first | ((with_reducible refine gate_callee (f := 23) rfl ?_); refine goesL_ (some 1) rfl rfl Try.func23 (by kernel_rfl) rfl #[.int .i64 3, .bool false, .string (⟨#[97, 37, 50, 70, 98, 47, 99]⟩ : ByteArray)] rfl (by (try simp only [List.map_toArray, List.map_cons, List.map_nil]); first | done | rfl | (simp only [List.length_drop, List.length_take]; rfl)) ?_; (with_reducible refine (lexis_Span.calls k 3 false (⟨#[97, 37, 50, 70, 98, 47, 99]⟩ : ByteArray) t143 _ A1.out).mono ?_); rintro e w24 ⟨rfl, hb⟩; refine ⟨_, rfl, ?_⟩; have n0_ := Aside0.mk (below_step (by repeat (first | (with_reducible first | exact HB.out | apply below_alloc | apply pw_below_drewN | apply below_drew1) | exact HB.out)) hb); clear HB; have HB := n0_; clear n0_; (try clear hb); (try clear hb2); (try clear hk); (try clear hi)))
    go_ret
    exact ⟨by first | rfl | (simp [errW_none, errW_some] <;> rfl) | (simp [*, errW_none, errW_some] <;> rfl), by repeat (first | (with_reducible first | exact HB.out | apply below_alloc | apply pw_below_drewN | apply below_drew1) | exact HB.out)⟩

/-! ### monikerlaw18_LexisBytes: function 3 -/
def monikerlaw18_LexisBytes.f (k : Nat) (a0 : Int) (a1 : Int) : Option (Bool) := (lexis_Plain.f k a0 a1).bind fun t148 => ((monikerref18_Plain.f k a0 a1).bind fun t149 => (if (t148 == t149) = true then ((monikerlaw18_awake.f k).bind fun t150 => (some t150)) else (some false)))
theorem monikerlaw18_LexisBytes.mono : ∀ a0 a1 k, LeO (monikerlaw18_LexisBytes.f k a0 a1) (monikerlaw18_LexisBytes.f (k + 1) a0 a1) := by
  intro a0 a1 k
  unfold monikerlaw18_LexisBytes.f
  repeat' first
      | (with_reducible exact lexis_Plain.mono _ _ _)
      | (with_reducible exact monikerlaw18_awake.mono _)
      | (with_reducible exact monikerref18_Plain.mono _ _ _)
      | (with_reducible exact LeO.refl _)
      | (with_reducible exact LeO.none _)
      | (with_reducible refine LeO.ite ?_ ?_)
      | (with_reducible refine LeO.bind ?_ (fun _ => ?_))
      | exact lexis_Plain.mono _ _ _
      | exact monikerlaw18_awake.mono _
      | exact monikerref18_Plain.mono _ _ _
      | exact LeO.none _
      | refine LeO.ite ?_ ?_
      | refine LeO.bind ?_ (fun _ => ?_)
set_option maxHeartbeats 8000000 in
set_option maxRecDepth 100000 in
theorem monikerlaw18_LexisBytes.calls (k : Nat) (a0 : Int) (a1 : Int) (r : Bool) (w : World) (h : monikerlaw18_LexisBytes.f k a0 a1 = some r) :
    Calls Try.prog 3 #[.int .i64 a0, .int .u8 a1] w fun e w' => e = .returned (.bool r) ∧ Below w.heap.size w w' := by
  have HB := Aside0.mk (Below.refl w.heap.size w)
  have H : ((lexis_Plain.f k a0 a1).bind fun t148 => ((monikerref18_Plain.f k a0 a1).bind fun t149 => (if (t148 == t149) = true then ((monikerlaw18_awake.f k).bind fun t150 => (some t150)) else (some false)))) = some r := h
  clear h
  replace H := Option.bind_eq_some_iff.mp H
  obtain ⟨t148, A30, H⟩ := H
  replace H : ((monikerref18_Plain.f k a0 a1).bind fun t149 => (if (t148 == t149) = true then ((monikerlaw18_awake.f k).bind fun t150 => (some t150)) else (some false))) = some r := H
  have A3 := Aside0.mk A30
  clear A30
  replace H := Option.bind_eq_some_iff.mp H
  obtain ⟨t149, A40, H⟩ := H
  replace H : (if (t148 == t149) = true then ((monikerlaw18_awake.f k).bind fun t150 => (some t150)) else (some false)) = some r := H
  have A4 := Aside0.mk A40
  clear A40
  by_cases c5 : (t148 == t149) = true
  · rw [if_pos c5] at H
    have c5b0 : (t148 == t149) = true := c5
    (try (have c5b1 : decide (t148 = t149) = true := by simpa using c5))
    (try (have c5b2 : (t148 == t149) = true := by simpa using c5))
    clear c5
    replace H := Option.bind_eq_some_iff.mp H
    obtain ⟨t150, A60, H⟩ := H
    replace H : (some t150) = some r := H
    have A6 := Aside0.mk A60
    clear A60
    obtain rfl := Option.some.inj H
    go_enter Try.func3, Try.ntmps3
    go_wp2_with (first | ((with_reducible refine gate_callee (f := 6) rfl ?_); refine goesL_ (some 7) rfl rfl Try.func6 (by kernel_rfl) rfl #[.int .i64 a0, .int .u8 a1] rfl (by (try simp only [List.map_toArray, List.map_cons, List.map_nil]); first | done | rfl | (simp only [List.length_drop, List.length_take]; rfl)) ?_; (with_reducible refine (lexis_Plain.calls k a0 a1 t148 _ A3.out).mono ?_); rintro e w7 ⟨rfl, hb⟩; refine ⟨_, rfl, ?_⟩; have n0_ := Aside0.mk (below_step (by repeat (first | (with_reducible first | exact HB.out | apply below_alloc | apply pw_below_drewN | apply below_drew1) | exact HB.out)) hb); clear HB; have HB := n0_; clear n0_; (try clear hb); (try clear hb2); (try clear hk); (try clear hi)) | ((with_reducible refine gate_callee (f := 7) rfl ?_); refine goesL_ (some 10) rfl rfl Try.func7 (by kernel_rfl) rfl #[.int .i64 a0, .int .u8 a1] rfl (by (try simp only [List.map_toArray, List.map_cons, List.map_nil]); first | done | rfl | (simp only [List.length_drop, List.length_take]; rfl)) ?_; (with_reducible refine (monikerref18_Plain.calls k a0 a1 t149 _ A4.out).mono ?_); rintro e w8 ⟨rfl, hb⟩; refine ⟨_, rfl, ?_⟩; have n0_ := Aside0.mk (below_step (by repeat (first | (with_reducible first | exact HB.out | apply below_alloc | apply pw_below_drewN | apply below_drew1) | exact HB.out)) hb); clear HB; have HB := n0_; clear n0_; (try clear hb); (try clear hb2); (try clear hk); (try clear hi)) | (go_at_call 8; (with_reducible refine (monikerlaw18_awake.calls k  t150 _ A6.out).mono ?_); rintro e w9 ⟨rfl, hb⟩; have n0_ := Aside0.mk (below_step (by repeat (first | (with_reducible first | exact HB.out | apply below_alloc | apply pw_below_drewN | apply below_drew1) | exact HB.out)) hb); clear HB; have HB := n0_; clear n0_; (try clear hb); (try clear hb2); (try clear hk); (try clear hi)))
    go_ret
    exact ⟨by first | rfl | (simp [errW_none, errW_some] <;> rfl) | (simp [*, errW_none, errW_some] <;> rfl), by repeat (first | (with_reducible first | exact HB.out | apply below_alloc | apply pw_below_drewN | apply below_drew1) | exact HB.out)⟩
  · rw [if_neg c5] at H
    have c5b0 : (t148 == t149) = false := by simpa using c5
    (try (have c5b1 : decide (t148 = t149) = false := by simpa using c5))
    (try (have c5b2 : (t148 == t149) = false := by simpa using c5))
    (try (have c5b3 : ¬ (t148 = t149) := by simpa using c5))
    clear c5
    obtain rfl := Option.some.inj H
    go_enter Try.func3, Try.ntmps3
    go_wp2_with (first | ((with_reducible refine gate_callee (f := 6) rfl ?_); refine goesL_ (some 7) rfl rfl Try.func6 (by kernel_rfl) rfl #[.int .i64 a0, .int .u8 a1] rfl (by (try simp only [List.map_toArray, List.map_cons, List.map_nil]); first | done | rfl | (simp only [List.length_drop, List.length_take]; rfl)) ?_; (with_reducible refine (lexis_Plain.calls k a0 a1 t148 _ A3.out).mono ?_); rintro e w10 ⟨rfl, hb⟩; refine ⟨_, rfl, ?_⟩; have n0_ := Aside0.mk (below_step (by repeat (first | (with_reducible first | exact HB.out | apply below_alloc | apply pw_below_drewN | apply below_drew1) | exact HB.out)) hb); clear HB; have HB := n0_; clear n0_; (try clear hb); (try clear hb2); (try clear hk); (try clear hi)) | ((with_reducible refine gate_callee (f := 7) rfl ?_); refine goesL_ (some 10) rfl rfl Try.func7 (by kernel_rfl) rfl #[.int .i64 a0, .int .u8 a1] rfl (by (try simp only [List.map_toArray, List.map_cons, List.map_nil]); first | done | rfl | (simp only [List.length_drop, List.length_take]; rfl)) ?_; (with_reducible refine (monikerref18_Plain.calls k a0 a1 t149 _ A4.out).mono ?_); rintro e w11 ⟨rfl, hb⟩; refine ⟨_, rfl, ?_⟩; have n0_ := Aside0.mk (below_step (by repeat (first | (with_reducible first | exact HB.out | apply below_alloc | apply pw_below_drewN | apply below_drew1) | exact HB.out)) hb); clear HB; have HB := n0_; clear n0_; (try clear hb); (try clear hb2); (try clear hk); (try clear hi)))
    go_ret
    exact ⟨by first | rfl | (simp [errW_none, errW_some] <;> rfl) | (simp [*, errW_none, errW_some] <;> rfl), by repeat (first | (with_reducible first | exact HB.out | apply below_alloc | apply pw_below_drewN | apply below_drew1) | exact HB.out)⟩

/-- THE ONE PURE STATEMENT of monikerlaw18_LexisBytes: yours. -/
def monikerlaw18_LexisBytes.Pure : Prop := ∀ (a0 : Int) (a1 : Int), (Lit.int .i64 a0).wf = true → (Lit.int .u8 a1).wf = true → ∃ k, monikerlaw18_LexisBytes.f k a0 a1 = some true
theorem monikerlaw18_LexisBytes.walk (P : monikerlaw18_LexisBytes.Pure) (a0 : Int) (a1 : Int) (w : World) (w0 : (Lit.int .i64 a0).wf = true) (w1 : (Lit.int .u8 a1).wf = true) :
    Calls Try.prog 3 #[.int .i64 a0, .int .u8 a1] w fun e w' => e = .returned (.bool true) ∧ Below w.heap.size w w' := by
  obtain ⟨k, h⟩ := P a0 a1 w0 w1
  refine (monikerlaw18_LexisBytes.calls k a0 a1 true w h).mono ?_
  rintro e w' ⟨rfl, hd⟩
  exact ⟨rfl, hd⟩

end Go.Proofs.Ytcfoggglbcmhpaa.PAll
