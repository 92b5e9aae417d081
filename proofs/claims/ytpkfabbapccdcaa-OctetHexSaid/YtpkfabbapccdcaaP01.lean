/- Plain facts on the printed functions of chapter 01: spans, searches, cases, hexadecimal digits. No condition but those that each names. -/
import Derived.Test.YtpkfabbapccdcaaOct
import Derived.Test.YtpkfabbapccdcaaBy
import Derived.Test.YtpkfabbapccdcaaPAllx
namespace Go.Proofs.Ytpkfabbapccdcaa.P01
open Go.RowKit Go.Proofs.Ytpkfabbapccdcaa.PAll Go.Proofs.Ytpkfabbapccdcaa.Oct Go.Proofs.Ytpkfabbapccdcaa.By Go.Proofs.YtpkfabbapccdcaaW.PrintWords Go.Proofs.YtpkfabbapccdcaaW.PrintLast
set_option linter.unusedVariables false

theorem bt_at0 (s : ByteArray) (i : Nat) (h : i < s.size) : 0 ≤ bt s i ∧ bt s i ≤ 255 := bt_range s i

theorem awake_ev : Ev (fun k => monikerlaw01_awake.f k) true := Ev.of (fun k => monikerlaw01_awake.mono k) (k := 20) (by kernel_rfl)

/-! spans -/
def spn (c : Int) : List Int → Int → Int
  | [], i => i
  | b :: r, i => if (Go.bits .and .i64 (cls b) c != 0) = true then spn c r (i + 1) else i
theorem Span_from (s : ByteArray) (c : Int) (hs : s.size ≤ 140737488355328) : ∀ i : Nat, i ≤ s.size → Ev (fun k => octet_Span.l0 k s c (s.size : Int) (i : Int)) (spn c ((bytesOf s).drop i) i) := by
  apply from_end
  · refine Ev.step (f := fun k => some (s.size : Int)) (fun k => ?_) ?_
    · simp only [octet_Span.l0]; rw [if_neg (by omega)]
    · rw [drop_end]; exact Ev.now _
  · intro i hi ih
    rw [drop_bytes s i hi]
    refine Ev.step (f := fun k => (octet_Is.f k (bt s i) c).bind fun t => if t = true then octet_Span.l0 k s c (s.size : Int) ((i + 1 : Nat) : Int) else some (i : Int)) (fun k => ?_) ?_
    · simp only [octet_Span.l0]; rw [if_pos (by omega), if_pos (by omega), if_pos (by omega), w64 (by omega) (by omega)]; rfl
    · refine Ev.bind (f := fun k t => if t = true then octet_Span.l0 k s c (s.size : Int) ((i + 1 : Nat) : Int) else some (i : Int)) (Is_ev _ c (bt_at0 s i hi)) ?_
      unfold spn
      by_cases h : (Go.bits .and .i64 (cls (bt s i)) c != 0) = true
      · simp only [h, if_true]; exact ih
      · simp only [h, if_false, Bool.false_eq_true]; exact Ev.now _
theorem Span_ev (s : ByteArray) (c : Int) (hs : s.size ≤ 140737488355328) : Ev (fun k => octet_Span.f k s c) (spn c (bytesOf s) 0) := by
  have := Span_from s c hs 0 (Nat.zero_le _)
  simpa [octet_Span.f] using this
theorem refSpan_from (s : ByteArray) (c : Int) (hs : s.size ≤ 140737488355328) : ∀ i : Nat, i ≤ s.size → Ev (fun k => monikerref01_Span.l0 k s c (i : Int)) (spn c ((bytesOf s).drop i) i) := by
  apply from_end
  · refine Ev.step (f := fun k => some (s.size : Int)) (fun k => ?_) ?_
    · simp only [monikerref01_Span.l0]; rw [if_neg (by omega)]
    · rw [drop_end]; exact Ev.now _
  · intro i hi ih
    rw [drop_bytes s i hi]
    refine Ev.step (f := fun k => (monikerref01_Class.f k (bt s i)).bind fun t => if Go.bits .and .i64 t c = 0 then some (i : Int) else monikerref01_Span.l0 k s c ((i + 1 : Nat) : Int)) (fun k => ?_) ?_
    · simp only [monikerref01_Span.l0]; rw [if_pos (by omega), if_pos (by omega), w64 (by omega) (by omega)]; rfl
    · refine Ev.bind (f := fun k t => if Go.bits .and .i64 t c = 0 then some (i : Int) else monikerref01_Span.l0 k s c ((i + 1 : Nat) : Int)) (refClass_ev _) ?_
      unfold spn
      by_cases h : Go.bits .and .i64 (cls (bt s i)) c = 0
      · simp only [h, if_true, bne_self_eq_false, Bool.false_eq_true, if_false]; exact Ev.now _
      · have h2 : (Go.bits .and .i64 (cls (bt s i)) c != 0) = true := by simpa using h
        simp only [h, h2, if_true, if_false]; exact ih
theorem refSpan_ev (s : ByteArray) (c : Int) (hs : s.size ≤ 140737488355328) : Ev (fun k => monikerref01_Span.f k s c) (spn c (bytesOf s) 0) := by
  have := refSpan_from s c hs 0 (Nat.zero_le _)
  simpa [monikerref01_Span.f] using this

/-! the first of some bytes -/
def fst (set : List Int) : List Int → Int → Int
  | [], _ => -1
  | b :: r, i => if b ∈ set then i else fst set r (i + 1)
theorem Find_in (s set : ByteArray) (i : Nat) (hi : i < s.size) (r : Int) (hset : set.size ≤ 140737488355328) (hno : Ev (fun k => octet_Find.l0 k s set (wrap64 ((i : Int) + 1))) r) :
    ∀ j : Nat, j ≤ set.size → Ev (fun k => octet_Find.l1 k s set (i : Int) (set.size : Int) (j : Int)) (if bt s i ∈ (bytesOf set).drop j then (i : Int) else r) := by
  apply from_end
  · refine Ev.step (f := fun k => octet_Find.l0 k s set (wrap64 ((i : Int) + 1))) (fun k => ?_) ?_
    · simp only [octet_Find.l1]; rw [if_neg (by omega)]
    · rw [drop_end]; simpa using hno
  · intro j hj ih
    rw [drop_bytes set j hj]
    by_cases h : bt s i = bt set j
    · refine Ev.step (f := fun k => some (i : Int)) (fun k => ?_) ?_
      · simp only [octet_Find.l1]; rw [if_pos (by omega), if_pos (by omega), if_pos (by omega), if_pos (by omega), if_pos (by omega), if_pos h]
      · rw [h]; simp only [List.mem_cons, true_or, if_true]; exact Ev.now _
    · refine Ev.step (f := fun k => octet_Find.l1 k s set (i : Int) (set.size : Int) ((j + 1 : Nat) : Int)) (fun k => ?_) ?_
      · simp only [octet_Find.l1]; rw [if_pos (by omega), if_pos (by omega), if_pos (by omega), if_pos (by omega), if_pos (by omega), if_neg h, w64 (by omega) (by omega)]; rfl
      · have e : (bt s i ∈ bt set j :: (bytesOf set).drop (j + 1)) ↔ bt s i ∈ (bytesOf set).drop (j + 1) := by simp [h]
        simp only [e]; exact ih
theorem Find_from (s set : ByteArray) (hs : s.size ≤ 140737488355328) (hset : set.size ≤ 140737488355328) : ∀ i : Nat, i ≤ s.size → Ev (fun k => octet_Find.l0 k s set (i : Int)) (fst (bytesOf set) ((bytesOf s).drop i) i) := by
  apply from_end
  · refine Ev.step (f := fun k => some (-1)) (fun k => ?_) ?_
    · simp only [octet_Find.l0]; rw [if_neg (by omega)]
    · rw [drop_end]; exact Ev.now _
  · intro i hi ih
    rw [drop_bytes s i hi]
    refine Ev.step (f := fun k => octet_Find.l1 k s set (i : Int) (set.size : Int) ((0 : Nat) : Int)) (fun k => ?_) ?_
    · simp only [octet_Find.l0]; rw [if_pos (by omega)]; rfl
    · have := Find_in s set i hi _ hset (by rw [w64 (by omega) (by omega)]; exact ih) 0 (Nat.zero_le _)
      simpa [fst] using this
theorem Find_ev (s set : ByteArray) (f : Int) (hs : s.size ≤ 140737488355328) (hset : set.size ≤ 140737488355328) : Ev (fun k => octet_Find.f k s f set) (fst (bytesOf set) ((bytesOf s).drop f.toNat) f.toNat) := by
  have e : mx f 0 = ((f.toNat : Nat) : Int) := by unfold mx; omega
  simp only [octet_Find.f, e]
  by_cases h : f.toNat ≤ s.size
  · exact Find_from s set hs hset _ h
  · refine Ev.step (f := fun k => some (-1)) (fun k => ?_) ?_
    · simp only [octet_Find.l0]; rw [if_neg (by omega)]
    · rw [List.drop_eq_nil_of_le (by rw [bytesOf_length]; omega)]; exact Ev.now _
theorem fst_ge (set : List Int) : ∀ (l : List Int) (i : Int), 0 ≤ i → fst set l i = -1 ∨ i ≤ fst set l i := by
  intro l
  induction l with
  | nil => intro i _; exact .inl rfl
  | cons b r ih =>
    intro i hi
    unfold fst
    by_cases h : b ∈ set
    · rw [if_pos h]; exact .inr (Int.le_refl _)
    · rw [if_neg h]
      rcases ih (i + 1) (by omega) with h | h
      · exact .inl h
      · exact .inr (by omega)
end Go.Proofs.Ytpkfabbapccdcaa.P01
