/- Plain facts on the printed functions of octet and monikerref01: what each answers. No condition but those that each names. -/
import Derived.Test.YtcfoggglbcmhpaaPAllx3
namespace Go.Proofs.Ytcfoggglbcmhpaa.Oct
open Go.RowKit Go.Proofs.Ytcfoggglbcmhpaa.PAll Go.Proofs.YtcfoggglbcmhpaaW.PrintWords Go.Proofs.YtcfoggglbcmhpaaW.PrintLast
set_option linter.unusedVariables false

theorem w64 {x : Int} (h1 : -9223372036854775808 ≤ x) (h2 : x ≤ 9223372036854775807) : wrap64 x = x := by unfold wrap64; omega
theorem drop_bytes (s : ByteArray) (i : Nat) (h : i < s.size) : (bytesOf s).drop i = bt s i :: (bytesOf s).drop (i + 1) := by
  have hl : i < (bytesOf s).length := by rw [bytesOf_length]; exact h
  rw [List.drop_eq_getElem_cons hl]
  congr 1
  rw [← rd_bytesOf]
  simp [rd, List.getD_eq_getElem?_getD, hl]
theorem drop_end (s : ByteArray) : (bytesOf s).drop s.size = [] := by
  rw [List.drop_eq_nil_iff, bytesOf_length]; exact Nat.le_refl _
/-- Down from the end of a text. -/
theorem from_end {p : Nat → Prop} (n : Nat) (h0 : p n) (hs : ∀ i, i < n → p (i + 1) → p i) : ∀ i, i ≤ n → p i := by
  intro i hi
  obtain ⟨d, hd⟩ : ∃ d, n - i = d := ⟨_, rfl⟩
  induction d generalizing i with
  | zero => obtain rfl : i = n := by omega
            exact h0
  | succ d ih => exact hs i (by omega) (ih (i + 1) (by omega) (by omega))

theorem In_from (b : Int) (s : ByteArray) (hs : s.size ≤ 140737488355328) : ∀ i : Nat, i ≤ s.size → Ev (fun k => monikerref01_In.l0 k b s (i : Int)) (decide (b ∈ (bytesOf s).drop i)) := by
  apply from_end
  · refine Ev.step (f := fun k => some false) (fun k => ?_) ?_
    · simp only [monikerref01_In.l0]; rw [if_neg (by omega)]
    · rw [drop_end]; exact Ev.now _
  · intro i hi ih
    rw [drop_bytes s i hi]
    by_cases hb : bt s i = b
    · refine Ev.step (f := fun k => some true) (fun k => ?_) ?_
      · simp only [monikerref01_In.l0]; rw [if_pos (by omega), if_pos (by omega), if_pos hb]
      · rw [hb]; simp only [List.mem_cons, true_or, decide_true]; exact Ev.now _
    · refine Ev.step (f := fun k => monikerref01_In.l0 k b s ((i + 1 : Nat) : Int)) (fun k => ?_) ?_
      · simp only [monikerref01_In.l0]; rw [if_pos (by omega), if_pos (by omega), if_neg hb, w64 (by omega) (by omega)]; rfl
      · have e : (b ∈ bt s i :: (bytesOf s).drop (i + 1)) ↔ b ∈ (bytesOf s).drop (i + 1) := by simp [Ne.symm hb]
        rw [decide_eq_decide.2 e]; exact ih
theorem In_ev (b : Int) (s : ByteArray) (hs : s.size ≤ 140737488355328) : Ev (fun k => monikerref01_In.f k b s) (decide (b ∈ bytesOf s)) := by
  have := In_from b s hs 0 (Nat.zero_le _)
  simpa [monikerref01_In.f] using this

/-- The document's class of a byte. -/
def cls (b : Int) : Int :=
  (if b ∈ ([65, 66, 67, 68, 69, 70, 71, 72, 73, 74, 75, 76, 77, 78, 79, 80, 81, 82, 83, 84, 85, 86, 87, 88, 89, 90, 97, 98, 99, 100, 101, 102, 103, 104, 105, 106, 107, 108, 109, 110, 111, 112, 113, 114, 115, 116, 117, 118, 119, 120, 121, 122] : List Int) then 1 else 0) +
  (if b ∈ ([48, 49, 50, 51, 52, 53, 54, 55, 56, 57] : List Int) then 2 else 0) +
  (if b ∈ ([45, 46, 95, 126] : List Int) then 4 else 0) +
  (if b ∈ ([33, 36, 38, 39, 40, 41, 42, 43, 44, 59, 61] : List Int) then 8 else 0) +
  (if b ∈ ([58, 47, 63, 35, 91, 93, 64] : List Int) then 16 else 0) +
  (if b ∈ ([48, 49, 50, 51, 52, 53, 54, 55, 56, 57, 65, 66, 67, 68, 69, 70, 97, 98, 99, 100, 101, 102] : List Int) then 32 else 0)
theorem cls_bounds (b : Int) : 0 ≤ cls b ∧ cls b ≤ 63 := by
  unfold cls
  repeat' split
  all_goals omega
theorem Class_eq : ∀ n : Fin 256, octet_Class.f 8 ((n.val : Nat) : Int) = some (cls (n.val : Nat)) := by decide +kernel
theorem Class_ev (b : Int) (h : 0 ≤ b ∧ b ≤ 255) : Ev (fun k => octet_Class.f k b) (cls b) := by
  have := Class_eq ⟨b.toNat, by omega⟩
  simp only at this
  rw [show ((b.toNat : Nat) : Int) = b by omega] at this
  exact Ev.of (fun k => octet_Class.mono b k) this
theorem Is_ev (b c : Int) (h : 0 ≤ b ∧ b ≤ 255) : Ev (fun k => octet_Is.f k b c) (Go.bits .and .i64 (cls b) c != 0) := by
  unfold octet_Is.f
  exact Ev.bind (f := fun _ t => some (Go.bits .and .i64 t c != 0)) (Class_ev b h) (Ev.now _)
theorem refClass_ev (b : Int) : Ev (fun k => monikerref01_Class.f k b) (cls b) := by
  have h1 := In_ev b (⟨#[65, 66, 67, 68, 69, 70, 71, 72, 73, 74, 75, 76, 77, 78, 79, 80, 81, 82, 83, 84, 85, 86, 87, 88, 89, 90, 97, 98, 99, 100, 101, 102, 103, 104, 105, 106, 107, 108, 109, 110, 111, 112, 113, 114, 115, 116, 117, 118, 119, 120, 121, 122]⟩ : ByteArray) (by decide)
  have h2 := In_ev b (⟨#[48, 49, 50, 51, 52, 53, 54, 55, 56, 57]⟩ : ByteArray) (by decide)
  have h3 := In_ev b (⟨#[45, 46, 95, 126]⟩ : ByteArray) (by decide)
  have h4 := In_ev b (⟨#[33, 36, 38, 39, 40, 41, 42, 43, 44, 59, 61]⟩ : ByteArray) (by decide)
  have h5 := In_ev b (⟨#[58, 47, 63, 35, 91, 93, 64]⟩ : ByteArray) (by decide)
  have h6 := In_ev b (⟨#[48, 49, 50, 51, 52, 53, 54, 55, 56, 57, 65, 66, 67, 68, 69, 70, 97, 98, 99, 100, 101, 102]⟩ : ByteArray) (by decide)
  simp only [show bytesOf (⟨#[65, 66, 67, 68, 69, 70, 71, 72, 73, 74, 75, 76, 77, 78, 79, 80, 81, 82, 83, 84, 85, 86, 87, 88, 89, 90, 97, 98, 99, 100, 101, 102, 103, 104, 105, 106, 107, 108, 109, 110, 111, 112, 113, 114, 115, 116, 117, 118, 119, 120, 121, 122]⟩ : ByteArray) = [65, 66, 67, 68, 69, 70, 71, 72, 73, 74, 75, 76, 77, 78, 79, 80, 81, 82, 83, 84, 85, 86, 87, 88, 89, 90, 97, 98, 99, 100, 101, 102, 103, 104, 105, 106, 107, 108, 109, 110, 111, 112, 113, 114, 115, 116, 117, 118, 119, 120, 121, 122] from rfl] at h1
  simp only [show bytesOf (⟨#[48, 49, 50, 51, 52, 53, 54, 55, 56, 57]⟩ : ByteArray) = [48, 49, 50, 51, 52, 53, 54, 55, 56, 57] from rfl] at h2
  simp only [show bytesOf (⟨#[45, 46, 95, 126]⟩ : ByteArray) = [45, 46, 95, 126] from rfl] at h3
  simp only [show bytesOf (⟨#[33, 36, 38, 39, 40, 41, 42, 43, 44, 59, 61]⟩ : ByteArray) = [33, 36, 38, 39, 40, 41, 42, 43, 44, 59, 61] from rfl] at h4
  simp only [show bytesOf (⟨#[58, 47, 63, 35, 91, 93, 64]⟩ : ByteArray) = [58, 47, 63, 35, 91, 93, 64] from rfl] at h5
  simp only [show bytesOf (⟨#[48, 49, 50, 51, 52, 53, 54, 55, 56, 57, 65, 66, 67, 68, 69, 70, 97, 98, 99, 100, 101, 102]⟩ : ByteArray) = [48, 49, 50, 51, 52, 53, 54, 55, 56, 57, 65, 66, 67, 68, 69, 70, 97, 98, 99, 100, 101, 102] from rfl] at h6
  unfold cls
  generalize ([65, 66, 67, 68, 69, 70, 71, 72, 73, 74, 75, 76, 77, 78, 79, 80, 81, 82, 83, 84, 85, 86, 87, 88, 89, 90, 97, 98, 99, 100, 101, 102, 103, 104, 105, 106, 107, 108, 109, 110, 111, 112, 113, 114, 115, 116, 117, 118, 119, 120, 121, 122] : List Int) = l1 at h1 ⊢
  generalize ([48, 49, 50, 51, 52, 53, 54, 55, 56, 57, 65, 66, 67, 68, 69, 70, 97, 98, 99, 100, 101, 102] : List Int) = l6 at h6 ⊢
  generalize ([48, 49, 50, 51, 52, 53, 54, 55, 56, 57] : List Int) = l2 at h2 ⊢
  generalize ([45, 46, 95, 126] : List Int) = l3 at h3 ⊢
  generalize ([33, 36, 38, 39, 40, 41, 42, 43, 44, 59, 61] : List Int) = l4 at h4 ⊢
  generalize ([58, 47, 63, 35, 91, 93, 64] : List Int) = l5 at h5 ⊢
  have j3 : ∀ x : Int, 0 ≤ x → x ≤ 15 → Ev (fun k => monikerref01_Class.j3 k b x) (x + (if b ∈ l5 then 16 else 0) + (if b ∈ l6 then 32 else 0)) := by
    intro x h0 h1
    refine Ev.step (fun k => by simp only [monikerref01_Class.j3]) (Ev.bind (f := fun k t107 => if t107 = true then ((monikerref01_In.f k b (⟨#[48, 49, 50, 51, 52, 53, 54, 55, 56, 57, 65, 66, 67, 68, 69, 70, 97, 98, 99, 100, 101, 102]⟩ : ByteArray)).bind fun t108 => (if t108 = true then (some (wrap64 ((wrap64 (x + 16)) + 32))) else (some (wrap64 (x + 16))))) else ((monikerref01_In.f k b (⟨#[48, 49, 50, 51, 52, 53, 54, 55, 56, 57, 65, 66, 67, 68, 69, 70, 97, 98, 99, 100, 101, 102]⟩ : ByteArray)).bind fun t109 => (if t109 = true then (some (wrap64 (x + 32))) else (some x)))) h5 ?_)
    by_cases m5 : b ∈ l5
    · simp only [m5, decide_true, if_true]
      refine Ev.bind (f := fun _ t108 => if t108 = true then (some (wrap64 ((wrap64 (x + 16)) + 32))) else (some (wrap64 (x + 16)))) h6 ?_
      by_cases m6 : b ∈ l6
      · simp only [m6, decide_true, if_true]; rw [w64 (x := x + 16) (by omega) (by omega), w64 (by omega) (by omega)]; exact Ev.now _
      · simp only [m6, decide_false, if_false, Bool.false_eq_true]; rw [w64 (x := x + 16) (by omega) (by omega), Int.add_zero]; exact Ev.now _
    · simp only [m5, decide_false, if_false, Bool.false_eq_true]
      refine Ev.bind (f := fun _ t108 => if t108 = true then (some (wrap64 (x + 32))) else (some x)) h6 ?_
      by_cases m6 : b ∈ l6
      · simp only [m6, decide_true, if_true]; rw [w64 (by omega) (by omega), Int.add_zero]; exact Ev.now _
      · simp only [m6, decide_false, if_false, Bool.false_eq_true]; rw [Int.add_zero, Int.add_zero]; exact Ev.now _
  have j2 : ∀ x : Int, 0 ≤ x → x ≤ 7 → Ev (fun k => monikerref01_Class.j2 k b x) (x + (if b ∈ l4 then 8 else 0) + (if b ∈ l5 then 16 else 0) + (if b ∈ l6 then 32 else 0)) := by
    intro x h0 h1
    refine Ev.step (fun k => by simp only [monikerref01_Class.j2]) (Ev.bind (f := fun k t => if t = true then monikerref01_Class.j3 k b (wrap64 (x + 8)) else monikerref01_Class.j3 k b x) h4 ?_)
    by_cases m : b ∈ l4
    · simp only [m, decide_true, if_true]; rw [w64 (by omega) (by omega)]; exact j3 _ (by omega) (by omega)
    · simp only [m, decide_false, if_false, Bool.false_eq_true]; rw [Int.add_zero]; exact j3 _ (by omega) (by omega)
  have j1 : ∀ x : Int, 0 ≤ x → x ≤ 3 → Ev (fun k => monikerref01_Class.j1 k b x) (x + (if b ∈ l3 then 4 else 0) + (if b ∈ l4 then 8 else 0) + (if b ∈ l5 then 16 else 0) + (if b ∈ l6 then 32 else 0)) := by
    intro x h0 h1
    refine Ev.step (fun k => by simp only [monikerref01_Class.j1]) (Ev.bind (f := fun k t => if t = true then monikerref01_Class.j2 k b (wrap64 (x + 4)) else monikerref01_Class.j2 k b x) h3 ?_)
    by_cases m : b ∈ l3
    · simp only [m, decide_true, if_true]; rw [w64 (by omega) (by omega)]; exact j2 _ (by omega) (by omega)
    · simp only [m, decide_false, if_false, Bool.false_eq_true]; rw [Int.add_zero]; exact j2 _ (by omega) (by omega)
  have j0 : ∀ x : Int, 0 ≤ x → x ≤ 1 → Ev (fun k => monikerref01_Class.j0 k b x) (x + (if b ∈ l2 then 2 else 0) + (if b ∈ l3 then 4 else 0) + (if b ∈ l4 then 8 else 0) + (if b ∈ l5 then 16 else 0) + (if b ∈ l6 then 32 else 0)) := by
    intro x h0 h1
    refine Ev.step (fun k => by simp only [monikerref01_Class.j0]) (Ev.bind (f := fun k t => if t = true then monikerref01_Class.j1 k b (wrap64 (x + 2)) else monikerref01_Class.j1 k b x) h2 ?_)
    by_cases m : b ∈ l2
    · simp only [m, decide_true, if_true]; rw [w64 (by omega) (by omega)]; exact j1 _ (by omega) (by omega)
    · simp only [m, decide_false, if_false, Bool.false_eq_true]; rw [Int.add_zero]; exact j1 _ (by omega) (by omega)
  unfold monikerref01_Class.f
  refine Ev.bind (f := fun k t => if t = true then monikerref01_Class.j0 k b (0 + 1) else monikerref01_Class.j0 k b 0) h1 ?_
  by_cases m : b ∈ l1
  · simp only [m, decide_true, if_true]; exact j0 1 (by omega) (by omega)
  · simp only [m, decide_false, if_false, Bool.false_eq_true]; exact j0 0 (by omega) (by omega)
end Go.Proofs.Ytcfoggglbcmhpaa.Oct
