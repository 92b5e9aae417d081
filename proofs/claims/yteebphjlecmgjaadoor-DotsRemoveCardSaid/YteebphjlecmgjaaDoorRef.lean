/- The document's rules on dot segments answer what is left by segments. Condition: the path is of at most 300 bytes. -/
import Derived.Test.YteebphjlecmgjaaDoorRem
namespace Go.Proofs.YteebphjlecmgjaaDoor.Rem
open Go.RowKit Go.Proofs.YteebphjlecmgjaaDoor.PAll Go.Proofs.YteebphjlecmgjaaDoor.By Go.Proofs.YteebphjlecmgjaaDoor.Seg Go.Proofs.YteebphjlecmgjaaDoorW.PrintWords Go.Proofs.YteebphjlecmgjaaDoorW.PrintLast
set_option linter.unusedVariables false
theorem pre_word {r' : List Int} (hr : r' = [] ∨ sl r') : ∀ (a b : List Int), (∀ y ∈ a, y ≠ 47) → (∀ y ∈ b, y ≠ 47) → (a ++ r').take (b.length + 1) = b ++ [47] → a = b
  | [], [], _, _, _ => rfl
  | [], y :: b, _, hb, h => by
    rcases hr with rfl | ⟨t, rfl⟩
    · simp at h
    · simp at h
      exact absurd h.1.symm (hb y List.mem_cons_self)
  | x :: a, [], ha, _, h => by
    simp at h
    exact absurd h (ha x List.mem_cons_self)
  | x :: a, y :: b, ha, hb, h => by
    simp only [List.cons_append, List.length_cons, List.take_succ_cons, List.cons.injEq] at h
    rw [h.1, pre_word hr a b (fun z hz => ha z (List.mem_cons_of_mem _ hz)) (fun z hz => hb z (List.mem_cons_of_mem _ hz)) h.2]
theorem whole_word {r' : List Int} (hr : r' = [] ∨ sl r') {a b : List Int} (hb : ∀ y ∈ b, y ≠ 47) (h : a ++ r' = b) : a = b := by
  rcases hr with rfl | ⟨t, rfl⟩
  · simpa using h
  · exact absurd rfl (hb 47 (by rw [← h]; simp))
/-- No rule but the last one fits. -/
theorem no_rule (x o : ByteArray) (c : Int) (a r' : List Int) (hx : bytesOf x = c :: (a ++ r')) (ha : ∀ y ∈ a, y ≠ 47) (hr : r' = [] ∨ sl r') (h1 : c = 47 → ok a) (h2 : c ≠ 47 → ok (c :: a)) {res : ByteArray}
    (hk : Ev (fun k => monikerref23_Remove.l1 k x o 1) res) : Ev (fun k => monikerref23_Remove.l0 k x o) res := by
  have w1 : ∀ y ∈ ([46] : List Int), y ≠ 47 := by decide
  have w2 : ∀ y ∈ ([46, 46] : List Int), y ≠ 47 := by decide
  have w0 : ∀ y ∈ ([] : List Int), y ≠ 47 := fun y h => by cases h
  have n0 : ¬ x.toList = ([] : List UInt8) := fun e => by
    have := (is_list x [] [] rfl).1 e
    rw [hx] at this; cases this
  have b1 : cutB x (⟨#[46, 46, 47]⟩ : ByteArray) = false := Bool.eq_false_iff.2 fun e => by
    have e2 := (begins_iff x _ [46, 46, 47] rfl).1 e
    rw [hx] at e2
    simp only [List.length_cons, List.length_nil, List.take_succ_cons, List.cons.injEq] at e2
    have := pre_word hr a [46] ha w1 e2.2
    subst this
    exact (h2 (by rw [e2.1]; decide)).2 (by rw [e2.1])
  have b2 : cutB x (⟨#[46, 47]⟩ : ByteArray) = false := Bool.eq_false_iff.2 fun e => by
    have e2 := (begins_iff x _ [46, 47] rfl).1 e
    rw [hx] at e2
    simp only [List.length_cons, List.length_nil, List.take_succ_cons, List.cons.injEq] at e2
    have := pre_word hr a [] ha w0 e2.2
    subst this
    exact (h2 (by rw [e2.1]; decide)).1 (by rw [e2.1])
  have b3 : cutB x (⟨#[47, 46, 47]⟩ : ByteArray) = false := Bool.eq_false_iff.2 fun e => by
    have e2 := (begins_iff x _ [47, 46, 47] rfl).1 e
    rw [hx] at e2
    simp only [List.length_cons, List.length_nil, List.take_succ_cons, List.cons.injEq] at e2
    exact (h1 e2.1).1 (pre_word hr a [46] ha w1 e2.2)
  have b4 : cutB x (⟨#[47, 46, 46, 47]⟩ : ByteArray) = false := Bool.eq_false_iff.2 fun e => by
    have e2 := (begins_iff x _ [47, 46, 46, 47] rfl).1 e
    rw [hx] at e2
    simp only [List.length_cons, List.length_nil, List.take_succ_cons, List.cons.injEq] at e2
    exact (h1 e2.1).2 (pre_word hr a [46, 46] ha w2 e2.2)
  have n1 : ¬ x.toList = ([47, 46] : List UInt8) := fun e => by
    have e2 := (is_list x [47, 46] [47, 46] rfl).1 e
    rw [hx] at e2
    injection e2 with e3 e4
    exact (h1 e3).1 (whole_word hr w1 e4)
  have n2 : ¬ x.toList = ([47, 46, 46] : List UInt8) := fun e => by
    have e2 := (is_list x [47, 46, 46] [47, 46, 46] rfl).1 e
    rw [hx] at e2
    injection e2 with e3 e4
    exact (h1 e3).2 (whole_word hr w2 e4)
  have n3 : ¬ x.toList = ([46] : List UInt8) := fun e => by
    have e2 := (is_list x [46] [46] rfl).1 e
    rw [hx] at e2
    injection e2 with e3 e4
    have := whole_word hr w0 e4
    subst this
    exact (h2 (by rw [e3]; decide)).1 (by rw [e3])
  have n4 : (x.toList == ([46, 46] : List UInt8)) = false := beq_eq_false_iff_ne.2 fun e => by
    have e2 := (is_list x [46, 46] [46, 46] rfl).1 e
    rw [hx] at e2
    injection e2 with e3 e4
    have := whole_word hr w1 e4
    subst this
    exact (h2 (by rw [e3]; decide)).2 (by rw [e3])
  refine Ev.step (f := fun k => monikerref23_Remove.j1 k x o false) (fun k => ?_) (Ev.step (fun k => ?_) hk)
  · simp only [monikerref23_Remove.l0, begins_eq, b1, b2, b3, b4, Option.bind_some, Bool.false_eq_true, if_false]
    rw [if_neg n0, if_neg n1, if_neg n2, if_neg n3, n4]
  · simp only [monikerref23_Remove.j1, Bool.false_eq_true, if_false]
theorem sizeS (l : List Int) : (strOfNums l).size = l.length := strOfNums_size l
theorem inB_app {a b : List Int} (h : inB (a ++ b)) : inB a ∧ inB b := ⟨fun x hx => h x (List.mem_append.2 (.inl hx)), fun x hx => h x (List.mem_append.2 (.inr hx))⟩
/-- From a slash on. -/
theorem ref_from : ∀ (f : Nat) (x o : ByteArray), (bytesOf x = [] ∨ sl (bytesOf x)) → x.size < f → o.size + x.size ≤ 300 → Ev (fun k => monikerref23_Remove.l0 k x o) (strOfNums (remL f (bytesOf o) (bytesOf x)))
  | 0, x, o, _, h, _ => by omega
  | f + 1, x, o, hs, hf, ho => by
    by_cases he : bytesOf x = []
    · rw [he, remL_nil, str_bytes]
      refine Ev.step (f := fun _ => some o) (fun k => ?_) (Ev.now _)
      simp only [monikerref23_Remove.l0]
      rw [if_pos ((is_list x [] [] rfl).2 he)]
    obtain ⟨t, ht⟩ := hs.resolve_left he
    obtain ⟨c, a, r', hd, ha, hr, hp, hdr⟩ := decomp (bytesOf x) he
    obtain rfl : c = 47 := by rw [ht] at hd; injection hd with h _; exact h.symm
    have hlen : x.size = 1 + a.length + r'.length := by rw [← bytesOf_length, hd]; simp; omega
    have hxB : inB (bytesOf x) := bytes_range x
    have hrB : inB r' := fun y hy => hxB y (by rw [hd]; simp [hy])
    have haB : inB (47 :: a) := fun y hy => hxB y (by rw [hd]; exact List.mem_cons.2 ((List.mem_cons.1 hy).imp_right (fun h => List.mem_append.2 (.inl h))))
    have n0 : ¬ x.toList = ([] : List UInt8) := fun e => he ((is_list x [] [] rfl).1 e)
    have b1 : cutB x (⟨#[46, 46, 47]⟩ : ByteArray) = false := Bool.eq_false_iff.2 fun e => by
      have e2 := (begins_iff x _ [46, 46, 47] rfl).1 e
      rw [hd] at e2
      exact absurd (List.cons.inj e2).1 (by decide)
    have b2 : cutB x (⟨#[46, 47]⟩ : ByteArray) = false := Bool.eq_false_iff.2 fun e => by
      have e2 := (begins_iff x _ [46, 47] rfl).1 e
      rw [hd] at e2
      exact absurd (List.cons.inj e2).1 (by decide)
    have slash : ∀ o' : ByteArray, o'.size ≤ o.size → 1 < x.size → Ev (fun k => monikerref23_Remove.l0 k (⟨#[47]⟩ : ByteArray) o') (strOfNums (bytesOf o' ++ [47])) := by
      intro o' h1 h2
      have hz : (⟨#[47]⟩ : ByteArray).size = 1 := rfl
      have := ref_from f (⟨#[47]⟩ : ByteArray) o' (.inr ⟨[], rfl⟩) (by rw [hz]; omega) (by rw [hz]; omega)
      rw [show bytesOf (⟨#[47]⟩ : ByteArray) = [47] from rfl, remL_free f _ [47] (by unfold free; decide) (by simp; omega)] at this
      exact this
    have hcut : bytesOf (strOfNums ((bytesOf o).take (ups (bytesOf o)))) = (bytesOf o).take (ups (bytesOf o)) := bytes_str _ (fun y hy => bytes_range o y (List.mem_of_mem_take hy))
    have hcz : (strOfNums ((bytesOf o).take (ups (bytesOf o)))).size ≤ o.size := by rw [sizeS, List.length_take, bytesOf_length]; omega
    rw [show remL (f + 1) (bytesOf o) (bytesOf x) = _ from rfl, remL, if_neg he, hdr, hp]
    by_cases a1 : a = [46]
    · -- '/.'
      subst a1
      rw [if_neg (by decide), if_pos (by decide)]
      rcases hr with rfl | ⟨u, rfl⟩
      · rw [if_pos rfl, remL_nil]
        have n1 : x.toList = ([47, 46] : List UInt8) := (is_list x [47, 46] [47, 46] rfl).2 hd
        have b3 : cutB x (⟨#[47, 46, 47]⟩ : ByteArray) = false := Bool.eq_false_iff.2 fun e => by
          have e2 := (begins_iff x _ [47, 46, 47] rfl).1 e
          rw [hd] at e2
          exact absurd e2 (by decide)
        refine Ev.step (fun k => ?_) (slash o (Nat.le_refl _) (by simp at hlen; omega))
        simp only [monikerref23_Remove.l0, begins_eq, b1, b2, b3, Option.bind_some, Bool.false_eq_true, if_false]
        rw [if_neg n0, if_pos n1]
      · rw [if_neg (by simp)]
        have b3 : cutB x (⟨#[47, 46, 47]⟩ : ByteArray) = true := (begins_iff x _ [47, 46, 47] rfl).2 (by rw [hd]; rfl)
        have hx2 : bytesOf (x.extract 2 x.size) = 47 :: u := by rw [drop_bytes, hd]; rfl
        have ih := ref_from f (x.extract 2 x.size) o (.inr ⟨u, hx2⟩) (by rw [ByteArray.size_extract]; simp at hlen; omega) (by rw [ByteArray.size_extract]; omega)
        rw [hx2] at ih
        refine Ev.step (fun k => ?_) ih
        simp only [monikerref23_Remove.l0, begins_eq, b1, b2, b3, Option.bind_some, Bool.false_eq_true, if_false, if_true]
        rw [if_neg n0, if_pos (by simp at hlen; omega)]
    by_cases a2 : a = [46, 46]
    · -- '/..'
      subst a2
      rw [if_pos (by decide)]
      have b3 : cutB x (⟨#[47, 46, 47]⟩ : ByteArray) = false := Bool.eq_false_iff.2 fun e => by
        have e2 := (begins_iff x _ [47, 46, 47] rfl).1 e
        rw [hd] at e2
        exact absurd e2 (by simp)
      have n1 : ¬ x.toList = ([47, 46] : List UInt8) := fun e => by
        have e2 := (is_list x [47, 46] [47, 46] rfl).1 e
        rw [hd] at e2
        exact absurd e2 (by simp)
      rcases hr with rfl | ⟨u, rfl⟩
      · rw [if_pos rfl, remL_nil]
        have n2 : x.toList = ([47, 46, 46] : List UInt8) := (is_list x [47, 46, 46] [47, 46, 46] rfl).2 hd
        have b4 : cutB x (⟨#[47, 46, 46, 47]⟩ : ByteArray) = false := Bool.eq_false_iff.2 fun e => by
          have e2 := (begins_iff x _ [47, 46, 46, 47] rfl).1 e
          rw [hd] at e2
          exact absurd e2 (by decide)
        have key := slash _ hcz (by simp at hlen; omega)
        rw [hcut] at key
        refine Ev.step (f := fun k => (monikerref23_cut.f k o).bind fun t => monikerref23_Remove.l0 k (⟨#[47]⟩ : ByteArray) t) (fun k => ?_) (Ev.bind (cut_ev o (by omega)) key)
        simp only [monikerref23_Remove.l0, begins_eq, b1, b2, b3, b4, Option.bind_some, Bool.false_eq_true, if_false]
        rw [if_neg n0, if_neg n1, if_pos n2]
      · rw [if_neg (by simp)]
        have b4 : cutB x (⟨#[47, 46, 46, 47]⟩ : ByteArray) = true := (begins_iff x _ [47, 46, 46, 47] rfl).2 (by rw [hd]; rfl)
        have hx2 : bytesOf (x.extract 3 x.size) = 47 :: u := by rw [drop_bytes, hd]; rfl
        have ih := ref_from f (x.extract 3 x.size) (strOfNums ((bytesOf o).take (ups (bytesOf o)))) (.inr ⟨u, hx2⟩) (by rw [ByteArray.size_extract]; simp at hlen; omega) (by rw [ByteArray.size_extract]; omega)
        rw [hx2, hcut] at ih
        refine Ev.step (f := fun k => (monikerref23_cut.f k o).bind fun t => monikerref23_Remove.l0 k (x.extract 3 x.size) t) (fun k => ?_) (Ev.bind (cut_ev o (by omega)) ih)
        simp only [monikerref23_Remove.l0, begins_eq, b1, b2, b3, b4, Option.bind_some, Bool.false_eq_true, if_false, if_true]
        rw [if_neg n0, if_neg n1, if_pos (by simp at hlen; omega)]
    · -- a segment
      have p1 : ¬ (47 :: a : List Int) = [47, 46, 46] := fun e => a2 (List.cons.inj e).2
      have p2 : ¬ (47 :: a : List Int) = [47, 46] := fun e => a1 (List.cons.inj e).2
      rw [if_neg p1, if_neg p2]
      refine no_rule x o 47 a r' hd ha hr (fun _ => ⟨a1, a2⟩) (fun h => absurd rfl h) ?_
      have hbo : bytesOf (o ++ strOfNums (47 :: a)) = bytesOf o ++ 47 :: a := by rw [bytes_append, bytes_str _ haB]
      have ih := ref_from f (strOfNums r') (o ++ strOfNums (47 :: a)) (by rw [bytes_str _ hrB]; exact hr) (by rw [sizeS]; omega) (by rw [ByteArray.size_append, sizeS, sizeS, List.length_cons]; omega)
      rw [hbo, bytes_str _ hrB] at ih
      exact seg_from x o 47 a r' hd ha hr (by omega) (by omega) ih a.length 0 (by omega)
theorem ref_start : ∀ (n : Nat) (x : ByteArray), x.size ≤ n → n ≤ 300 → Ev (fun k => monikerref23_Remove.l0 k x (⟨#[]⟩ : ByteArray)) (strOfNums (remL ((frontL n (bytesOf x)).length + 1) [] (frontL n (bytesOf x)))) := by
  intro n
  induction n with
  | zero =>
    intro x hx _
    have he : bytesOf x = [] := bytes_empty.2 (by omega)
    rw [he]
    refine Ev.step (f := fun _ => some (⟨#[]⟩ : ByteArray)) (fun k => ?_) (Ev.now _)
    simp only [monikerref23_Remove.l0]
    rw [if_pos ((is_list x [] [] rfl).2 he)]
  | succ n ih =>
    intro x hx hn
    by_cases he : bytesOf x = []
    · rw [he]
      refine Ev.step (f := fun _ => some (⟨#[]⟩ : ByteArray)) (fun k => ?_) (Ev.now _)
      simp only [monikerref23_Remove.l0]
      rw [if_pos ((is_list x [] [] rfl).2 he)]
    have n0 : ¬ x.toList = ([] : List UInt8) := fun e => he ((is_list x [] [] rfl).1 e)
    by_cases t3 : (bytesOf x).take 3 = [46, 46, 47]
    · have t2 : ¬ (bytesOf x).take 2 = [46, 47] := fun e => by
        have h1 : ((bytesOf x).take 3).take 2 = (bytesOf x).take 2 := by rw [List.take_take]; rfl
        rw [t3, e] at h1
        exact absurd h1 (by decide)
      have b1 : cutB x (⟨#[46, 46, 47]⟩ : ByteArray) = true := (begins_iff x _ [46, 46, 47] rfl).2 t3
      have h3 : 3 ≤ x.size := by have := congrArg List.length t3; rw [List.length_take, bytesOf_length] at this; simp at this; omega
      have e : frontL (n + 1) (bytesOf x) = frontL n (bytesOf (x.extract 3 x.size)) := by rw [frontL, if_neg t2, if_pos t3, drop_bytes]
      rw [e]
      refine Ev.step (fun k => ?_) (ih (x.extract 3 x.size) (by rw [ByteArray.size_extract]; omega) (by omega))
      simp only [monikerref23_Remove.l0, begins_eq, b1, Option.bind_some, if_true]
      rw [if_neg n0, if_pos (by omega)]
    have b1 : cutB x (⟨#[46, 46, 47]⟩ : ByteArray) = false := Bool.eq_false_iff.2 fun e => t3 ((begins_iff x _ [46, 46, 47] rfl).1 e)
    by_cases t2 : (bytesOf x).take 2 = [46, 47]
    · have b2 : cutB x (⟨#[46, 47]⟩ : ByteArray) = true := (begins_iff x _ [46, 47] rfl).2 t2
      have h3 : 2 ≤ x.size := by have := congrArg List.length t2; rw [List.length_take, bytesOf_length] at this; simp at this; omega
      have e : frontL (n + 1) (bytesOf x) = frontL n (bytesOf (x.extract 2 x.size)) := by rw [frontL, if_pos t2, drop_bytes]
      rw [e]
      refine Ev.step (fun k => ?_) (ih (x.extract 2 x.size) (by rw [ByteArray.size_extract]; omega) (by omega))
      simp only [monikerref23_Remove.l0, begins_eq, b1, b2, Option.bind_some, Bool.false_eq_true, if_false, if_true]
      rw [if_neg n0, if_pos (by omega)]
    have b2 : cutB x (⟨#[46, 47]⟩ : ByteArray) = false := Bool.eq_false_iff.2 fun e => t2 ((begins_iff x _ [46, 47] rfl).1 e)
    by_cases d : bytesOf x = [46] ∨ bytesOf x = [46, 46]
    · have e : frontL (n + 1) (bytesOf x) = [] := by
        rw [frontL, if_neg t2, if_neg t3]
        rcases d with d | d
        · rw [if_pos d]
        · rw [if_neg (by rw [d]; decide), if_pos d]
      rw [e]
      have first : ∀ (p : ByteArray) (l : List Int), bytesOf p = 47 :: l → cutB x p = false := fun p l hp => Bool.eq_false_iff.2 fun e => by
        have e2 := (begins_iff x p (47 :: l) hp).1 e
        rcases d with d | d
        · rw [d] at e2; simp at e2
        · rw [d] at e2; simp at e2
      have b3 := first (⟨#[47, 46, 47]⟩ : ByteArray) [46, 47] rfl
      have b4 := first (⟨#[47, 46, 46, 47]⟩ : ByteArray) [46, 46, 47] rfl
      have n1 : ¬ x.toList = ([47, 46] : List UInt8) := fun e => by
        have e2 := (is_list x [47, 46] [47, 46] rfl).1 e
        rcases d with d | d <;> (rw [d] at e2; exact absurd e2 (by decide))
      have n2 : ¬ x.toList = ([47, 46, 46] : List UInt8) := fun e => by
        have e2 := (is_list x [47, 46, 46] [47, 46, 46] rfl).1 e
        rcases d with d | d <;> (rw [d] at e2; exact absurd e2 (by decide))
      refine Ev.step (f := fun k => monikerref23_Remove.j1 k x (⟨#[]⟩ : ByteArray) true) (fun k => ?_) (Ev.step (f := fun k => monikerref23_Remove.l0 k (⟨#[]⟩ : ByteArray) (⟨#[]⟩ : ByteArray)) (fun k => ?_) (Ev.step (f := fun _ => some (⟨#[]⟩ : ByteArray)) (fun k => ?_) (Ev.now _)))
      · simp only [monikerref23_Remove.l0, begins_eq, b1, b2, b3, b4, Option.bind_some, Bool.false_eq_true, if_false]
        rw [if_neg n0, if_neg n1, if_neg n2]
        rcases d with d | d
        · rw [if_pos ((is_dot x).2 d)]
        · rw [if_neg (fun e => by have := (is_dot x).1 e; rw [d] at this; exact absurd this (by decide)), beq_iff_eq.2 ((is_dots x).2 d)]
      · simp only [monikerref23_Remove.j1, if_true]
      · simp only [monikerref23_Remove.l0]
        rw [if_pos (by rw [Lib.toList_data])]
    · have e : frontL (n + 1) (bytesOf x) = bytesOf x := by
        rw [frontL, if_neg t2, if_neg t3, if_neg (fun e => d (.inl e)), if_neg (fun e => d (.inr e))]
      rw [e]
      obtain ⟨c, a, r', hd, ha, hr, hp, hdr⟩ := decomp (bytesOf x) he
      by_cases hc : c = 47
      · have := ref_from ((bytesOf x).length + 1) x (⟨#[]⟩ : ByteArray) (.inr ⟨a ++ r', by rw [hd, hc]⟩) (by rw [bytesOf_length]; omega) (by show 0 + x.size ≤ 300; omega)
        exact this
      · have hok := frontL_first (n + 1) (bytesOf x) (by rw [bytesOf_length]; omega) c a r' (by rw [e, hd]) ha hr hc
        have hlen : x.size = 1 + a.length + r'.length := by rw [← bytesOf_length, hd]; simp; omega
        have hxB : inB (bytesOf x) := bytes_range x
        have hrB : inB r' := fun y hy => hxB y (by rw [hd]; simp [hy])
        have haB : inB (c :: a) := fun y hy => hxB y (by rw [hd]; exact List.mem_cons.2 ((List.mem_cons.1 hy).imp_right (fun h => List.mem_append.2 (.inl h))))
        obtain ⟨p1, p2⟩ := piece_dots (c := c) (a := a) (fun h => absurd h hc)
        rw [remL, if_neg he, hdr, hp, if_neg p1, if_neg p2]
        refine no_rule x (⟨#[]⟩ : ByteArray) c a r' hd ha hr (fun h => absurd h hc) (fun _ => hok) ?_
        have hbo : bytesOf ((⟨#[]⟩ : ByteArray) ++ strOfNums (c :: a)) = [] ++ c :: a := by rw [bytes_append, bytes_str _ haB]; rfl
        have key := ref_from (bytesOf x).length (strOfNums r') ((⟨#[]⟩ : ByteArray) ++ strOfNums (c :: a)) (by rw [bytes_str _ hrB]; exact hr) (by rw [sizeS, bytesOf_length]; omega) (by rw [ByteArray.size_append, sizeS, sizeS, List.length_cons]; show 0 + (a.length + 1) + r'.length ≤ 300; omega)
        rw [hbo, bytes_str _ hrB] at key
        exact seg_from x (⟨#[]⟩ : ByteArray) c a r' hd ha hr (by omega) (by show 0 ≤ 400; omega) key a.length 0 (by omega)
theorem ref_ev (s : ByteArray) (hs : s.size ≤ 300) : Ev (fun k => monikerref23_Remove.f k s) (remS s) := by
  have h := ref_start s.size s (Nat.le_refl _) hs
  have : remS s = strOfNums (remL ((frontL s.size (bytesOf s)).length + 1) [] (frontL s.size (bytesOf s))) := by
    unfold remS rem
    rw [bytesOf_length]
  rw [this]
  exact h
end Go.Proofs.YteebphjlecmgjaaDoor.Rem
