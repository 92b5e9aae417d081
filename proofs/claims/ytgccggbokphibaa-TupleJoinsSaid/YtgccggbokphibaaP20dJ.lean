/- Plain facts on tuple's program and document: what Join, Fits and Guard answer. No condition but those that each names. -/
import Derived.Test.YtgccggbokphibaaP20cJ
import Derived.Test.YtgccggbokphibaaPJoix8
import Derived.Test.YtgccggbokphibaaPJoix5
import Derived.Test.YtgccggbokphibaaPJoix9
namespace Go.Proofs.Ytgccggbokphibaa.P20
open Go.RowKit Go.Proofs.Ytgccggbokphibaa.PJoi Go.Proofs.Ytgccggbokphibaa.By Go.Proofs.Ytgccggbokphibaa.Oct Go.Proofs.YtgccggbokphibaaW.PrintWords Go.Proofs.YtgccggbokphibaaW.PrintLast
set_option linter.unusedVariables false
set_option linter.unusedSimpArgs false

theorem nil_iff (s : ByteArray) : (s.toList = ([] : List UInt8)) ↔ bytesOf s = [] := by
  have := toList_nil (bytesOf s) (Byt.of s)
  rwa [S_B] at this
theorem Byt.app {a b : List Int} (ha : Byt a) (hb : Byt b) : Byt (a ++ b) := by
  intro x hx
  rcases List.mem_append.1 hx with h | h
  · exact ha x h
  · exact hb x h
theorem Byt.cons {a : Int} {b : List Int} (ha : 0 ≤ a ∧ a ≤ 255) (hb : Byt b) : Byt (a :: b) := by
  intro x hx
  rcases List.mem_cons.1 hx with rfl | h
  · exact ha
  · exact hb x h
def joinT (a0 : ByteArray) (a1 : Bool) (a2 a3 : ByteArray) (a4 : Bool) (a5 : ByteArray) (a6 : Bool) (a7 : ByteArray) : List Int := join (bytesOf a0) a1 (bytesOf a2) (bytesOf a3) a4 (bytesOf a5) a6 (bytesOf a7)
theorem join_byt (a0 : ByteArray) (a1 : Bool) (a2 a3 : ByteArray) (a4 : Bool) (a5 : ByteArray) (a6 : Bool) (a7 : ByteArray) : Byt (joinT a0 a1 a2 a3 a4 a5 a6 a7) := by
  have h0 := Byt.of a0
  have h2 := Byt.of a2
  have h3 := Byt.of a3
  have h5 := Byt.of a5
  have h7 := Byt.of a7
  have e5 : Byt (j5 a6 (bytesOf a7)) := by
    unfold j5; split
    · exact Byt.cons (by decide) h7
    · exact Byt.nil
  have e4 : Byt (j4 a4 (bytesOf a5) (j5 a6 (bytesOf a7))) := by
    unfold j4; split
    · exact Byt.cons (by decide) (Byt.app h5 e5)
    · exact e5
  have e2 : Byt (j2 a1 (bytesOf a2) (bytesOf a3 ++ j4 a4 (bytesOf a5) (j5 a6 (bytesOf a7)))) := by
    unfold j2; split
    · exact Byt.cons (by decide) (Byt.cons (by decide) (Byt.app h2 (Byt.app h3 e4)))
    · exact Byt.app h3 e4
  unfold joinT join j1
  split
  · exact Byt.app h0 (Byt.cons (by decide) e2)
  · exact e2
theorem pj1j_ev (x : List Int) (a0 : ByteArray) (a1 : Bool) (a2 a3 : ByteArray) (a4 : Bool) (a5 : ByteArray) (a6 : Bool) (a7 : ByteArray) (hx : x.length ≤ 10000) (h3 : a3.size ≤ 10000) (h5 : a5.size ≤ 10000) (h7 : a7.size ≤ 10000) :
    Ev (fun k => tuple_Join.j1 k x a0 a1 a2 a3 a4 a5 a6 a7) (strOfNums (x ++ (bytesOf a3 ++ j4 a4 (bytesOf a5) (j5 a6 (bytesOf a7))))) := by
  have z3 : (bytesOf a3).length = a3.size := bytesOf_length a3
  have z5 : (bytesOf a5).length = a5.size := bytesOf_length a5
  refine Ev.step (f := fun k => some _) (fun k => ?_) (Ev.now _)
  simp only [tuple_Join.j1, Option.bind_some]
  rw [if_pos (by omega)]
  cases a4 with
  | true =>
    rw [if_pos rfl, if_pos (by rw [List.length_append]; omega), if_pos (by simp only [List.length_append, List.length_singleton]; omega)]
    cases a6 with
    | true =>
      rw [if_pos rfl, if_pos (by simp only [List.length_append, List.length_singleton]; omega), if_pos (by simp only [List.length_append, List.length_singleton]; omega)]
      simp only [j4, j5, if_true, List.append_assoc, List.singleton_append, List.nil_append, List.cons_append]
    | false =>
      rw [if_neg (by decide)]
      simp only [j4, j5, if_true, Bool.false_eq_true, if_false, List.append_assoc, List.singleton_append, List.nil_append, List.cons_append, List.append_nil]
  | false =>
    rw [if_neg (by decide)]
    cases a6 with
    | true =>
      rw [if_pos rfl, if_pos (by rw [List.length_append]; omega), if_pos (by simp only [List.length_append, List.length_singleton]; omega)]
      simp only [j4, j5, if_true, Bool.false_eq_true, if_false, List.append_assoc, List.singleton_append, List.nil_append, List.cons_append]
    | false =>
      rw [if_neg (by decide)]
      simp only [j4, j5, Bool.false_eq_true, if_false, List.append_nil]
theorem pj0j_ev (x : List Int) (a0 : ByteArray) (a1 : Bool) (a2 a3 : ByteArray) (a4 : Bool) (a5 : ByteArray) (a6 : Bool) (a7 : ByteArray) (hx : x.length ≤ 5000) (h2 : a2.size ≤ 1000) (h3 : a3.size ≤ 10000) (h5 : a5.size ≤ 10000) (h7 : a7.size ≤ 10000) :
    Ev (fun k => tuple_Join.j0 k x a0 a1 a2 a3 a4 a5 a6 a7) (strOfNums (x ++ j2 a1 (bytesOf a2) (bytesOf a3 ++ j4 a4 (bytesOf a5) (j5 a6 (bytesOf a7))))) := by
  have z2 : (bytesOf a2).length = a2.size := bytesOf_length a2
  have e47 : bytesOf (⟨#[47, 47]⟩ : ByteArray) = [47, 47] := rfl
  cases a1 with
  | true =>
    have := pj1j_ev (x ++ [47, 47] ++ bytesOf a2) a0 true a2 a3 a4 a5 a6 a7 (by simp only [List.length_append, List.length_cons, List.length_nil]; omega) h3 h5 h7
    have e : x ++ [47, 47] ++ bytesOf a2 ++ (bytesOf a3 ++ j4 a4 (bytesOf a5) (j5 a6 (bytesOf a7))) = x ++ j2 true (bytesOf a2) (bytesOf a3 ++ j4 a4 (bytesOf a5) (j5 a6 (bytesOf a7))) := by simp [j2]
    rw [e] at this
    refine Ev.step (fun k => ?_) this
    simp only [tuple_Join.j0, if_true, Option.bind_some, e47]
    rw [if_pos (by omega), if_pos (by simp only [List.length_append, List.length_cons, List.length_nil]; omega)]
  | false =>
    have := pj1j_ev x a0 false a2 a3 a4 a5 a6 a7 (by omega) h3 h5 h7
    refine Ev.step (fun k => ?_) this
    simp only [tuple_Join.j0, Bool.false_eq_true, if_false]
theorem Join_ev (a0 : ByteArray) (a1 : Bool) (a2 a3 : ByteArray) (a4 : Bool) (a5 : ByteArray) (a6 : Bool) (a7 : ByteArray) (h0 : a0.size ≤ 1000) (h2 : a2.size ≤ 1000) (h3 : a3.size ≤ 1000) (h5 : a5.size ≤ 1000) (h7 : a7.size ≤ 1000) :
    Ev (fun k => tuple_Join.f k a0 a1 a2 a3 a4 a5 a6 a7) (strOfNums (joinT a0 a1 a2 a3 a4 a5 a6 a7)) := by
  have z0 : (bytesOf a0).length = a0.size := bytesOf_length a0
  unfold tuple_Join.f
  by_cases h : a0.toList = ([] : List UInt8)
  · have hb := (nil_iff a0).1 h
    simp only [h, if_true]
    have := pj0j_ev [] a0 a1 a2 a3 a4 a5 a6 a7 (by decide) h2 (by omega) (by omega) (by omega)
    unfold joinT join j1
    rw [if_neg (fun x => x hb)]
    exact this
  · have hb : bytesOf a0 ≠ [] := fun x => h ((nil_iff a0).2 x)
    have := pj0j_ev (bytesOf a0 ++ [58]) a0 a1 a2 a3 a4 a5 a6 a7 (by rw [List.length_append, List.length_singleton]; omega) h2 (by omega) (by omega) (by omega)
    simp only [h, if_false, List.nil_append, List.length_nil, Option.bind_some]
    have c1 : 0 + a0.size < 140737488355328 := by omega
    have c2 : (bytesOf a0).length < 140737488355328 := by omega
    simp only [c1, c2, if_true]
    unfold joinT join j1
    rw [if_pos hb]
    simpa using this
theorem app_S (s : ByteArray) (l : List Int) : s ++ strOfNums l = strOfNums (bytesOf s ++ l) ∨ ¬ Byt l := by
  by_cases h : Byt l
  · left
    apply bytes_inj
    rw [bytes_append, B_S h, B_S (Byt.app (Byt.of s) h)]
  · exact .inr h
theorem lit2 (a : ByteArray) : bytesOf ((⟨#[47, 47]⟩ : ByteArray) ++ a) = 47 :: 47 :: bytesOf a := by rw [bytes_append]; rfl
theorem lit63 (a : ByteArray) : bytesOf ((⟨#[63]⟩ : ByteArray) ++ a) = 63 :: bytesOf a := by rw [bytes_append]; rfl
theorem lit35 (a : ByteArray) : bytesOf ((⟨#[35]⟩ : ByteArray) ++ a) = 35 :: bytesOf a := by rw [bytes_append]; rfl
theorem rj1j_ev (x : ByteArray) (a0 : ByteArray) (a1 : Bool) (a2 a3 : ByteArray) (a4 : Bool) (a5 : ByteArray) (a6 : Bool) (a7 : ByteArray) (hx : x.size ≤ 10000) (h3 : a3.size ≤ 10000) (h5 : a5.size ≤ 10000) (h7 : a7.size ≤ 10000) :
    ∃ r, Ev (fun k => monikerref20_Join.j1 k x a0 a1 a2 a3 a4 a5 a6 a7) r ∧ bytesOf r = bytesOf x ++ (bytesOf a3 ++ j4 a4 (bytesOf a5) (j5 a6 (bytesOf a7))) := by
  have z1 : (⟨#[63]⟩ : ByteArray).size = 1 := rfl
  have z2 : (⟨#[35]⟩ : ByteArray).size = 1 := rfl
  cases a4 with
  | true =>
    cases a6 with
    | true =>
      refine ⟨((x ++ a3) ++ ((⟨#[63]⟩ : ByteArray) ++ a5)) ++ ((⟨#[35]⟩ : ByteArray) ++ a7), Ev.step (f := fun k => some _) (fun k => ?_) (Ev.now _), ?_⟩
      · simp only [monikerref20_Join.j1, if_true, ByteArray.size_append, z1, z2]
        rw [if_pos (by omega), if_pos (by omega), if_pos (by omega), if_pos (by omega), if_pos (by omega)]
      · simp only [bytes_append, lit63, lit35, j4, j5, if_true, List.append_assoc, List.cons_append]
        rfl
    | false =>
      refine ⟨(x ++ a3) ++ ((⟨#[63]⟩ : ByteArray) ++ a5), Ev.step (f := fun k => some _) (fun k => ?_) (Ev.now _), ?_⟩
      · simp only [monikerref20_Join.j1, if_true, ByteArray.size_append, z1, z2, Bool.false_eq_true, if_false]
        rw [if_pos (by omega), if_pos (by omega), if_pos (by omega)]
      · simp only [bytes_append, lit63, j4, j5, if_true, List.append_assoc, List.cons_append, Bool.false_eq_true, if_false, List.append_nil]
        rfl
  | false =>
    cases a6 with
    | true =>
      refine ⟨(x ++ a3) ++ ((⟨#[35]⟩ : ByteArray) ++ a7), Ev.step (f := fun k => some _) (fun k => ?_) (Ev.now _), ?_⟩
      · simp only [monikerref20_Join.j1, if_true, ByteArray.size_append, z1, z2, Bool.false_eq_true, if_false]
        rw [if_pos (by omega), if_pos (by omega), if_pos (by omega)]
      · simp only [bytes_append, lit35, j4, j5, if_true, List.append_assoc, List.cons_append, Bool.false_eq_true, if_false]
        rfl
    | false =>
      refine ⟨x ++ a3, Ev.step (f := fun k => some _) (fun k => ?_) (Ev.now _), ?_⟩
      · simp only [monikerref20_Join.j1, Bool.false_eq_true, if_false]
        rw [if_pos (by omega)]
      · simp only [bytes_append, j4, j5, Bool.false_eq_true, if_false, List.append_nil]
theorem rj0j_ev (x : ByteArray) (a0 : ByteArray) (a1 : Bool) (a2 a3 : ByteArray) (a4 : Bool) (a5 : ByteArray) (a6 : Bool) (a7 : ByteArray) (hx : x.size ≤ 5000) (h2 : a2.size ≤ 1000) (h3 : a3.size ≤ 10000) (h5 : a5.size ≤ 10000) (h7 : a7.size ≤ 10000) :
    ∃ r, Ev (fun k => monikerref20_Join.j0 k x a0 a1 a2 a3 a4 a5 a6 a7) r ∧ bytesOf r = bytesOf x ++ j2 a1 (bytesOf a2) (bytesOf a3 ++ j4 a4 (bytesOf a5) (j5 a6 (bytesOf a7))) := by
  have z1 : (⟨#[47, 47]⟩ : ByteArray).size = 2 := rfl
  cases a1 with
  | true =>
    obtain ⟨r, e1, e2⟩ := rj1j_ev (x ++ ((⟨#[47, 47]⟩ : ByteArray) ++ a2)) a0 true a2 a3 a4 a5 a6 a7 (by rw [ByteArray.size_append, ByteArray.size_append, z1]; omega) h3 h5 h7
    refine ⟨r, Ev.step (fun k => ?_) e1, ?_⟩
    · simp only [monikerref20_Join.j0, if_true, ByteArray.size_append, z1]
      rw [if_pos (by omega), if_pos (by omega)]
    · rw [e2, bytes_append, lit2]; simp [j2]
  | false =>
    obtain ⟨r, e1, e2⟩ := rj1j_ev x a0 false a2 a3 a4 a5 a6 a7 (by omega) h3 h5 h7
    refine ⟨r, Ev.step (fun k => ?_) e1, ?_⟩
    · simp only [monikerref20_Join.j0, Bool.false_eq_true, if_false]
    · rw [e2]; simp [j2]
theorem refJoin_ev (a0 : ByteArray) (a1 : Bool) (a2 a3 : ByteArray) (a4 : Bool) (a5 : ByteArray) (a6 : Bool) (a7 : ByteArray) (h0 : a0.size ≤ 1000) (h2 : a2.size ≤ 1000) (h3 : a3.size ≤ 1000) (h5 : a5.size ≤ 1000) (h7 : a7.size ≤ 1000) :
    Ev (fun k => monikerref20_Join.f k a0 a1 a2 a3 a4 a5 a6 a7) (strOfNums (joinT a0 a1 a2 a3 a4 a5 a6 a7)) := by
  unfold monikerref20_Join.f
  by_cases h : a0.toList = ([] : List UInt8)
  · have hb := (nil_iff a0).1 h
    obtain ⟨r, e1, e2⟩ := rj0j_ev (⟨#[]⟩ : ByteArray) a0 a1 a2 a3 a4 a5 a6 a7 (by decide) h2 (by omega) (by omega) (by omega)
    have er : r = strOfNums (joinT a0 a1 a2 a3 a4 a5 a6 a7) := by
      apply bytes_inj
      rw [B_S (join_byt _ _ _ _ _ _ _ _), e2]
      unfold joinT join j1
      rw [if_neg (fun x => x hb)]; rfl
    simp only [h, if_true]
    rw [← er]; exact e1
  · have hb : bytesOf a0 ≠ [] := fun x => h ((nil_iff a0).2 x)
    obtain ⟨r, e1, e2⟩ := rj0j_ev (a0 ++ (⟨#[58]⟩ : ByteArray)) a0 a1 a2 a3 a4 a5 a6 a7 (by rw [ByteArray.size_append]; show a0.size + 1 ≤ 5000; omega) h2 (by omega) (by omega) (by omega)
    have er : r = strOfNums (joinT a0 a1 a2 a3 a4 a5 a6 a7) := by
      apply bytes_inj
      rw [B_S (join_byt _ _ _ _ _ _ _ _), e2]
      unfold joinT join j1
      rw [if_pos hb, bytes_append, List.append_assoc]; rfl
    have c1 : a0.size + 1 ≤ 9223372036854775807 := by omega
    simp only [h, if_false, c1, if_true]
    rw [← er]; exact e1
/-! what fits -/
theorem free_tl (set l : List Int) : tl set l = [] ↔ Free set l := by
  constructor
  · intro h
    have e := hd_tl set l
    rw [h, List.append_nil] at e
    rw [← e]; exact hd_free set l
  · exact fun h => (hd_all set l h).2
theorem contains_eq (s set : ByteArray) (hs : s.size ≤ 100000) (hk : okSet set = true) : strings_ContainsAny.f s set = some (!decide (tl (bytesOf set) (bytesOf s) = [])) := by
  unfold strings_ContainsAny.f
  rw [index_eq s set hs hk]
  simp only [Option.bind_some]
  by_cases h : tl (bytesOf set) (bytesOf s) = []
  · rw [if_pos h, decide_eq_true h]; rfl
  · rw [if_neg h, decide_eq_false h, decide_eq_true (by omega)]; rfl
theorem one_eq (l : List UInt8) (c : UInt8) : Lib.indexByte l c = if tl [nn c] (l.map nn) = [] then -1 else ((hd [nn c] (l.map nn)).length : Int) := by
  rw [← Lib.indexAny_one]; exact ia_eq [c] l
theorem contains35 (s : ByteArray) : strings_Contains.f s (⟨#[35]⟩ : ByteArray) = some (!decide (tl SQ (bytesOf s) = [])) := by
  unfold strings_Contains.f
  rw [if_pos rfl, one_eq]
  have e : [nn 35] = SQ := rfl
  rw [e, ← bytes_nn]
  by_cases h : tl SQ (bytesOf s) = []
  · rw [if_pos h, decide_eq_true h]; rfl
  · rw [if_neg h, decide_eq_false h, decide_eq_true (by omega)]; rfl
theorem tl_cons_in (set : List Int) (c : Int) (t : List Int) (h : c ∈ set) : tl set (c :: t) = c :: t := by unfold tl; rw [List.dropWhile_cons]; simp only [h, decide_true, Bool.not_true, Bool.false_eq_true, if_false]
theorem tl_cons_out (set : List Int) (c : Int) (t : List Int) (h : c ∉ set) : tl set (c :: t) = tl set t := by unfold tl; rw [List.dropWhile_cons]; simp only [h, decide_false, Bool.not_false, if_true]
theorem colon_is : ∀ l : List Int, hd [58] (hd [47] l) = hd [47, 58] l ∧ (tl [58] (hd [47] l) ≠ [] ↔ (tl [47, 58] l).head? = some 58)
  | [] => ⟨rfl, by simp [hd, tl]⟩
  | c :: t => by
    have ih := colon_is t
    by_cases h1 : c = 47
    · subst h1
      rw [hd_cons_in [47] 47 t (by simp), hd_cons_in [47, 58] 47 t (by simp), tl_cons_in [47, 58] 47 t (by simp)]
      exact ⟨rfl, by simp [tl]⟩
    · rw [hd_cons_out [47] c t (by simp [h1])]
      by_cases h2 : c = 58
      · subst h2
        rw [hd_cons_in [58] 58 _ (by simp), hd_cons_in [47, 58] 58 t (by simp), tl_cons_in [47, 58] 58 t (by simp), tl_cons_in [58] 58 _ (by simp)]
        exact ⟨rfl, by simp⟩
      · rw [hd_cons_out [58] c _ (by simp [h2]), hd_cons_out [47, 58] c t (by simp [h1, h2]), tl_cons_out [47, 58] c t (by simp [h1, h2]), tl_cons_out [58] c _ (by simp [h2]), ih.1]
        exact ⟨rfl, ih.2⟩
theorem colon_eq (s : ByteArray) (hs : s.size ≤ 100000) : tuple_colon.f s = some (if (tl [47, 58] (bytesOf s)).head? = some 58 then ((hd [47, 58] (bytesOf s)).length : Int) else -1) := by
  unfold tuple_colon.f
  rw [upTo_eq s _ hs (by decide)]
  simp only [Option.bind_some, strings_IndexByte.f]
  have e47 : bytesOf (⟨#[47]⟩ : ByteArray) = [47] := rfl
  rw [e47, one_eq]
  have e : [nn (Int.toNat 58).toUInt8] = [58] := rfl
  rw [e, ← bytes_nn, B_S (Byt.of s).hd]
  have hc := colon_is (bytesOf s)
  rw [hc.1]
  by_cases h : tl [58] (hd [47] (bytesOf s)) = []
  · rw [if_pos h, if_neg (fun x => (hc.2.2 x) h)]
  · rw [if_neg h, if_pos (hc.2.1 h)]
def rootedB (sc : List Int) (ha : Bool) (pa : List Int) : Bool := if ha = true then decide (pa = [] ∨ pa.head? = some 47) else decide (pa.take 2 ≠ [47, 47] ∧ (sc ≠ [] ∨ ¬ (hd [47, 58] pa ≠ [] ∧ (tl [47, 58] pa).head? = some 58)))
theorem rootedB_iff (sc : List Int) (ha : Bool) (pa : List Int) : rootedB sc ha pa = true ↔ Rooted sc ha pa := by
  unfold rootedB Rooted
  cases ha with
  | true => simp only [if_true, decide_eq_true_iff]
  | false =>
    simp only [Bool.false_eq_true, if_false, decide_eq_true_iff]
    have : (hd [47] pa ≠ [] ∧ (hd [47, 58] pa ≠ [] ∧ (tl [47, 58] pa).head? = some 58)) ↔ (hd [47, 58] pa ≠ [] ∧ (tl [47, 58] pa).head? = some 58) := by
      constructor
      · exact fun x => x.2
      · intro x
        refine ⟨?_, x⟩
        intro h
        apply x.1
        rw [← (colon_is pa).1, h]; rfl
    rw [this]
theorem rooted_eq (a0 : ByteArray) (a1 : Bool) (a2 a3 : ByteArray) (a4 : Bool) (a5 : ByteArray) (a6 : Bool) (a7 : ByteArray) (h3 : a3.size ≤ 100000) : tuple_rooted.f a0 a1 a2 a3 a4 a5 a6 a7 = some (rootedB (bytesOf a0) a1 (bytesOf a3)) := by
  unfold tuple_rooted.f rootedB
  cases a1 with
  | true =>
    simp only [if_true]
    by_cases h : a3.toList = ([] : List UInt8)
    · have hb := (nil_iff a3).1 h
      rw [if_pos h, decide_eq_true (.inl hb)]
    · have hb : bytesOf a3 ≠ [] := fun x => h ((nil_iff a3).2 x)
      have hz : 0 < a3.size := by
        have := List.length_pos_iff.2 hb
        rw [bytesOf_length] at this; exact this
      rw [if_neg h, if_pos (by omega)]
      congr 1
      rw [Bool.eq_iff_iff, beq_iff_eq, decide_eq_true_iff]
      have := head_bt a3 0 hz 47
      rw [List.drop_zero] at this
      rw [show bt a3 0 = bt a3 ((0 : Nat) : Int) from rfl, ← this]
      exact ⟨fun x => .inr x, fun x => x.resolve_left hb⟩
  | false =>
    simp only [Bool.false_eq_true, if_false, has_eq, Option.bind_some]
    have e47 : bytesOf (⟨#[47, 47]⟩ : ByteArray) = [47, 47] := rfl
    have z47 : (⟨#[47, 47]⟩ : ByteArray).size = 2 := rfl
    rw [e47, z47]
    by_cases h : (bytesOf a3).take 2 = [47, 47]
    · rw [decide_eq_true h, if_pos rfl, decide_eq_false (fun x => x.1 h)]
    · rw [decide_eq_false h, if_neg (by decide)]
      by_cases h0 : a0.toList = ([] : List UInt8)
      · have hb := (nil_iff a0).1 h0
        rw [if_pos h0, colon_eq a3 h3]
        simp only [Option.bind_some]
        congr 1
        refine decide_eq_decide.2 ?_
        constructor
        · intro x
          refine ⟨h, .inr ?_⟩
          rintro ⟨y1, y2⟩
          rw [if_pos y2] at x
          have := List.length_pos_iff.2 y1
          omega
        · intro x
          have hx := x.2.resolve_left (fun y => y hb)
          by_cases y2 : (tl [47, 58] (bytesOf a3)).head? = some 58
          · rw [if_pos y2]
            have : ¬ hd [47, 58] (bytesOf a3) ≠ [] := fun y1 => hx ⟨y1, y2⟩
            have h9 : hd [47, 58] (bytesOf a3) = [] := Classical.not_not.1 this
            rw [h9]; decide
          · rw [if_neg y2]; decide
      · have hb : bytesOf a0 ≠ [] := fun x => h0 ((nil_iff a0).2 x)
        rw [if_neg h0, decide_eq_true ⟨h, .inl hb⟩]
theorem Clean_ev (a0 : ByteArray) (a1 : Bool) (a2 a3 : ByteArray) (a4 : Bool) (a5 : ByteArray) (a6 : Bool) (a7 : ByteArray) : Ev (fun k => tuple_Clean.f k a0 a1 a2 a3 a4 a5 a6 a7) (a0, a1, (if a1 = true then a2 else (⟨#[]⟩ : ByteArray)), a3, a4, (if a4 = true then a5 else (⟨#[]⟩ : ByteArray)), a6, (if a6 = true then a7 else (⟨#[]⟩ : ByteArray))) := by
  unfold tuple_Clean.f
  cases a1 <;> cases a4 <;> cases a6 <;> exact Ev.step (f := fun k => some _) (fun k => rfl) (Ev.now _)
def fitsB (sc : List Int) (ha : Bool) (au pa : List Int) (hq : Bool) (qu : List Int) (hf : Bool) (fr : List Int) : Bool :=
  (ha || decide (au = [])) && ((hq || decide (qu = [])) && ((hf || decide (fr = [])) && (decide (tl SS sc = []) && (decide (tl SA au = []) && (decide (tl SP pa = []) && (decide (tl SQ qu = []) && rootedB sc ha pa))))))
theorem fitsB_iff (sc : List Int) (ha : Bool) (au pa : List Int) (hq : Bool) (qu : List Int) (hf : Bool) (fr : List Int) : fitsB sc ha au pa hq qu hf fr = true ↔ Fits sc ha au pa hq qu hf fr := by
  unfold fitsB Fits
  simp only [Bool.and_eq_true, decide_eq_true_iff, free_tl, rootedB_iff, Bool.or_eq_true]
  cases ha <;> cases hq <;> cases hf <;> simp
theorem eq_self_list (a : ByteArray) : (a.toList == a.toList) = true := beq_self_eq_true _
theorem clean_cond (h : Bool) (a : ByteArray) : (a.toList == (if h = true then a else (⟨#[]⟩ : ByteArray)).toList) = (h || decide (bytesOf a = [])) := by
  cases h with
  | true => simp
  | false =>
    simp only [Bool.false_eq_true, if_false, Bool.false_or]
    rw [toList_beq]; rfl
theorem Fits_ev (a0 : ByteArray) (a1 : Bool) (a2 a3 : ByteArray) (a4 : Bool) (a5 : ByteArray) (a6 : Bool) (a7 : ByteArray) (h0 : a0.size ≤ 100000) (h2 : a2.size ≤ 100000) (h3 : a3.size ≤ 100000) (h5 : a5.size ≤ 100000) (h7 : a7.size ≤ 100000) :
    Ev (fun k => tuple_Fits.f k a0 a1 a2 a3 a4 a5 a6 a7) (fitsB (bytesOf a0) a1 (bytesOf a2) (bytesOf a3) a4 (bytesOf a5) a6 (bytesOf a7)) := by
  unfold tuple_Fits.f
  refine Ev.bind (Clean_ev a0 a1 a2 a3 a4 a5 a6 a7) ?_
  simp only [clean_cond, beq_self_eq_true, Bool.true_and, contains_eq _ _ h0 (show okSet (⟨#[58, 47, 63, 35]⟩ : ByteArray) = true by decide), contains_eq _ _ h2 (show okSet (⟨#[47, 63, 35]⟩ : ByteArray) = true by decide), contains_eq _ _ h3 (show okSet (⟨#[63, 35]⟩ : ByteArray) = true by decide), contains35, rooted_eq a0 a1 a2 a3 a4 a5 a6 a7 h3, Option.bind_some]
  have eS : bytesOf (⟨#[58, 47, 63, 35]⟩ : ByteArray) = SS := rfl
  have eA : bytesOf (⟨#[47, 63, 35]⟩ : ByteArray) = SA := rfl
  have eP : bytesOf (⟨#[63, 35]⟩ : ByteArray) = SP := rfl
  rw [eS, eA, eP]
  unfold fitsB
  generalize (a1 || decide (bytesOf a2 = [])) = b1
  generalize (a4 || decide (bytesOf a5 = [])) = b2
  generalize (a6 || decide (bytesOf a7 = [])) = b3
  generalize decide (tl SS (bytesOf a0) = []) = b4
  generalize decide (tl SA (bytesOf a2) = []) = b5
  generalize decide (tl SP (bytesOf a3) = []) = b6
  generalize decide (tl SQ (bytesOf a5) = []) = b7
  cases b1 <;> cases b2 <;> cases b3 <;> cases b4 <;> cases b5 <;> cases b6 <;> cases b7 <;> exact Ev.now _
/-- All components alike, as the walk asks it. -/
theorem same8 (x y : ByteArray × Bool × ByteArray × ByteArray × Bool × ByteArray × Bool × ByteArray) :
    (x.1.toList == y.1.toList && (x.2.1 == y.2.1 && (x.2.2.1.toList == y.2.2.1.toList && (x.2.2.2.1.toList == y.2.2.2.1.toList && (x.2.2.2.2.1 == y.2.2.2.2.1 && (x.2.2.2.2.2.1.toList == y.2.2.2.2.2.1.toList && (x.2.2.2.2.2.2.1 == y.2.2.2.2.2.2.1 && (x.2.2.2.2.2.2.2.toList == y.2.2.2.2.2.2.2.toList)))))))) = true ↔ x = y := by
  obtain ⟨x0, x1, x2, x3, x4, x5, x6, x7⟩ := x
  obtain ⟨y0, y1, y2, y3, y4, y5, y6, y7⟩ := y
  have inj : ∀ a b : ByteArray, a.toList = b.toList ↔ a = b := fun a b => by
    rw [toList_iff]
    exact ⟨bytes_inj, fun h => by rw [h]⟩
  simp only [Bool.and_eq_true, beq_iff_eq, inj, Prod.mk.injEq]
end Go.Proofs.Ytgccggbokphibaa.P20
