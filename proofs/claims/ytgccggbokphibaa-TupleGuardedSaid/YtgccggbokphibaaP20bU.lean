/- Plain facts on tuple's program and its document: what Split answers. No condition but those that each names. -/
import Derived.Test.YtgccggbokphibaaP20
import Derived.Test.YtgccggbokphibaaOctU
import Derived.Test.YtgccggbokphibaaPGuax3
namespace Go.Proofs.Ytgccggbokphibaa.P20
open Go.RowKit Go.Proofs.Ytgccggbokphibaa.PGua Go.Proofs.Ytgccggbokphibaa.By Go.Proofs.Ytgccggbokphibaa.Oct Go.Proofs.YtgccggbokphibaaW.PrintWords Go.Proofs.YtgccggbokphibaaW.PrintLast
set_option linter.unusedVariables false

theorem awake_ev : Ev (fun k => monikerlaw20_awake.f k) true := by
  refine Ev.of (fun k => monikerlaw20_awake.mono k) (k := 12) ?_
  decide +kernel
theorem S_B (s : ByteArray) : strOfNums (bytesOf s) = s := str_bytes s
def nn (b : UInt8) : Int := (b.toNat : Int)
theorem nn_inj {a b : UInt8} (h : nn a = nn b) : a = b := UInt8.toNat_inj.1 (by unfold nn at h; omega)
theorem bytes_nn (s : ByteArray) : bytesOf s = s.data.toList.map nn := rfl
theorem mem_nn (b : UInt8) (c : List UInt8) : nn b ∈ c.map nn ↔ b ∈ c := by
  constructor
  · intro h
    obtain ⟨x, hx, e⟩ := List.mem_map.1 h
    rw [← nn_inj e]; exact hx
  · exact fun h => List.mem_map_of_mem h
theorem ia_eq (c : List UInt8) : ∀ l : List UInt8, Lib.indexAny l c = if tl (c.map nn) (l.map nn) = [] then -1 else ((hd (c.map nn) (l.map nn)).length : Int)
  | [] => rfl
  | b :: l => by
    have ih := ia_eq c l
    rw [Lib.indexAny]
    by_cases hb : b ∈ c
    · have h1 : c.contains b = true := List.contains_iff_mem.2 hb
      have h2 : nn b ∈ c.map nn := (mem_nn b c).2 hb
      rw [if_pos h1]
      have e1 : tl (c.map nn) ((b :: l).map nn) = nn b :: l.map nn := by unfold tl; rw [List.map_cons, List.dropWhile_cons]; simp only [h2, decide_true, Bool.not_true, Bool.false_eq_true, if_false]
      have e2 : hd (c.map nn) ((b :: l).map nn) = [] := by unfold hd; rw [List.map_cons, List.takeWhile_cons]; simp only [h2, decide_true, Bool.not_true, Bool.false_eq_true, if_false]
      rw [e1, e2, if_neg (by simp)]
      rfl
    · have h1 : c.contains b = false := by rw [Bool.eq_false_iff]; exact fun h => hb (List.contains_iff_mem.1 h)
      have h2 : ¬ nn b ∈ c.map nn := fun h => hb ((mem_nn b c).1 h)
      rw [h1, ih]
      have e1 : tl (c.map nn) ((b :: l).map nn) = tl (c.map nn) (l.map nn) := by unfold tl; rw [List.map_cons, List.dropWhile_cons]; simp only [h2, decide_false, Bool.not_false, if_true]
      have e2 : hd (c.map nn) ((b :: l).map nn) = nn b :: hd (c.map nn) (l.map nn) := by unfold hd; rw [List.map_cons, List.takeWhile_cons]; simp only [h2, decide_false, Bool.not_false, if_true]
      rw [e1, e2]
      by_cases h3 : tl (c.map nn) (l.map nn) = []
      · rw [if_pos h3, if_pos h3]; rfl
      · rw [if_neg h3, if_neg h3, List.length_cons]
        simp only [Bool.false_eq_true, if_false]
        rw [if_neg (by rw [beq_iff_eq]; omega)]
        omega
theorem take_app (a b : List Int) : (a ++ b).take a.length = a := by rw [List.take_append_of_le_length (Nat.le_refl _), List.take_of_length_le (Nat.le_refl _)]
theorem drop_app (a b : List Int) : (a ++ b).drop a.length = b := by rw [List.drop_append_of_le_length (Nat.le_refl _), List.drop_of_length_le (Nat.le_refl _), List.nil_append]
theorem hd_take (set l : List Int) : l.take (hd set l).length = hd set l := by
  have := take_app (hd set l) (tl set l)
  rwa [hd_tl] at this
theorem hd_drop (set l : List Int) : l.drop (hd set l).length = tl set l := by
  have := drop_app (hd set l) (tl set l)
  rwa [hd_tl] at this
theorem hd_len (set l : List Int) : (hd set l).length + (tl set l).length = l.length := by
  rw [← List.length_append, hd_tl]
def okSet (set : ByteArray) : Bool := decide (1 ≤ set.size) && (decide (set.size ≤ 4) && set.data.toList.all (fun b => decide (b.toNat < 128)))
theorem index_eq (s set : ByteArray) (hs : s.size ≤ 100000) (hk : okSet set = true) : strings_IndexAny.f s set = some (if tl (bytesOf set) (bytesOf s) = [] then -1 else ((hd (bytesOf set) (bytesOf s)).length : Int)) := by
  unfold okSet at hk
  rw [Bool.and_eq_true, Bool.and_eq_true, decide_eq_true_iff, decide_eq_true_iff] at hk
  unfold strings_IndexAny.f
  rw [if_pos hk.1, if_pos hk.2.1, if_pos hk.2.2, if_pos (by omega), ia_eq]
  rfl
theorem cut_is (s : ByteArray) (a b : Nat) : s.extract a b = strOfNums (((bytesOf s).drop a).take (b - a)) := by
  rw [← bytes_extract, S_B]
theorem upTo_eq (s set : ByteArray) (hs : s.size ≤ 100000) (hk : okSet set = true) : tuple_upTo.f s set = some (strOfNums (hd (bytesOf set) (bytesOf s)), strOfNums (tl (bytesOf set) (bytesOf s))) := by
  unfold tuple_upTo.f
  rw [index_eq s set hs hk]
  simp only [Option.bind_some]
  have hl := hd_len (bytesOf set) (bytesOf s)
  rw [bytesOf_length] at hl
  by_cases h : tl (bytesOf set) (bytesOf s) = []
  · rw [if_pos h, if_neg (by decide), h]
    have := hd_tl (bytesOf set) (bytesOf s)
    rw [h, List.append_nil] at this
    rw [this, S_B]
    rfl
  · rw [if_neg h, if_pos (by omega), if_pos (by omega), if_pos (by omega), cut_is, cut_is]
    have e : (((hd (bytesOf set) (bytesOf s)).length : Int)).toNat = (hd (bytesOf set) (bytesOf s)).length := by omega
    rw [e, List.drop_zero, Nat.sub_zero, hd_take, hd_drop, List.take_of_length_le (by omega)]
def cutB (s p : ByteArray) : Bool := decide (p.size ≤ s.size ∧ (s.extract 0 p.size).toList = p.toList)
theorem cut_eq (s p : ByteArray) : strings_CutPrefix.f s p = some (if cutB s p = true then (s.extract p.size s.size, true) else (s, false)) := by
  unfold strings_CutPrefix.f stringslite_CutPrefix.f stringslite_HasPrefix.f cutB
  by_cases h : p.size ≤ s.size
  · rw [if_pos (by omega), if_pos (by omega), if_pos (by omega)]
    simp only [Int.toNat_natCast, Option.bind_some]
    by_cases e : (s.extract 0 p.size).toList = p.toList
    · rw [decide_eq_true ⟨h, e⟩, beq_iff_eq.2 e]
      simp only [if_true]
      rw [if_pos (by omega), if_pos (by omega)]
      rfl
    · rw [decide_eq_false (fun x => e x.2), beq_eq_false_iff_ne.2 e]
      rfl
  · rw [if_neg (by omega), decide_eq_false (fun x => h x.1)]
    rfl
theorem cutB_eq (s p : ByteArray) : cutB s p = decide ((bytesOf s).take p.size = bytesOf p) := by
  unfold cutB
  refine decide_eq_decide.2 ?_
  rw [toList_iff, bytes_extract, List.drop_zero, Nat.sub_zero]
  constructor
  · exact fun h => h.2
  · intro h
    refine ⟨?_, h⟩
    have := congrArg List.length h
    rw [List.length_take, bytesOf_length, bytesOf_length] at this
    omega
theorem has_eq (s p : ByteArray) : strings_HasPrefix.f s p = some (decide ((bytesOf s).take p.size = bytesOf p)) := by
  rw [← cutB_eq]
  unfold strings_HasPrefix.f stringslite_HasPrefix.f cutB
  by_cases h : p.size ≤ s.size
  · rw [if_pos (by omega), if_pos (by omega), if_pos (by omega)]
    simp only [Int.toNat_natCast, Option.bind_some]
    by_cases e : (s.extract 0 p.size).toList = p.toList
    · rw [decide_eq_true ⟨h, e⟩, beq_iff_eq.2 e]
    · rw [decide_eq_false (fun x => e x.2), beq_eq_false_iff_ne.2 e]
  · rw [if_neg (by omega), decide_eq_false (fun x => h x.1)]
    rfl
theorem take1 (l : List Int) (c : Int) : (l.take 1 = [c]) ↔ l.head? = some c := by
  cases l with
  | nil => simp
  | cons a t => simp
/-- A text of one byte taken off. -/
theorem cut_one (s : ByteArray) (c : UInt8) : strings_CutPrefix.f s (⟨#[c]⟩ : ByteArray) = some (if (bytesOf s).head? = some (nn c) then (strOfNums (bytesOf s).tail, true) else (s, false)) := by
  rw [cut_eq, cutB_eq]
  have e : bytesOf (⟨#[c]⟩ : ByteArray) = [nn c] := rfl
  have z : (⟨#[c]⟩ : ByteArray).size = 1 := rfl
  rw [e, z]
  by_cases h : (bytesOf s).head? = some (nn c)
  · rw [if_pos h, decide_eq_true ((take1 _ _).2 h), if_pos rfl, cut_is, List.drop_one, List.take_of_length_le (by rw [List.length_tail, bytesOf_length]; omega)]
  · rw [if_neg h, decide_eq_false (fun x => h ((take1 _ _).1 x)), if_neg (by decide)]
theorem cut_two (s : ByteArray) : strings_CutPrefix.f s (⟨#[47, 47]⟩ : ByteArray) = some (if (bytesOf s).take 2 = [47, 47] then (strOfNums ((bytesOf s).drop 2), true) else (s, false)) := by
  rw [cut_eq, cutB_eq]
  have e : bytesOf (⟨#[47, 47]⟩ : ByteArray) = [47, 47] := rfl
  have z : (⟨#[47, 47]⟩ : ByteArray).size = 2 := rfl
  rw [e, z]
  by_cases h : (bytesOf s).take 2 = [47, 47]
  · rw [if_pos h, decide_eq_true h, if_pos rfl, cut_is, List.take_of_length_le (by rw [List.length_drop, bytesOf_length]; omega)]
  · rw [if_neg h, decide_eq_false h, if_neg (by decide)]
def Byt (l : List Int) : Prop := ∀ x ∈ l, 0 ≤ x ∧ x ≤ 255
theorem B_S {l : List Int} (h : Byt l) : bytesOf (strOfNums l) = l := bytes_str l h
theorem Byt.of (s : ByteArray) : Byt (bytesOf s) := bytes_range s
theorem Byt.hd {set l : List Int} (h : Byt l) : Byt (hd set l) := fun x hx => h x (by rw [← hd_tl set l]; exact List.mem_append_left _ hx)
theorem Byt.tl {set l : List Int} (h : Byt l) : Byt (tl set l) := fun x hx => h x (by rw [← hd_tl set l]; exact List.mem_append_right _ hx)
theorem Byt.drop {l : List Int} (h : Byt l) (n : Nat) : Byt (l.drop n) := fun x hx => h x (List.mem_of_mem_drop hx)
theorem Byt.tail {l : List Int} (h : Byt l) : Byt l.tail := fun x hx => h x (List.mem_of_mem_tail hx)
theorem Byt.nil : Byt [] := by intro x hx; cases hx
theorem S_size (l : List Int) : (strOfNums l).size = l.length := strOfNums_size l
def toT (x : P8) : ByteArray × Bool × ByteArray × ByteArray × Bool × ByteArray × Bool × ByteArray := (strOfNums x.1, x.2.1, strOfNums x.2.2.1, strOfNums x.2.2.2.1, x.2.2.2.2.1, strOfNums x.2.2.2.2.2.1, x.2.2.2.2.2.2.1, strOfNums x.2.2.2.2.2.2.2)
theorem S_nil : strOfNums [] = (⟨#[]⟩ : ByteArray) := rfl
/-- The program, from the path on. -/
theorem pj2_ev (l : List Int) (hB : Byt l) (hl : l.length ≤ 100000) (x0 : ByteArray) (x1 : Bool) (x2 : ByteArray) :
    Ev (fun k => tuple_Split.j2 k (strOfNums l) x0 x1 x2 (⟨#[]⟩ : ByteArray) false (⟨#[]⟩ : ByteArray) false (⟨#[]⟩ : ByteArray)) (x0, x1, x2, strOfNums (hd SP l), (s4 (tl SP l)).1, strOfNums (s4 (tl SP l)).2.1, (s5 (s4 (tl SP l)).2.2).1, strOfNums (s5 (s4 (tl SP l)).2.2).2) := by
  have eP : bytesOf (⟨#[63, 35]⟩ : ByteArray) = SP := rfl
  have eQ : bytesOf (⟨#[35]⟩ : ByteArray) = SQ := rfl
  have u1 := upTo_eq (strOfNums l) (⟨#[63, 35]⟩ : ByteArray) (by rw [S_size]; exact hl) (by decide)
  rw [B_S hB, eP] at u1
  have c1 := cut_one (strOfNums (tl SP l)) 63
  rw [B_S hB.tl] at c1
  have c2 := cut_one (strOfNums (tl SP l)) 35
  rw [B_S hB.tl] at c2
  have hlt : (tl SP l).length ≤ 100000 := by have := hd_len SP l; omega
  have u2 := upTo_eq (strOfNums (tl SP l).tail) (⟨#[35]⟩ : ByteArray) (by rw [S_size, List.length_tail]; omega) (by decide)
  rw [B_S hB.tl.tail, eQ] at u2
  have c3 := cut_one (strOfNums (tl SQ (tl SP l).tail)) 35
  rw [B_S hB.tl.tail.tl] at c3
  have n63 : nn 63 = 63 := rfl
  have n35 : nn 35 = 35 := rfl
  rw [n63] at c1
  rw [n35] at c2 c3
  refine Ev.step (f := fun k => some _) (fun k => ?_) (Ev.now _)
  simp only [tuple_Split.j2, u1, Option.bind_some, c1]
  unfold s4
  by_cases h : (tl SP l).head? = some 63
  · simp only [h, if_true, u2, Option.bind_some, c3]
    unfold s5
    by_cases h3 : (tl SQ (tl SP l).tail).head? = some 35
    · simp only [h3, if_true]
    · simp only [h3, if_false, Bool.false_eq_true]
      rfl
  · simp only [h, if_false, Bool.false_eq_true, c2, Option.bind_some]
    unfold s5
    by_cases h3 : (tl SP l).head? = some 35
    · simp only [h3, if_true]
      rfl
    · simp only [h3, if_false, Bool.false_eq_true]
      rfl
theorem pj1_ev (l : List Int) (hB : Byt l) (hl : l.length ≤ 100000) (x0 : ByteArray) :
    Ev (fun k => tuple_Split.j1 k (strOfNums l) x0 false (⟨#[]⟩ : ByteArray) (⟨#[]⟩ : ByteArray) false (⟨#[]⟩ : ByteArray) false (⟨#[]⟩ : ByteArray)) (x0, (s2 l).1, strOfNums (s2 l).2.1, strOfNums (hd SP (s2 l).2.2), (s4 (tl SP (s2 l).2.2)).1, strOfNums (s4 (tl SP (s2 l).2.2)).2.1, (s5 (s4 (tl SP (s2 l).2.2)).2.2).1, strOfNums (s5 (s4 (tl SP (s2 l).2.2)).2.2).2) := by
  have eA : bytesOf (⟨#[47, 63, 35]⟩ : ByteArray) = SA := rfl
  have c1 := cut_two (strOfNums l)
  rw [B_S hB] at c1
  have u1 := upTo_eq (strOfNums (l.drop 2)) (⟨#[47, 63, 35]⟩ : ByteArray) (by rw [S_size, List.length_drop]; omega) (by decide)
  rw [B_S (hB.drop 2), eA] at u1
  by_cases h : l.take 2 = [47, 47]
  · have e : s2 l = (true, hd SA (l.drop 2), tl SA (l.drop 2)) := by unfold s2; rw [if_pos h]
    rw [e]
    have := pj2_ev (tl SA (l.drop 2)) (hB.drop 2).tl (by have := hd_len SA (l.drop 2); rw [List.length_drop] at this; omega) x0 true (strOfNums (hd SA (l.drop 2)))
    refine Ev.step (fun k => ?_) this
    simp only [tuple_Split.j1, c1, Option.bind_some, h, if_true, u1]
  · have e : s2 l = (false, [], l) := by unfold s2; rw [if_neg h]
    rw [e]
    have := pj2_ev l hB hl x0 false (⟨#[]⟩ : ByteArray)
    refine Ev.step (fun k => ?_) this
    simp only [tuple_Split.j1, c1, Option.bind_some, h, if_false, Bool.false_eq_true]
theorem toList_nil (l : List Int) (hB : Byt l) : (strOfNums l).toList = ([] : List UInt8) ↔ l = [] := by
  have := toList_iff (strOfNums l) (⟨#[]⟩ : ByteArray)
  rw [B_S hB, show bytesOf (⟨#[]⟩ : ByteArray) = [] from rfl, Lib.toList_data (⟨#[]⟩ : ByteArray)] at this
  exact this
theorem Split_ev (s : ByteArray) (hs : s.size ≤ 100000) : Ev (fun k => tuple_Split.f k s) (toT (split (bytesOf s))) := by
  have eS : bytesOf (⟨#[58, 47, 63, 35]⟩ : ByteArray) = SS := rfl
  obtain ⟨l, hl⟩ : ∃ l, l = bytesOf s := ⟨_, rfl⟩
  have hB : Byt l := by rw [hl]; exact Byt.of s
  have hlen : l.length ≤ 100000 := by rw [hl, bytesOf_length]; exact hs
  have es : s = strOfNums l := by rw [hl, S_B]
  rw [← hl]
  have u1 := upTo_eq s (⟨#[58, 47, 63, 35]⟩ : ByteArray) hs (by decide)
  rw [← hl, eS] at u1
  unfold tuple_Split.f
  refine Ev.congr (f := fun k => tuple_Split.j0 k s (strOfNums (hd SS l)) (strOfNums (tl SS l)) (decide (hd SS l ≠ [] ∧ (tl SS l).head? = some 58)) (⟨#[]⟩ : ByteArray) false (⟨#[]⟩ : ByteArray) (⟨#[]⟩ : ByteArray) false (⟨#[]⟩ : ByteArray) false (⟨#[]⟩ : ByteArray)) (fun k => ?_) ?_
  · simp only [u1, Option.bind_some]
    by_cases h : hd SS l = []
    · rw [if_pos ((toList_nil _ hB.hd).2 h), decide_eq_false (fun x => x.1 h)]
    · rw [if_neg (fun x => h ((toList_nil _ hB.hd).1 x)), has_eq, B_S hB.tl]
      simp only [Option.bind_some]
      congr 1
      refine decide_eq_decide.2 ?_
      rw [show (⟨#[58]⟩ : ByteArray).size = 1 from rfl, show bytesOf (⟨#[58]⟩ : ByteArray) = [58] from rfl, take1]
      exact ⟨fun x => ⟨h, x⟩, fun x => x.2⟩
  · unfold split toT
    simp only
    by_cases h : hd SS l ≠ [] ∧ (tl SS l).head? = some 58
    · have e1 : s1 l = (hd SS l, (tl SS l).tail) := by unfold s1; rw [if_pos h]
      rw [e1]
      have ht := head_tail h.2
      have hlt : 1 ≤ (tl SS l).length := by rw [ht]; simp
      have hle := hd_len SS l
      refine Ev.step (fun k => ?_) (pj1_ev (tl SS l).tail hB.tl.tail (by rw [List.length_tail]; omega) (strOfNums (hd SS l)))
      simp only [tuple_Split.j0, decide_eq_true h, if_true]
      rw [if_pos (by rw [S_size]; omega), cut_is, B_S hB.tl, List.drop_one, List.take_of_length_le (by rw [List.length_tail, S_size]; omega)]
    · have e1 : s1 l = ([], l) := by unfold s1; rw [if_neg h]
      rw [e1]
      have := pj1_ev l hB hlen (⟨#[]⟩ : ByteArray)
      rw [← es] at this
      refine Ev.step (fun k => ?_) this
      simp only [tuple_Split.j0, decide_eq_false h, Bool.false_eq_true, if_false]
end Go.Proofs.Ytgccggbokphibaa.P20
