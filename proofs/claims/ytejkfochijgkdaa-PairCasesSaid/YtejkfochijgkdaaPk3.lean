/- Lower and Width: the program's are the document's; told twice they are as told once. -/
import Derived.Test.YtejkfochijgkdaaPk2
import Derived.Test.YtejkfochijgkdaaPPairCasesx1
import Derived.Test.YtejkfochijgkdaaP07
namespace Go.Proofs.Ytejkfochijgkdaa.Pk
open Go.RowKit Go.Proofs.YtejkfochijgkdaaW.PrintWords Go.Proofs.Ytejkfochijgkdaa.PPairCases
open Go.Proofs.Ytejkfochijgkdaa.Pr (runesF fastG cd runes_fast)
set_option linter.unusedVariables false
set_option linter.unusedSimpArgs false
def t65 (x : S65) : T4 := (x.f0, x.f1, x.f2, x.f3)
/-- The first shift that fits. -/
def lkS : List T4 → Int → Option Int
  | [], _ => none
  | x :: t, r => if x.1 ≤ r ∧ r ≤ x.2.1 ∧ Int.tmod (wrap32 (r - x.1)) x.2.2.1 = 0 then some (wrap32 (r + x.2.2.2)) else lkS t r
theorem drop65 (xs : List S65) (j : Nat) (h : j < xs.length) : xs.drop j = rd_T65 xs (j : Int) :: xs.drop (j + 1) := by
  rw [List.drop_eq_getElem_cons h]
  unfold rd_T65
  rw [Int.toNat_natCast, List.getD_eq_getElem?_getD, List.getElem?_eq_getElem h]
  rfl
theorem l0_ev (l : List S65) (x : Int) (hs : ∀ y ∈ l, y.f2 ≠ 0) (hl : l.length ≤ 100000) : ∀ (k i : Nat), i ≤ l.length → l.length - i < k →
    pair_look.l0 k x l (l.length : Int) (i : Int) = some (match lkS ((l.drop i).map t65) x with | some y => (y, true) | none => (x, false))
  | 0, i, _, h => by omega
  | k + 1, i, hi, h => by
    unfold pair_look.l0
    by_cases hlt : i < l.length
    · have hmem : rd_T65 l (i : Int) ∈ l := by
        have := drop65 l i hlt
        exact List.mem_of_mem_drop (by rw [this]; exact List.mem_cons_self ..)
      have h2 := hs _ hmem
      have ih := l0_ev l x hs hl k (i + 1) (by omega) (by omega)
      have hw : wrap64 ((i : Int) + 1) = ((i + 1 : Nat) : Int) := by unfold wrap64; omega
      rw [if_pos (by omega), if_pos (by omega), if_pos (by omega), hw, ih, drop65 l i hlt, List.map_cons, lkS]
      generalize rd_T65 l (i : Int) = y at h2
      show _ = some (match (if y.f0 ≤ x ∧ x ≤ y.f1 ∧ Int.tmod (wrap32 (x - y.f0)) y.f2 = 0 then some (wrap32 (x + y.f3)) else lkS ((l.drop (i + 1)).map t65) x) with | some y => (y, true) | none => (x, false))
      by_cases e1 : y.f0 ≤ x
      · rw [if_pos e1]
        by_cases e2 : x ≤ y.f1
        · rw [if_pos e2, if_neg h2]
          by_cases e3 : Int.tmod (wrap32 (x - y.f0)) y.f2 = 0
          · rw [if_pos e3, if_pos ⟨e1, e2, e3⟩]
          · rw [if_neg e3, if_neg (fun h => e3 h.2.2)]
        · rw [if_neg e2, if_neg (fun h => e2 h.2.1)]
      · rw [if_neg e1, if_neg (fun h => e1 h.1)]
    · rw [if_neg (by omega), List.drop_eq_nil_of_le (by omega)]
      rfl
theorem look_ev (l : List S65) (x : Int) (hs : ∀ y ∈ l, y.f2 ≠ 0) (hl : l.length ≤ 100000) (k : Nat) (hk : l.length < k) :
    pair_look.f k l x = some (match lkS (l.map t65) x with | some y => (y, true) | none => (x, false)) := by
  have := l0_ev l x hs hl k 0 (by omega) (by omega)
  exact this
def LA : List S65 := pair_latin.f.getD []
def LO : List S65 := pair_others.f.getD []
theorem LA_eq : pair_latin.f = some LA := rfl
theorem LO_eq : pair_others.f = some LO := rfl
def L1 : List T4 := LA.map t65
def L2 : List T4 := LO.map t65
theorem LA_ok : (∀ y ∈ LA, y.f2 ≠ 0) ∧ LA.length = 14 := by
  constructor
  · intro y hy
    have : ∀ t ∈ L1, t.2.2.1 ≠ 0 := by decide +kernel
    exact this (t65 y) (List.mem_map.2 ⟨y, hy, rfl⟩)
  · rfl
theorem LO_ok : (∀ y ∈ LO, y.f2 ≠ 0) ∧ LO.length = 13 := by
  constructor
  · intro y hy
    have : ∀ t ∈ L2, t.2.2.1 ≠ 0 := by decide +kernel
    exact this (t65 y) (List.mem_map.2 ⟨y, hy, rfl⟩)
  · rfl
def lowS (r : Int) : Int := if r < 128 then (if 65 ≤ r ∧ r ≤ 90 then wrap32 (r + 32) else r) else (lkS L1 r).getD ((lkS L2 r).getD r)
theorem lower_ev (r : Int) : pair_Lower.f 100 r = some (lowS r) := by
  unfold pair_Lower.f lowS
  by_cases h : r < 128
  · rw [if_pos h, if_pos h]
    by_cases h1 : r ≥ 65
    · rw [if_pos h1]
      by_cases h2 : r ≤ 90
      · rw [if_pos h2, if_pos ⟨h1, h2⟩]
      · rw [if_neg h2, if_neg (fun h => h2 h.2)]
    · rw [if_neg h1, if_neg (fun h => h1 h.1)]
  · rw [if_neg h, if_neg h, LA_eq, Option.bind_some, look_ev LA r LA_ok.1 (by rw [LA_ok.2]; decide) 100 (by rw [LA_ok.2]; decide), Option.bind_some]
    show (if _ = true then _ else _) = some ((lkS L1 r).getD _)
    unfold L1
    cases lkS (LA.map t65) r with
    | some y => rfl
    | none =>
      show (if false = true then _ else _) = some ((lkS L2 r).getD r)
      rw [if_neg (by decide), LO_eq, Option.bind_some, look_ev LO r LO_ok.1 (by rw [LO_ok.2]; decide) 100 (by rw [LO_ok.2]; decide), Option.bind_some]
      unfold L2
      cases lkS (LO.map t65) r with
      | some y => rfl
      | none => rfl
/-! ### the code points that shifts name -/
def cand (l : List T4) : List Int := l.flatMap fun x => (List.range (x.2.1 - x.1 + 1).toNat).map fun (i : Nat) => x.1 + (i : Int)
theorem cand_mem {l : List T4} {r : Int} {x : T4} (hx : x ∈ l) (h1 : x.1 ≤ r) (h2 : r ≤ x.2.1) : r ∈ cand l := by
  unfold cand
  refine List.mem_flatMap.2 ⟨x, hx, List.mem_map.2 ⟨(r - x.1).toNat, List.mem_range.2 (by omega), by omega⟩⟩
theorem lkS_none : ∀ (l : List T4) (r : Int), (∀ x ∈ l, ¬ (x.1 ≤ r ∧ r ≤ x.2.1)) → lkS l r = none
  | [], _, _ => rfl
  | x :: t, r, h => by
    rw [lkS, if_neg (fun e => h x (List.mem_cons_self ..) ⟨e.1, e.2.1⟩)]
    exact lkS_none t r (fun y hy => h y (List.mem_cons_of_mem _ hy))
theorem lk_none : ∀ (l : List T4) (r : Int), (∀ x ∈ l, ¬ (x.1 ≤ r ∧ r ≤ x.2.1)) → lk l r = r
  | [], _, _ => rfl
  | x :: t, r, h => by
    rw [lk, if_neg (fun e => h x (List.mem_cons_self ..) ⟨e.1, e.2.1⟩)]
    exact lk_none t r (fun y hy => h y (List.mem_cons_of_mem _ hy))
theorem sub1 : ∀ x ∈ L1, x ∈ ST := by decide +kernel
theorem sub2 : ∀ x ∈ L2, x ∈ ST := by decide +kernel
theorem sub0 : ((65, 90, 1, 32) : T4) ∈ ST := by decide +kernel
set_option maxRecDepth 1000000 in
set_option maxHeartbeats 0 in
theorem all_cand : ∀ r ∈ cand ST, lowS r = lk ST r ∧ lowS (lowS r) = lowS r ∧ (-2147483648 ≤ lowS r ∧ lowS r ≤ 2147483647) := by decide +kernel
theorem low_eq (r : Int) (hr : -2147483648 ≤ r ∧ r ≤ 2147483647) : lowS r = lk ST r ∧ lowS (lowS r) = lowS r ∧ (-2147483648 ≤ lowS r ∧ lowS r ≤ 2147483647) := by
  by_cases h : r ∈ cand ST
  · exact all_cand r h
  · have hn : ∀ x ∈ ST, ¬ (x.1 ≤ r ∧ r ≤ x.2.1) := fun x hx e => h (cand_mem hx e.1 e.2)
    have e1 : lk ST r = r := lk_none ST r hn
    have h0 := hn _ sub0
    have e2 : lowS r = r := by
      unfold lowS
      rw [lkS_none L1 r (fun x hx => hn x (sub1 x hx)), lkS_none L2 r (fun x hx => hn x (sub2 x hx))]
      by_cases h9 : r < 128
      · rw [if_pos h9, if_neg h0]
      · rw [if_neg h9]
        rfl
    exact ⟨by rw [e1, e2], by rw [e2, e2], by rw [e2]; exact hr⟩
/-! ### Width -/
theorem runes_all (s : ByteArray) : runesF s (s.size + 1) 0 = (fastG (s.size + 1) s.size (cd s.data.toList)).map Int.ofNat := by
  have := runes_fast s (s.size + 1) 0
  rw [Nat.sub_zero, List.drop_zero] at this
  exact this
theorem KR : runesF KS (KS.size + 1) 0 = (fastG (KS.size + 1) KS.size (cd KS.data.toList)).map Int.ofNat := runes_all KS
set_option maxRecDepth 1000000 in
set_option maxHeartbeats 0 in
theorem kana_ok : ∀ i : Nat, i < 58 → scan ((fastG (KS.size + 1) KS.size (cd KS.data.toList)).map Int.ofNat) 65382 (65382 + (i : Int)) = KT.getD i 0 ∧ (12289 ≤ KT.getD i 0 ∧ KT.getD i 0 ≤ 12600) := by decide +kernel
theorem wid_eq (r : Int) (hr : -2147483648 ≤ r ∧ r ≤ 2147483647) : widthS r = rWidth r ∧ widthS (widthS r) = widthS r ∧ (-2147483648 ≤ widthS r ∧ widthS r ≤ 2147483647) := by
  have plain : ∀ q : Int, (q < 65281 ∨ 65439 < q) → widthS q = q := fun q hq => by
    unfold widthS
    rw [if_neg (by omega), if_neg (by omega), if_neg (by omega), if_pos (by omega)]
  by_cases h1 : 65281 ≤ r ∧ r ≤ 65374
  · have e : widthS r = r - 65248 := by unfold widthS; rw [if_pos h1]
    refine ⟨?_, ?_, ?_⟩
    · rw [e]; unfold rWidth; rw [if_pos h1]; omega
    · rw [e]; exact plain _ (by omega)
    · rw [e]; omega
  by_cases h2 : r = 65377
  · subst h2
    have e : widthS 65377 = 12290 := rfl
    refine ⟨rfl, ?_, ?_⟩
    · rw [e]; exact plain _ (by omega)
    · rw [e]; omega
  by_cases h3 : r = 65381
  · subst h3
    have e : widthS 65381 = 12539 := rfl
    refine ⟨rfl, ?_, ?_⟩
    · rw [e]; exact plain _ (by omega)
    · rw [e]; omega
  by_cases h4 : 65382 ≤ r ∧ r ≤ 65439
  · have e : widthS r = KT.getD (r - 65382).toNat 0 := by
      unfold widthS
      rw [if_neg h1, if_neg h2, if_neg h3, if_neg (by omega), KR]
      have := (kana_ok (r - 65382).toNat (by omega)).1
      rw [show (65382 : Int) + ((r - 65382).toNat : Int) = r by omega] at this
      exact this
    have b := (kana_ok (r - 65382).toNat (by omega)).2
    refine ⟨?_, ?_, ?_⟩
    · rw [e]; unfold rWidth; rw [if_neg h1, if_neg h2, if_neg h3, if_pos h4]
    · rw [e]; exact plain _ (by omega)
    · rw [e]; omega
  · have e : widthS r = r := by unfold widthS; rw [if_neg h1, if_neg h2, if_neg h3, if_pos (by omega)]
    refine ⟨?_, ?_, ?_⟩
    · rw [e]; unfold rWidth; rw [if_neg h1, if_neg h2, if_neg h3, if_neg h4]
    · rw [e]; exact e
    · rw [e]; exact hr
end Go.Proofs.Ytejkfochijgkdaa.Pk
