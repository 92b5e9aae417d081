/- Plain facts on a text's pieces (code points and faults): their places, values, repair; the printed functions on them. No condition but those that each names. -/
import Derived.Test.YtedaalklakokkaaP02
namespace Go.Proofs.Ytedaalklakokkaa.P02
open Go.RowKit Go.Proofs.Ytedaalklakokkaa.PAll Go.Proofs.Ytedaalklakokkaa.By Go.Proofs.YtedaalklakokkaaW.PrintWords Go.Proofs.YtedaalklakokkaaW.PrintLast
set_option linter.unusedVariables false

abbrev Pc := Int × List Int × Bool
def pcs : Nat → List Int → List Pc
  | 0, _ => []
  | f + 1, l => if l = [] then [] else ((dec l).1, l.take (dec l).2.1.toNat, (dec l).2.2) :: pcs f (l.drop (dec l).2.1.toNat)
def pc (l : List Int) : List Pc := pcs l.length l
def txt (ps : List Pc) : List Int := (ps.map (·.2.1)).flatten
theorem pcs_more : ∀ (f g : Nat) (l : List Int), Byt l → l.length ≤ f → l.length ≤ g → pcs f l = pcs g l
  | 0, 0, _, _, _, _ => rfl
  | 0, g + 1, l, hl, h, _ => by
    have e : l = [] := List.length_eq_zero_iff.1 (by omega)
    unfold pcs; rw [if_pos e]
  | f + 1, 0, l, hl, _, h => by
    have e : l = [] := List.length_eq_zero_iff.1 (by omega)
    unfold pcs; rw [if_pos e]
  | f + 1, g + 1, l, hl, hf, hg => by
    unfold pcs
    by_cases e : l = []
    · rw [if_pos e, if_pos e]
    · rw [if_neg e, if_neg e]
      have := dec_len l hl e
      rw [pcs_more f g (l.drop (dec l).2.1.toNat) (byt_drop hl _) (by rw [List.length_drop]; omega) (by rw [List.length_drop]; omega)]
theorem pc_nil : pc [] = [] := rfl
theorem pc_cons (l : List Int) (hl : Byt l) (h : l ≠ []) : pc l = ((dec l).1, l.take (dec l).2.1.toNat, (dec l).2.2) :: pc (l.drop (dec l).2.1.toNat) := by
  have h1 := dec_len l hl h
  unfold pc
  obtain ⟨n, hn⟩ : ∃ n, l.length = n + 1 := ⟨l.length - 1, by omega⟩
  rw [hn]
  conv => lhs; unfold pcs
  rw [if_neg h, pcs_more n (l.drop (dec l).2.1.toNat).length _ (byt_drop hl _) (by rw [List.length_drop]; omega) (Nat.le_refl _)]
theorem pc_ind {P : List Int → Prop} (h0 : P []) (hs : ∀ l, Byt l → l ≠ [] → P (l.drop (dec l).2.1.toNat) → P l) : ∀ l, Byt l → P l := by
  have key : ∀ n l, l.length ≤ n → Byt l → P l := by
    intro n
    induction n with
    | zero => intro l h _; rw [List.length_eq_zero_iff.1 (by omega : l.length = 0)]; exact h0
    | succ n ih =>
      intro l h hl
      by_cases e : l = []
      · rw [e]; exact h0
      · have := dec_len l hl e
        exact hs l hl e (ih _ (by rw [List.length_drop]; omega) (byt_drop hl _))
  exact fun l hl => key l.length l (Nat.le_refl _) hl
theorem txt_pc : ∀ l, Byt l → txt (pc l) = l := by
  apply pc_ind
  · rfl
  · intro l hl h ih
    rw [pc_cons l hl h]
    unfold txt at ih ⊢
    rw [List.map_cons, List.flatten_cons, ih, List.take_append_drop]
/-- Of each piece: a code point is its bytes. -/
def Good (p : Pc) : Prop := scaB p.1 = true ∧ p.2.1 = encI p.1
theorem pc_good : ∀ l, Byt l → ∀ p ∈ pc l, p.2.2 = true → Good p := by
  apply pc_ind
  · intro p hp; simp [pc_nil] at hp
  · intro l hl h ih p hp ho
    rw [pc_cons l hl h] at hp
    rcases List.mem_cons.1 hp with rfl | hp
    · have := dec_good l hl ho
      exact ⟨this.1, this.2.1⟩
    · exact ih p hp ho
theorem pc_one (r : Int) (t : List Int) (h : scaB r = true) (ht : Byt t) : pc (encI r ++ t) = (r, encI r, true) :: pc t := by
  have hp := enc_pos r
  have hne : encI r ++ t ≠ [] := by
    intro e
    rw [(List.append_eq_nil_iff.1 e).1] at hp
    simp at hp
  rw [pc_cons _ (byt_app (enc_byt r h) ht) hne, dec_enc r t h]
  simp
theorem pc_many : ∀ (rs : List Int) (t : List Int), (∀ r ∈ rs, scaB r = true) → Byt t → pc ((rs.map encI).flatten ++ t) = rs.map (fun r => (r, encI r, true)) ++ pc t
  | [], _, _, _ => rfl
  | r :: rs, t, h, ht => by
    have hb : Byt ((rs.map encI).flatten ++ t) := by
      refine byt_app ?_ ht
      intro x hx
      obtain ⟨q, hq, hx⟩ := List.mem_flatten.1 hx
      obtain ⟨r', hr', rfl⟩ := List.mem_map.1 hq
      exact enc_byt r' (h r' (by simp [hr'])) x hx
    rw [List.map_cons, List.flatten_cons, List.append_assoc, pc_one r _ (h r (by simp)) hb, pc_many rs t (fun r' h' => h r' (by simp [h'])) ht]
    rfl
/-- The place of the first fault. -/
def faultP : List Pc → Int → Int
  | [], _ => -1
  | p :: ps, i => if p.2.2 = true then faultP ps (i + p.2.1.length) else i
def allOk (ps : List Pc) : Bool := ps.all (·.2.2)
theorem faultP_ok : ∀ (ps : List Pc) (i : Int), 0 ≤ i → (faultP ps i < 0 ↔ allOk ps = true)
  | [], i, _ => by simp [faultP, allOk]
  | p :: ps, i, h => by
    unfold faultP
    by_cases hp : p.2.2 = true
    · rw [if_pos hp, faultP_ok ps _ (by omega)]
      simp [allOk, hp]
    · rw [if_neg hp]
      simp only [allOk, List.all_cons, hp]
      simp; omega
theorem faultP_app : ∀ (ps qs : List Pc) (i : Int), allOk ps = true → faultP (ps ++ qs) i = faultP qs (i + (txt ps).length)
  | [], qs, i, _ => by simp [txt]
  | p :: ps, qs, i, h => by
    simp only [allOk, List.all_cons, Bool.and_eq_true] at h
    rw [List.cons_append, faultP, if_pos h.1, faultP_app ps qs _ h.2]
    congr 1
    simp [txt]
    omega
theorem faultP_shift : ∀ (ps : List Pc) (i d : Int), 0 ≤ i → 0 ≤ d → faultP ps (i + d) = if faultP ps i < 0 then faultP ps i else faultP ps i + d
  | [], i, d, _, _ => by simp [faultP]
  | p :: ps, i, d, h, hd => by
    unfold faultP
    by_cases hp : p.2.2 = true
    · rw [if_pos hp, if_pos hp, show i + d + (p.2.1.length : Int) = i + p.2.1.length + d by omega]
      exact faultP_shift ps _ d (by omega) hd
    · rw [if_neg hp, if_neg hp, if_neg (by omega)]
theorem take_len (l : List Int) (hl : Byt l) (h : l ≠ []) : ((l.take (dec l).2.1.toNat).length : Int) = (dec l).2.1 := by
  have := dec_len l hl h
  rw [List.length_take]; omega
theorem faultF_pc (l : List Int) (hl : Byt l) : ∀ (f i : Nat), l.length < f + i → faultF l f i = faultP (pc (l.drop i)) i
  | 0, i, h => by rw [List.drop_eq_nil_of_le (by omega)]; rfl
  | f + 1, i, h => by
    unfold faultF
    by_cases hi : i < l.length
    · have hne : l.drop i ≠ [] := by
        intro e
        have := congrArg List.length e
        rw [List.length_drop] at this
        simp at this; omega
      have hd := dec_len (l.drop i) (byt_drop hl i) hne
      rw [if_pos hi, pc_cons _ (byt_drop hl i) hne, faultP]
      simp only [take_len _ (byt_drop hl i) hne]
      by_cases ho : (dec (l.drop i)).2.2 = true
      · rw [if_pos ho, if_pos ho, faultF_pc l hl f _ (by omega), List.drop_drop]
        congr 1
        omega
      · rw [if_neg ho, if_neg ho]
    · rw [if_neg hi, List.drop_eq_nil_of_le (by omega)]
      rfl
/-- The first fault of a whole text. -/
def flt (l : List Int) : Int := faultP (pc l) 0
theorem faultF_flt (l : List Int) (hl : Byt l) : faultF l (l.length + 1) 0 = flt l := by
  rw [faultF_pc l hl _ 0 (by omega), List.drop_zero]; rfl
theorem flt_ok (l : List Int) : flt l < 0 ↔ allOk (pc l) = true := faultP_ok _ 0 (by omega)
theorem flt_app (a b : List Int) (ha : Byt a) (hb : Byt b) (h : flt a < 0) : flt (a ++ b) = (if flt b < 0 then flt b else flt b + a.length) ∧ pc (a ++ b) = pc a ++ pc b := by
  rw [flt_ok] at h
  have e1 : pc a = ((pc a).map (·.1)).map (fun r => (r, encI r, true)) := by
    rw [List.map_map]
    conv => lhs; rw [← List.map_id (pc a)]
    refine List.map_congr_left fun p hp => ?_
    have ho : p.2.2 = true := by unfold allOk at h; exact List.all_eq_true.1 h p hp
    have hg := pc_good a ha p hp ho
    obtain ⟨v, q, o⟩ := p
    simp only [Function.comp, id] at *
    rw [← hg.2, ho]
  have e2 : a = (((pc a).map (·.1)).map encI).flatten := by
    conv => lhs; rw [← txt_pc a ha, e1]
    unfold txt
    rw [List.map_map]
    rfl
  have hs : ∀ r ∈ (pc a).map (·.1), scaB r = true := by
    intro r hr
    obtain ⟨p, hp, rfl⟩ := List.mem_map.1 hr
    have ho : p.2.2 = true := by unfold allOk at h; exact List.all_eq_true.1 h p hp
    exact (pc_good a ha p hp ho).1
  have e3 : pc (a ++ b) = pc a ++ pc b := by
    conv => lhs; rw [e2]
    rw [pc_many _ b hs hb, ← e1]
  refine ⟨?_, e3⟩
  unfold flt
  rw [e3, faultP_app _ _ _ h, txt_pc a ha]
  exact faultP_shift _ 0 _ (by omega) (by omega)
end Go.Proofs.Ytedaalklakokkaa.P02
