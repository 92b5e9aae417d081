/- Rows of code points in chapter 02. No condition but those that each names. -/
import Derived.Test.YtedaalklakokkaaP02d
import Derived.Test.YtedaalklakokkaaPAllx6
import Derived.Test.YtedaalklakokkaaPAllx7
namespace Go.Proofs.Ytedaalklakokkaa.P02
open Go.RowKit Go.Proofs.Ytedaalklakokkaa.PAll Go.Proofs.Ytedaalklakokkaa.By Go.Proofs.YtedaalklakokkaaW.PrintWords Go.Proofs.YtedaalklakokkaaW.PrintLast
set_option linter.unusedVariables false

def vals (ps : List Pc) : List Int := ps.map (·.1)
theorem runesF_pc (l : List Int) (hl : Byt l) : ∀ (f i : Nat), l.length < f + i → runesF l f i = vals (pc (l.drop i))
  | 0, i, h => by rw [List.drop_eq_nil_of_le (by omega)]; rfl
  | f + 1, i, h => by
    unfold runesF
    by_cases hi : i < l.length
    · have hne : l.drop i ≠ [] := by
        intro e
        have := congrArg List.length e
        rw [List.length_drop] at this
        simp at this; omega
      have hd := dec_len (l.drop i) (byt_drop hl i) hne
      rw [if_pos hi, pc_cons _ (byt_drop hl i) hne, runesF_pc l hl f _ (by omega), List.drop_drop]
      rfl
    · rw [if_neg hi, List.drop_eq_nil_of_le (by omega)]
      rfl
theorem uruns (s : ByteArray) (h : s.size ≤ 2000) : utf_Runes.f s = some (if flt (bytesOf s) < 0 then (vals (pc (bytesOf s)), true) else ([], false)) := by
  unfold utf_Runes.f
  rw [if_pos (by omega), ← bytesOf_length, faultF_flt _ (byt_of s), runesF_pc _ (byt_of s) _ 0 (by omega), List.drop_zero]
def cat (l : List Int) : List Int := (l.map encI).flatten
theorem cat_byt (l : List Int) (h : ∀ r ∈ l, scaB r = true) : Byt (cat l) := by
  intro x hx
  obtain ⟨q, hq, hx⟩ := List.mem_flatten.1 hx
  obtain ⟨r, hr, rfl⟩ := List.mem_map.1 hq
  exact enc_byt r (h r hr) x hx
theorem cat_len (l : List Int) : (cat l).length ≤ 4 * l.length := by
  induction l with
  | nil => simp [cat]
  | cons r l ih =>
    have := enc_pos r
    simp only [cat, List.map_cons, List.flatten_cons, List.length_append, List.length_cons] at ih ⊢
    omega
theorem cat_pc (l : List Int) (h : ∀ r ∈ l, scaB r = true) : pc (cat l) = l.map (fun r => (r, encI r, true)) := by
  have := pc_many l [] h (by intro x hx; cases hx)
  rw [List.append_nil, pc_nil, List.append_nil] at this
  exact this
theorem cat_vals (l : List Int) (h : ∀ r ∈ l, scaB r = true) : vals (pc (cat l)) = l ∧ flt (cat l) < 0 := by
  rw [flt_ok, cat_pc l h]
  refine ⟨?_, ?_⟩
  · simp only [vals, List.map_map]
    conv => rhs; rw [← List.map_id l]
    rfl
  · simp [allOk]
theorem vals_cat (l : List Int) (hl : Byt l) (h : flt l < 0) : cat (vals (pc l)) = l ∧ ∀ r ∈ vals (pc l), scaB r = true := by
  rw [flt_ok] at h
  have hg : ∀ p ∈ pc l, Good p := fun p hp => pc_good l hl p hp (by unfold allOk at h; exact List.all_eq_true.1 h p hp)
  refine ⟨?_, ?_⟩
  · conv => rhs; rw [← txt_pc l hl]
    unfold cat vals txt
    rw [List.map_map]
    congr 1
    exact List.map_congr_left fun p hp => ((hg p hp).2).symm
  · intro r hr
    obtain ⟨p, hp, rfl⟩ := List.mem_map.1 hr
    exact (hg p hp).1
theorem vals_rng (l : List Int) (hl : Byt l) : ∀ r ∈ vals (pc l), 0 ≤ r ∧ r ≤ 1114111 := by
  revert hl; revert l
  apply pc_ind
  · intro r hr; simp [vals, pc_nil] at hr
  · intro l hl hne ih r hr
    rw [pc_cons l hl hne] at hr
    simp only [vals, List.map_cons] at hr
    rcases List.mem_cons.1 hr with rfl | hr
    · exact dec_val l hl
    · exact ih r hr
theorem vals_len (l : List Int) (hl : Byt l) : (vals (pc l)).length ≤ l.length := by
  revert hl; revert l
  apply pc_ind
  · simp [vals, pc_nil]
  · intro l hl hn ih
    have := dec_len l hl hn
    rw [pc_cons l hl hn]
    simp only [vals, List.map_cons, List.length_cons] at ih ⊢
    rw [List.length_drop] at ih
    omega
theorem rd_drop (l : List Int) (i : Nat) (h : i < l.length) : l.drop i = rd l (i : Int) :: l.drop (i + 1) := by
  rw [List.drop_eq_getElem_cons h]
  congr 1
  simp [rd, List.getD_eq_getElem?_getD, h]
theorem rd_mem (l : List Int) (i : Nat) (h : i < l.length) : rd l (i : Int) ∈ l := by
  have : rd l (i : Int) = l[i] := by simp [rd, List.getD_eq_getElem?_getD, h]
  rw [this]; exact List.getElem_mem h
theorem rounds_down {n : Nat} {P : Nat → Prop} (h0 : P n) (hs : ∀ i, i < n → P (i + 1) → P i) : ∀ i, i ≤ n → P i := by
  have key : ∀ d i, i + d = n → P i := by
    intro d
    induction d with
    | zero => intro i hi; rw [show i = n by omega]; exact h0
    | succ d ih => intro i hi; exact hs i (by omega) (ih (i + 1) (by omega))
  exact fun i hi => key (n - i) i (by omega)
theorem utext_ev (l : List Int) (hl : l.length ≤ 2000) (h : ∀ r ∈ l, scaB r = true) : ∀ i, i ≤ l.length → ∀ x : List Int, x.length + 4 * (l.length - i) ≤ 1000000 → Ev (fun k => utf_Text.l0 k x l (l.length : Int) (i : Int)) (strOfNums (x ++ cat (l.drop i)), true) := by
  apply rounds_down
  · intro x hx
    refine Ev.step (f := fun _ => some (strOfNums x, true)) (fun k => ?_) ?_
    · simp only [utf_Text.l0]; rw [if_neg (by omega)]
    · rw [List.drop_length]; simp only [cat, List.map_nil, List.flatten_nil, List.append_nil]; exact Ev.now _
  · intro i hi ih x hx
    have hp := enc_pos (rd l (i : Int))
    have hsc := h _ (rd_mem l i hi)
    obtain ⟨b, e1, e2⟩ := uencode _ hsc
    have hb : b.size = (encI (rd l (i : Int))).length := by rw [← bytesOf_length, e2]
    have := ih (x ++ encI (rd l (i : Int))) (by rw [List.length_append]; omega)
    rw [rd_drop l i hi, show cat (rd l (i : Int) :: l.drop (i + 1)) = encI (rd l (i : Int)) ++ cat (l.drop (i + 1)) from rfl, ← List.append_assoc]
    refine Ev.step (fun k => ?_) this
    simp only [utf_Text.l0, uscalar, hsc, Option.bind_some, e1, if_true]
    rw [if_pos (by omega), if_pos (by omega), if_pos (by omega), if_pos (by omega), e2, show wrap64 ((i : Int) + 1) = ((i + 1 : Nat) : Int) by unfold wrap64; omega]
theorem utext (l : List Int) (hl : l.length ≤ 2000) (h : ∀ r ∈ l, scaB r = true) : Ev (fun k => utf_Text.f k l) (strOfNums (cat l), true) := by
  have := utext_ev l hl h 0 (by omega) [] (by simp; omega)
  rwa [List.nil_append, List.drop_zero] at this
theorem utext_no_ev (l : List Int) (hl : l.length ≤ 2000) (h : ∃ r ∈ l, scaB r = false) : ∀ i, i ≤ l.length → (∃ r ∈ l.drop i, scaB r = false) → ∀ x : List Int, x.length + 4 * (l.length - i) ≤ 1000000 → Ev (fun k => utf_Text.l0 k x l (l.length : Int) (i : Int)) ((⟨#[]⟩ : ByteArray), false) := by
  apply rounds_down
  · rintro ⟨r, hr, _⟩; rw [List.drop_length] at hr; cases hr
  · intro i hi ih hex x hx
    have hp := enc_pos (rd l (i : Int))
    cases hsc : scaB (rd l (i : Int)) with
    | true =>
      obtain ⟨b, e1, e2⟩ := uencode _ hsc
      have hb : b.size = (encI (rd l (i : Int))).length := by rw [← bytesOf_length, e2]
      have hex2 : ∃ r ∈ l.drop (i + 1), scaB r = false := by
        obtain ⟨r, hr, h2⟩ := hex
        rw [rd_drop l i hi] at hr
        rcases List.mem_cons.1 hr with rfl | hr
        · rw [hsc] at h2; cases h2
        · exact ⟨r, hr, h2⟩
      have := ih hex2 (x ++ encI (rd l (i : Int))) (by rw [List.length_append]; omega)
      refine Ev.step (fun k => ?_) this
      simp only [utf_Text.l0, uscalar, hsc, Option.bind_some, e1, if_true]
      rw [if_pos (by omega), if_pos (by omega), if_pos (by omega), if_pos (by omega), e2, show wrap64 ((i : Int) + 1) = ((i + 1 : Nat) : Int) by unfold wrap64; omega]
    | false =>
      refine Ev.step (f := fun _ => some ((⟨#[]⟩ : ByteArray), false)) (fun k => ?_) (Ev.now _)
      simp only [utf_Text.l0, uscalar, hsc, Option.bind_some, Bool.false_eq_true, if_false]
      rw [if_pos (by omega), if_pos (by omega), if_pos (by omega)]
theorem utext_no (l : List Int) (hl : l.length ≤ 2000) (h : ∃ r ∈ l, scaB r = false) : Ev (fun k => utf_Text.f k l) ((⟨#[]⟩ : ByteArray), false) :=
  utext_no_ev l hl h 0 (by omega) (by rwa [List.drop_zero]) [] (by simp; omega)
theorem rtext_ev (l : List Int) (hl : l.length ≤ 2000) (h : ∀ r ∈ l, scaB r = true) : ∀ i, i ≤ l.length → ∀ x : ByteArray, x.size + 4 * (l.length - i) ≤ 1000000 → Ev (fun k => monikerref02_Text.l0 k l x (i : Int)) (strOfNums (bytesOf x ++ cat (l.drop i))) := by
  apply rounds_down
  · intro x hx
    refine Ev.step (f := fun _ => some x) (fun k => ?_) ?_
    · simp only [monikerref02_Text.l0]; rw [if_neg (by omega)]
    · rw [List.drop_length]; simp only [cat, List.map_nil, List.flatten_nil, List.append_nil, str_bytes]; exact Ev.now _
  · intro i hi ih x hx
    have hp := enc_pos (rd l (i : Int))
    have hsc := h _ (rd_mem l i hi)
    obtain ⟨b, e1, e2⟩ := refencode _ hsc
    have hb : b.size = (encI (rd l (i : Int))).length := by rw [← bytesOf_length, e2]
    have := ih (x ++ b) (by rw [ByteArray.size_append]; omega)
    rw [bytes_append, e2] at this
    rw [rd_drop l i hi, show cat (rd l (i : Int) :: l.drop (i + 1)) = encI (rd l (i : Int)) ++ cat (l.drop (i + 1)) from rfl, ← List.append_assoc]
    refine Ev.step (fun k => ?_) this
    simp only [monikerref02_Text.l0, Option.bind_some, e1]
    rw [if_pos (by omega), if_pos (by omega), if_pos (by omega), show wrap64 ((i : Int) + 1) = ((i + 1 : Nat) : Int) by unfold wrap64; omega]
theorem rtext (l : List Int) (hl : l.length ≤ 2000) (h : ∀ r ∈ l, scaB r = true) : Ev (fun k => monikerref02_Text.f k l) (strOfNums (cat l)) := by
  have := rtext_ev l hl h 0 (by omega) ⟨#[]⟩ (by show 0 + _ ≤ _; omega)
  rwa [show bytesOf ⟨#[]⟩ = [] from rfl, List.nil_append, List.drop_zero] at this
theorem ints_ev (l : List Int) (hl : l.length ≤ 2000) (h : ∀ r ∈ l, wrap64 r = r) : ∀ i, i ≤ l.length → Ev (fun k => monikerlaw02_ints.l0 k (l.take i) l (l.length : Int) (i : Int)) l := by
  apply rounds_down
  · refine Ev.step (f := fun _ => some l) (fun k => ?_) (Ev.now _)
    simp only [monikerlaw02_ints.l0]; rw [if_neg (by omega), List.take_length]
  · intro i hi ih
    refine Ev.step (fun k => ?_) ih
    simp only [monikerlaw02_ints.l0]
    rw [if_pos (by omega), if_pos (by omega), if_pos (by omega), if_pos (by rw [List.length_take]; omega), h _ (rd_mem l i hi), show wrap64 ((i : Int) + 1) = ((i + 1 : Nat) : Int) by unfold wrap64; omega]
    congr 1
    rw [List.take_succ_eq_append_getElem hi]
    congr 2
    simp [rd, List.getD_eq_getElem?_getD, hi]
theorem ints (l : List Int) (hl : l.length ≤ 2000) (h : ∀ r ∈ l, wrap64 r = r) : Ev (fun k => monikerlaw02_ints.f k l) l := ints_ev l hl h 0 (by omega)
theorem same_ev (l : List Int) (hl : l.length ≤ 2000) : ∀ i, i ≤ l.length → Ev (fun k => monikerref02_Same.l0 k l l (i : Int)) true := by
  apply rounds_down
  · refine Ev.step (f := fun _ => some true) (fun k => ?_) (Ev.now _)
    simp only [monikerref02_Same.l0]; rw [if_neg (by omega)]
  · intro i hi ih
    refine Ev.step (fun k => ?_) ih
    simp only [monikerref02_Same.l0, if_true]
    rw [if_pos (by omega), if_pos (by omega), if_pos (by omega), show wrap64 ((i : Int) + 1) = ((i + 1 : Nat) : Int) by unfold wrap64; omega]
theorem same (l : List Int) (hl : l.length ≤ 2000) : Ev (fun k => monikerref02_Same.f k l l) true := by
  unfold monikerref02_Same.f
  simp only [if_true]
  exact same_ev l hl 0 (by omega)
theorem rruns_ev : ∀ (l : List Int), Byt l → ∀ (s : ByteArray) (x : List Int) (i : Nat), (bytesOf s).drop i = l → i ≤ s.size → s.size ≤ 2000 → x.length + (s.size - i) ≤ 1000000 → Ev (fun k => monikerref02_Runes.l0 k s x (i : Int)) (x ++ vals (pc l)) := by
  apply pc_ind
  · intro s x i hs h1 h2 h3
    have h0 : s.size - i = 0 := by have := congrArg List.length hs; rw [List.length_drop, bytesOf_length] at this; exact this
    refine Ev.step (f := fun _ => some x) (fun k => ?_) ?_
    · simp only [monikerref02_Runes.l0]; rw [if_neg (by omega)]
    · simp only [vals, pc_nil, List.map_nil, List.append_nil]; exact Ev.now _
  · intro l hl hne ih s x i hs h1 h2 h3
    subst hs
    have hd := dec_len _ hl hne
    rw [List.length_drop, bytesOf_length] at hd
    have hi : i < s.size := by omega
    obtain ⟨N, hN⟩ : ∃ N : Nat, (dec ((bytesOf s).drop i)).2.1 = (N : Int) := ⟨(dec ((bytesOf s).drop i)).2.1.toNat, by omega⟩
    have hdec : monikerref02_Decode.f (s.extract i s.size) = some (dec ((bytesOf s).drop i)) := by
      rw [rdec _ (by rw [ByteArray.size_extract]; omega), bytes_drop]
    rw [pc_cons _ hl hne]
    rw [hN] at hd ih ⊢
    rw [Int.toNat_natCast, List.drop_drop] at ih ⊢
    have hmx : mx (N : Int) 1 = (N : Int) := by unfold mx; split <;> omega
    have hw : wrap64 ((i : Int) + (N : Int)) = ((i + N : Nat) : Int) := by unfold wrap64; omega
    have := ih s (x ++ [(dec ((bytesOf s).drop i)).1]) (i + N) rfl (by omega) h2 (by rw [List.length_append, List.length_singleton]; omega)
    rw [List.append_assoc] at this
    simp only [vals, List.map_cons] at this ⊢
    refine Ev.step (fun k => ?_) this
    simp only [monikerref02_Runes.l0, hdec, Option.bind_some, hN, hw, hmx, Int.toNat_natCast]
    rw [if_pos (by omega), if_pos (by omega), if_pos (by omega), if_pos (by omega)]
theorem rruns (s : ByteArray) (h : s.size ≤ 2000) : Ev (fun k => monikerref02_Runes.f k s) (vals (pc (bytesOf s))) := by
  have := rruns_ev _ (byt_of s) s [] 0 rfl (by omega) h (by simp; omega)
  exact this
end Go.Proofs.Ytedaalklakokkaa.P02
