/- Repair in chapter 02. No condition but those that each names. -/
import Derived.Test.YtedaalklakokkaaP02d
import Derived.Test.YtedaalklakokkaaPAllx6
namespace Go.Proofs.Ytedaalklakokkaa.P02
open Go.RowKit Go.Proofs.Ytedaalklakokkaa.PAll Go.Proofs.Ytedaalklakokkaa.By Go.Proofs.YtedaalklakokkaaW.PrintWords Go.Proofs.YtedaalklakokkaaW.PrintLast
set_option linter.unusedVariables false

def sign : List Int := [239, 191, 189]
theorem enc_sign : encI 65533 = sign := by decide
/-- What stands for a piece. -/
def fix (p : Pc) : Int := if p.2.2 = true then p.1 else 65533
def repL (l : List Int) : List Int := ((pc l).map (fun p => encI (fix p))).flatten
theorem fix_sca (l : List Int) (hl : Byt l) : ∀ r ∈ (pc l).map fix, scaB r = true := by
  intro r hr
  obtain ⟨p, hp, rfl⟩ := List.mem_map.1 hr
  unfold fix
  split
  · rename_i h; exact (pc_good l hl p hp h).1
  · rfl
theorem rep_eq (l : List Int) : repL l = (((pc l).map fix).map encI).flatten := by
  unfold repL; rw [List.map_map]; rfl
theorem rep_byt (l : List Int) (hl : Byt l) : Byt (repL l) := by
  rw [rep_eq]
  intro x hx
  obtain ⟨q, hq, hx⟩ := List.mem_flatten.1 hx
  obtain ⟨r, hr, rfl⟩ := List.mem_map.1 hq
  exact enc_byt r (fix_sca l hl r hr) x hx
theorem rep_pc (l : List Int) (hl : Byt l) : pc (repL l) = (pc l).map (fun p => (fix p, encI (fix p), true)) := by
  have := pc_many ((pc l).map fix) [] (fix_sca l hl) (by intro x hx; cases hx)
  rw [← rep_eq, List.append_nil, pc_nil, List.append_nil, List.map_map] at this
  exact this
theorem rep_ok (l : List Int) (hl : Byt l) : allOk (pc (repL l)) = true := by
  rw [rep_pc l hl]
  simp [allOk]
theorem rep_rep (l : List Int) (hl : Byt l) : repL (repL l) = repL l := by
  have e : repL (repL l) = ((pc (repL l)).map (fun p => encI (fix p))).flatten := rfl
  rw [e, rep_pc l hl, List.map_map]
  rfl
theorem rep_len (l : List Int) (hl : Byt l) : (repL l).length ≤ 4 * l.length := by
  have h1 : ∀ ps : List Pc, ((ps.map (fun p => encI (fix p))).flatten).length ≤ 4 * ps.length := by
    intro ps
    induction ps with
    | nil => simp
    | cons p ps ih =>
      have := enc_pos (fix p)
      simp only [List.map_cons, List.flatten_cons, List.length_append, List.length_cons]
      omega
  have h2 : (pc l).length ≤ l.length := by
    revert l
    intro l hl
    revert hl
    revert l
    apply pc_ind
    · simp [pc_nil]
    · intro l hl hn ih
      have := dec_len l hl hn
      rw [pc_cons l hl hn, List.length_cons]
      rw [List.length_drop] at ih
      omega
  have := h1 (pc l)
  unfold repL; omega
theorem rep_same (l : List Int) (hl : Byt l) : repL l = l ↔ flt l < 0 := by
  rw [flt_ok]
  constructor
  · intro h; have := rep_ok l hl; rwa [h] at this
  · intro h
    conv => rhs; rw [← txt_pc l hl]
    unfold repL txt
    congr 1
    refine List.map_congr_left fun p hp => ?_
    have ho : p.2.2 = true := by unfold allOk at h; exact List.all_eq_true.1 h p hp
    have hg := pc_good l hl p hp ho
    unfold fix
    rw [if_pos ho, hg.2]
theorem rep_cons (l : List Int) (hl : Byt l) (h : l ≠ []) : repL l = (if (dec l).2.2 = true then l.take (dec l).2.1.toNat else sign) ++ repL (l.drop (dec l).2.1.toNat) := by
  unfold repL
  rw [pc_cons l hl h, List.map_cons, List.flatten_cons]
  congr 1
  by_cases ho : (dec l).2.2 = true
  · simp only [fix, ho, if_true]
    exact ((dec_good l hl ho).2.1).symm
  · simp only [fix, ho]
    exact enc_sign
theorem bytes_take (s : ByteArray) (a b : Nat) : bytesOf (s.extract a (a + b)) = ((bytesOf s).drop a).take b := by
  rw [bytes_extract, Nat.add_sub_cancel_left]
theorem urep_ev : ∀ (l : List Int), Byt l → ∀ (s : ByteArray) (x : List Int), bytesOf s = l → s.size ≤ 2000 → x.length + 4 * s.size ≤ 1000000 → Ev (fun k => utf_Repair.l0 k s x) (strOfNums (x ++ repL l)) := by
  apply pc_ind
  · intro s x hs _ _
    have h0 : s.size = 0 := bytes_empty.1 hs
    refine Ev.step (f := fun _ => some (strOfNums x)) (fun k => ?_) ?_
    · simp only [utf_Repair.l0]; rw [if_neg (by omega)]
    · rw [show repL [] = [] from rfl, List.append_nil]; exact Ev.now _
  · intro l hl hne ih s x hs h1 h2
    subst hs
    have hd := dec_len _ hl hne
    rw [bytesOf_length] at hd
    have h0 : s.size ≠ 0 := fun h => hne (bytes_empty.2 h)
    obtain ⟨N, hN⟩ : ∃ N : Nat, (dec (bytesOf s)).2.1 = (N : Int) := ⟨(dec (bytesOf s)).2.1.toNat, by omega⟩
    rw [rep_cons _ hl hne]
    rw [hN] at hd ih ⊢
    rw [Int.toNat_natCast] at ih ⊢
    have hex : (s.extract 0 N).size = N := by rw [ByteArray.size_extract]; omega
    have hey : (s.extract N s.size).size = s.size - N := by rw [ByteArray.size_extract]; omega
    by_cases ho : (dec (bytesOf s)).2.2 = true
    · have e := bytes_take s 0 N
      rw [Nat.zero_add, List.drop_zero] at e
      have := ih (s.extract N s.size) (x ++ (bytesOf s).take N) (bytes_drop s N) (by omega) (by rw [List.length_append, List.length_take, bytesOf_length]; omega)
      rw [if_pos ho, ← List.append_assoc]
      refine Ev.step (fun k => ?_) this
      simp only [utf_Repair.l0, udec s h1, Option.bind_some, ho, hN, Int.toNat_natCast, if_true]
      rw [if_pos (by omega), if_pos (by omega), if_pos (by omega), if_pos (by omega), e]
    · obtain ⟨b, e1, e2⟩ := uencode 65533 (by rfl)
      rw [enc_sign] at e2
      have hb : b.size = 3 := by rw [← bytesOf_length, e2]; rfl
      have := ih (s.extract N s.size) (x ++ sign) (bytes_drop s N) (by omega) (by rw [List.length_append]; simp only [sign, List.length_cons, List.length_nil]; omega)
      rw [if_neg ho, ← List.append_assoc]
      refine Ev.step (fun k => ?_) this
      simp only [utf_Repair.l0, udec s h1, Option.bind_some, ho, hN, Int.toNat_natCast, Bool.false_eq_true, if_false, e1]
      rw [if_pos (by omega), if_pos (by omega), if_pos (by omega), if_pos (by omega), e2]
theorem urep (s : ByteArray) (h : s.size ≤ 2000) : Ev (fun k => utf_Repair.f k s) (strOfNums (repL (bytesOf s))) :=
  urep_ev _ (byt_of s) s [] rfl h (by simp; omega)
theorem rrep_ev : ∀ (l : List Int), Byt l → ∀ (s x : ByteArray) (i : Nat) (n : Int), (bytesOf s).drop i = l → i ≤ s.size → s.size ≤ 2000 → x.size + 4 * (s.size - i) ≤ 1000000 → 0 ≤ n → n + (s.size - i : Nat) ≤ 1000000 → Ev (fun k => monikerref02_Repair.l0 k s x (i : Int) n) (strOfNums (bytesOf x ++ repL l), n + (pc l).length) := by
  apply pc_ind
  · intro s x i n hs h1 h2 h3 h4 h5
    have h0 : s.size - i = 0 := by have := congrArg List.length hs; rw [List.length_drop, bytesOf_length] at this; exact this
    refine Ev.step (f := fun _ => some (x, n)) (fun k => ?_) ?_
    · simp only [monikerref02_Repair.l0]; rw [if_neg (by omega)]
    · rw [show repL [] = [] from rfl, List.append_nil, str_bytes, pc_nil, List.length_nil, show n + ((0 : Nat) : Int) = n by omega]; exact Ev.now _
  · intro l hl hne ih s x i n hs h1 h2 h3 h4 h5
    subst hs
    have hd := dec_len _ hl hne
    rw [List.length_drop, bytesOf_length] at hd
    have hi : i < s.size := by omega
    obtain ⟨N, hN⟩ : ∃ N : Nat, (dec ((bytesOf s).drop i)).2.1 = (N : Int) := ⟨(dec ((bytesOf s).drop i)).2.1.toNat, by omega⟩
    have hdec : monikerref02_Decode.f (s.extract i s.size) = some (dec ((bytesOf s).drop i)) := by
      rw [rdec _ (by rw [ByteArray.size_extract]; omega), bytes_drop]
    rw [rep_cons _ hl hne, pc_cons _ hl hne]
    rw [hN] at hd ih ⊢
    rw [Int.toNat_natCast, List.drop_drop] at ih ⊢
    have hmx : mx (N : Int) 1 = (N : Int) := by unfold mx; split <;> omega
    have hw : wrap64 ((i : Int) + (N : Int)) = ((i + N : Nat) : Int) := by unfold wrap64; omega
    have hw2 : wrap64 (n + 1) = n + 1 := w64 (by omega) (by omega)
    rw [List.length_cons, show n + (((pc ((bytesOf s).drop (i + N))).length + 1 : Nat) : Int) = n + 1 + ((pc ((bytesOf s).drop (i + N))).length : Int) by omega]
    by_cases ho : (dec ((bytesOf s).drop i)).2.2 = true
    · have e := bytes_take s i N
      have hex : (s.extract i (i + N)).size = N := by rw [ByteArray.size_extract]; omega
      have := ih s (x ++ s.extract i (i + N)) (i + N) (n + 1) rfl (by omega) h2 (by rw [ByteArray.size_append]; omega) (by omega) (by omega)
      rw [bytes_append, e] at this
      rw [if_pos ho, ← List.append_assoc]
      refine Ev.step (fun k => ?_) this
      simp only [monikerref02_Repair.l0, hdec, Option.bind_some, ho, hN, hw, hw2, hmx, Int.toNat_natCast, if_true]
      rw [if_pos (by omega), if_pos (by omega), if_pos (by omega), if_pos (by omega), if_pos (by omega), if_pos (by omega)]
    · have := ih s (x ++ ⟨#[239, 191, 189]⟩) (i + N) (n + 1) rfl (by omega) h2 (by rw [ByteArray.size_append]; show x.size + 3 + _ ≤ _; omega) (by omega) (by omega)
      rw [bytes_append, show bytesOf ⟨#[239, 191, 189]⟩ = sign by decide] at this
      rw [if_neg ho, ← List.append_assoc]
      refine Ev.step (fun k => ?_) this
      simp only [monikerref02_Repair.l0, hdec, Option.bind_some, ho, hN, hw, hw2, hmx, Int.toNat_natCast, Bool.false_eq_true, if_false]
      rw [if_pos (by omega), if_pos (by omega), if_pos (by omega), if_pos (by omega)]
theorem rrep (s : ByteArray) (h : s.size ≤ 2000) : Ev (fun k => monikerref02_Repair.f k s) (strOfNums (repL (bytesOf s)), ((pc (bytesOf s)).length : Int)) := by
  have := rrep_ev _ (byt_of s) s ⟨#[]⟩ 0 0 rfl (by omega) h (by show 0 + _ ≤ _; omega) (by omega) (by omega)
  rw [show bytesOf ⟨#[]⟩ = [] from rfl, List.nil_append, Int.zero_add] at this
  exact this
end Go.Proofs.Ytedaalklakokkaa.P02
