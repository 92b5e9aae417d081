/- The printed functions of chapter 02 on a text's pieces. No condition but those that each names. -/
import Derived.Test.YtedaalklakokkaaP02b
import Derived.Test.YtedaalklakokkaaPAllx3
import Derived.Test.YtedaalklakokkaaPAllx4
namespace Go.Proofs.Ytedaalklakokkaa.P02
open Go.RowKit Go.Proofs.Ytedaalklakokkaa.PAll Go.Proofs.Ytedaalklakokkaa.By Go.Proofs.YtedaalklakokkaaW.PrintWords Go.Proofs.YtedaalklakokkaaW.PrintLast
set_option linter.unusedVariables false

theorem bytes_drop (s : ByteArray) (i : Nat) : bytesOf (s.extract i s.size) = (bytesOf s).drop i := by
  rw [bytes_extract, List.take_of_length_le (by rw [List.length_drop, bytesOf_length]; omega)]
theorem udec (s : ByteArray) (h : s.size ≤ 2000) : utf_Decode.f s = some (dec (bytesOf s)) := by
  unfold utf_Decode.f; rw [if_pos (by omega)]
theorem rdec (s : ByteArray) (h : s.size ≤ 2000) : monikerref02_Decode.f s = some (dec (bytesOf s)) := by
  unfold monikerref02_Decode.f; rw [if_pos (by omega)]
theorem ufault (s : ByteArray) (h : s.size ≤ 2000) : utf_Fault.f s = some (flt (bytesOf s)) := by
  unfold utf_Fault.f; rw [if_pos (by omega), ← bytesOf_length, faultF_flt _ (byt_of s)]
theorem uvalid (s : ByteArray) (h : s.size ≤ 2000) : utf_Valid.f s = some (decide (flt (bytesOf s) < 0)) := by
  unfold utf_Valid.f; rw [ufault s h]; rfl
theorem uencode (r : Int) (h : scaB r = true) : ∃ b, utf_Encode.f r = some b ∧ bytesOf b = encI r := by
  refine ⟨_, rfl, ?_⟩
  rw [if_pos h]
  rw [sca_iff] at h
  unfold Utf8.encode encI
  have hv : Utf8.valid r = true := by unfold Utf8.valid; simp; omega
  rw [hv]
  simp only [if_true]
  obtain ⟨n, rfl⟩ : ∃ n : Nat, r = (n : Int) := ⟨r.toNat, by omega⟩
  rw [Int.toNat_natCast]
  have b8 : ∀ x : Nat, x < 256 → (UInt8.ofNat x).toNat = x := fun x hx => by rw [UInt8.toNat_ofNat']; exact Nat.mod_eq_of_lt hx
  by_cases c1 : n < 128
  · rw [if_pos c1, if_pos (show (n : Int) < 128 by omega)]
    simp [bytesOf, b8 n (by omega)]
  by_cases c2 : n < 2048
  · rw [if_neg c1, if_pos c2, if_neg (show ¬ (n : Int) < 128 by omega), if_pos (show (n : Int) < 2048 by omega)]
    simp [bytesOf]
    omega
  by_cases c3 : n < 65536
  · rw [if_neg c1, if_neg c2, if_pos c3, if_neg (show ¬ (n : Int) < 128 by omega), if_neg (show ¬ (n : Int) < 2048 by omega), if_pos (show (n : Int) < 65536 by omega)]
    simp [bytesOf]
    omega
  · rw [if_neg c1, if_neg c2, if_neg c3, if_neg (show ¬ (n : Int) < 128 by omega), if_neg (show ¬ (n : Int) < 2048 by omega), if_neg (show ¬ (n : Int) < 65536 by omega)]
    simp [bytesOf]
    omega
theorem count_ev : ∀ (l : List Int), Byt l → ∀ (s : ByteArray) (x : Int), bytesOf s = l → s.size ≤ 2000 → 0 ≤ x → x + s.size ≤ 1000000 → Ev (fun k => utf_Count.l0 k s x) (x + (pc l).length) := by
  apply pc_ind
  · intro s x hs _ _ _
    have h0 : s.size = 0 := bytes_empty.1 hs
    refine Ev.step (f := fun _ => some x) (fun k => ?_) ?_
    · simp only [utf_Count.l0]; rw [if_neg (by omega)]
    · simpa [pc_nil] using Ev.now x
  · intro l hl hne ih s x hs h1 h2 h3
    subst hs
    have hd := dec_len _ hl hne
    rw [bytesOf_length] at hd
    have h0 : s.size ≠ 0 := fun h => hne (bytes_empty.2 h)
    refine Ev.step (f := fun k => utf_Count.l0 k (s.extract (dec (bytesOf s)).2.1.toNat s.size) (x + 1)) (fun k => ?_) ?_
    · simp only [utf_Count.l0]
      rw [if_pos (by omega), udec s h1]
      simp only [Option.bind_some]
      rw [if_pos (by omega), if_pos (by omega), w64 (by omega) (by omega)]
    · have := ih (s.extract (dec (bytesOf s)).2.1.toNat s.size) (x + 1) (bytes_drop s _) (by rw [ByteArray.size_extract]; omega) (by omega) (by rw [ByteArray.size_extract]; omega)
      rw [pc_cons _ hl hne]
      simp only [List.length_cons]
      rwa [show x + (((pc ((bytesOf s).drop (dec (bytesOf s)).2.1.toNat)).length + 1 : Nat) : Int) = x + 1 + ((pc ((bytesOf s).drop (dec (bytesOf s)).2.1.toNat)).length : Int) by omega]
theorem ucount (s : ByteArray) (h : s.size ≤ 2000) : Ev (fun k => utf_Count.f k s) ((pc (bytesOf s)).length : Int) := by
  have := count_ev _ (byt_of s) s 0 rfl h (by omega) (by omega)
  rwa [Int.zero_add] at this
theorem reffault_ev (s : ByteArray) (h : s.size ≤ 2000) : ∀ (f i : Nat), s.size < f + i → i ≤ s.size → Ev (fun k => monikerref02_Fault.l0 k s (i : Int)) (faultF (bytesOf s) f i)
  | 0, i, h1, h2 => by omega
  | f + 1, i, h1, h2 => by
    unfold faultF
    by_cases hi : i < s.size
    · have hd := dec_len ((bytesOf s).drop i) (byt_drop (byt_of s) i) (by intro e; have := congrArg List.length e; rw [List.length_drop, bytesOf_length] at this; simp at this; omega)
      rw [List.length_drop, bytesOf_length] at hd
      rw [if_pos (by rw [bytesOf_length]; exact hi)]
      have hdec : monikerref02_Decode.f (s.extract i s.size) = some (dec ((bytesOf s).drop i)) := by
        rw [rdec _ (by rw [ByteArray.size_extract]; omega), bytes_drop]
      by_cases ho : (dec ((bytesOf s).drop i)).2.2 = true
      · rw [if_pos ho]
        refine Ev.step (f := fun k => monikerref02_Fault.l0 k s ((i + (dec ((bytesOf s).drop i)).2.1.toNat : Nat) : Int)) (fun k => ?_) (reffault_ev s h f _ (by omega) (by omega))
        simp only [monikerref02_Fault.l0, Int.toNat_natCast, hdec, Option.bind_some]
        rw [if_pos (by omega), if_pos (by omega), if_pos (by omega), if_pos ho, show wrap64 ((i : Int) + (dec ((bytesOf s).drop i)).2.1) = ((i + (dec ((bytesOf s).drop i)).2.1.toNat : Nat) : Int) by unfold wrap64; omega]
      · rw [if_neg ho]
        refine Ev.step (f := fun k => some (i : Int)) (fun k => ?_) (Ev.now _)
        simp only [monikerref02_Fault.l0, Int.toNat_natCast, hdec, Option.bind_some]
        rw [if_pos (by omega), if_pos (by omega), if_pos (by omega), if_neg ho]
    · rw [if_neg (by rw [bytesOf_length]; exact hi)]
      refine Ev.step (f := fun k => some (-1)) (fun k => ?_) (Ev.now _)
      simp only [monikerref02_Fault.l0]
      rw [if_neg (by omega)]
theorem rfault (s : ByteArray) (h : s.size ≤ 2000) : Ev (fun k => monikerref02_Fault.f k s) (flt (bytesOf s)) := by
  have := reffault_ev s h (s.size + 1) 0 (by omega) (by omega)
  rw [← bytesOf_length, faultF_flt _ (byt_of s)] at this
  exact this
theorem dec_val (l : List Int) (hl : Byt l) : 0 ≤ (dec l).1 ∧ (dec l).1 ≤ 1114111 := by
  cases h : (dec l).2.2 with
  | true => have := (dec_good l hl h).1; rw [sca_iff] at this; omega
  | false =>
    unfold dec at h ⊢
    split at h
    · rename_i c; rw [if_pos c]; simp
    · cases h
theorem awake_ev : Ev (fun k => monikerlaw02_awake.f k) true := by
  refine Ev.of (fun k => monikerlaw02_awake.mono k) (k := 8) ?_
  decide +kernel
end Go.Proofs.Ytedaalklakokkaa.P02
