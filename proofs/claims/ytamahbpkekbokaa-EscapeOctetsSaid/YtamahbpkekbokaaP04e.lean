/- The equations of the laws. -/
import Derived.Test.YtamahbpkekbokaaP04
namespace Go.Proofs.Ytamahbpkekbokaa.P04
open Go.RowKit Go.Proofs.Ytamahbpkekbokaa.PAll Go.Proofs.Ytamahbpkekbokaa.By Go.Proofs.YtamahbpkekbokaaW.PrintWords Go.Proofs.YtamahbpkekbokaaW.PrintLast
set_option linter.unusedVariables false
theorem awake_ev : Ev (fun k => monikerlaw04_awake.f k) true := Ev.of (fun k => monikerlaw04_awake.mono k) (k := 60) (by decide +kernel)
theorem some_ref (s : ByteArray) (c : Int) : repl s oneS (fun b => isB b c) = strOfNums (sub (refG c false false) (bytesOf s)) := by
  rw [repl_eq]
  congr 1
  refine sub_alike (fun b h0 h1 e => ?_) _ _ (Nat.le_refl _)
  show (if isB b c = true then bytesOf (oneS b) else e) = _
  rw [oneS_bytes h0 h1]
  rfl
theorem dec_ref (s : ByteArray) : repl s oneS (fun _ => true) = strOfNums (sub (refG 0 true false) (bytesOf s)) := by
  rw [repl_eq]
  congr 1
  refine sub_alike (fun b h0 h1 e => ?_) _ _ (Nat.le_refl _)
  show (if true = true then bytesOf (oneS b) else e) = _
  rw [oneS_bytes h0 h1]
  rfl
theorem is0_all : ∀ n : Nat, n < 256 → isB (n : Int) 0 = false := by decide +kernel
theorem is0 {b : Int} (h0 : 0 ≤ b) (h1 : b ≤ 255) : isB b 0 = false := by
  have := is0_all b.toNat (by omega)
  rwa [Int.toNat_of_nonneg h0] at this
theorem up_list (s : ByteArray) : repl s ofS (fun _ => true) = strOfNums (up (bytesOf s)) := by
  rw [repl_eq]
  congr 1
  refine sub_alike (fun b h0 h1 e => ?_) _ _ (Nat.le_refl _)
  show (if true = true then bytesOf (ofS b) else e) = _
  rw [ofS_bytes h0 h1]
  rfl
theorem up_ref (s : ByteArray) : repl s ofS (fun _ => true) = strOfNums (sub (refG 0 false true) (bytesOf s)) := by
  rw [up_list]
  congr 1
  refine sub_alike (fun b h0 h1 e => ?_) _ _ (Nat.le_refl _)
  show ofL b = refG 0 false true b e
  unfold refG
  rw [is0 h0 h1]
  rfl
theorem up_range (s : ByteArray) : ∀ x ∈ up (bytesOf s), 0 ≤ x ∧ x ≤ 255 := sub_range (fun b h0 h1 e _ => ofL_range h0 h1) _ _ (Nat.le_refl _) (bytes_range s)
theorem up_twice (s : ByteArray) : repl (repl s ofS (fun _ => true)) ofS (fun _ => true) = repl s ofS (fun _ => true) := by
  rw [up_list (repl s ofS (fun _ => true)), up_list s, bytes_str _ (up_range s), up_up _ _ (Nat.le_refl _)]
theorem enc_range (c : Int) : ∀ l : List Int, (∀ x ∈ l, (0 : Int) ≤ x ∧ x ≤ 255) → ∀ x ∈ enc c l, 0 ≤ x ∧ x ≤ 255
  | [], _ => fun x hx => by cases hx
  | b :: r, h => by
    intro x hx
    have hb := h b (List.mem_cons_self ..)
    unfold enc at hx
    rcases List.mem_append.1 hx with hx | hx
    · split at hx
      · rw [List.mem_singleton] at hx; rw [hx]; exact hb
      · exact ofL_range hb.1 hb.2 x hx
    · exact enc_range c r (fun y hy => h y (List.mem_cons_of_mem _ hy)) x hx
theorem enc_size (c : Int) : ∀ l : List Int, (enc c l).length ≤ 3 * l.length
  | [] => Nat.le_refl _
  | b :: r => by
    have := enc_size c r
    unfold enc
    rw [List.length_append, List.length_cons]
    split
    · simp only [List.length_singleton]; omega
    · simp only [ofL, List.length_cons, List.length_nil]; omega
theorem enc_right (s : ByteArray) (c : Int) : rightB (strOfNums (enc c (bytesOf s))) = true := by
  rw [right_eq, bytes_str _ (enc_range c _ (bytes_range s))]
  exact (enc_back c _ (bytes_range s)).2
theorem enc_dec (s : ByteArray) (c : Int) : repl (strOfNums (enc c (bytesOf s))) oneS (fun _ => true) = s := by
  rw [dec_ref, bytes_str _ (enc_range c _ (bytes_range s))]
  have e : sub (refG 0 true false) (enc c (bytesOf s)) = sub (fun b _ => [b]) (enc c (bytesOf s)) := sub_alike (fun b _ _ e => rfl) _ _ (Nat.le_refl _)
  rw [e, (enc_back c _ (bytes_range s)).1, str_bytes]
theorem bytes_empty_list : (⟨#[]⟩ : ByteArray).toList = ([] : List UInt8) := by rw [Lib.toList_data]
end Go.Proofs.Ytamahbpkekbokaa.P04
