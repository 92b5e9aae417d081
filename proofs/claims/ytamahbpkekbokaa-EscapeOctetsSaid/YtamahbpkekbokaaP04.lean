/- What the escapes of a text are, as lists; no program in sight. -/
import Derived.Test.YtamahbpkekbokaaPAllx7
import Derived.Test.YtamahbpkekbokaaBy
namespace Go.Proofs.Ytamahbpkekbokaa.P04
open Go.RowKit Go.Proofs.Ytamahbpkekbokaa.PAll Go.Proofs.Ytamahbpkekbokaa.By Go.Proofs.YtamahbpkekbokaaW.PrintWords Go.Proofs.YtamahbpkekbokaaW.PrintLast
set_option linter.unusedVariables false
/-- The octet at the head of a text, if an escape begins it. -/
def hd3 : List Int → Option Int
  | c :: x :: y :: _ => if c = 37 then (match hexV x, hexV y with
    | some a, some b => some (16 * a + b)
    | _, _ => none) else none
  | _ => none
theorem hd3_cons (c x y : Int) (t : List Int) : hd3 (c :: x :: y :: t) = if c = 37 then (match hexV x, hexV y with
    | some a, some b => some (16 * a + b)
    | _, _ => none) else none := rfl
/-- A text with its escapes written anew. -/
def subF (g : Int → List Int → List Int) : Nat → List Int → List Int
  | 0, _ => []
  | _ + 1, [] => []
  | f + 1, c :: r => match hd3 (c :: r) with
    | some b => g b ((c :: r).take 3) ++ subF g f (r.drop 2)
    | none => c :: subF g f r
theorem subF_fuel (g : Int → List Int → List Int) : ∀ (f h : Nat) (l : List Int), l.length < f → l.length < h → subF g f l = subF g h l
  | 0, _, l, hf, _ => absurd hf (Nat.not_lt_zero _)
  | _, 0, l, _, hh => absurd hh (Nat.not_lt_zero _)
  | f + 1, h + 1, [], _, _ => rfl
  | f + 1, h + 1, c :: r, hf, hh => by
    simp only [List.length_cons] at hf hh
    simp only [subF]
    cases hd3 (c :: r) with
    | none => simp only; rw [subF_fuel g f h r (by omega) (by omega)]
    | some b => simp only; rw [subF_fuel g f h (r.drop 2) (by rw [List.length_drop]; omega) (by rw [List.length_drop]; omega)]
def sub (g : Int → List Int → List Int) (l : List Int) : List Int := subF g (l.length + 1) l
theorem sub_nil (g : Int → List Int → List Int) : sub g [] = [] := rfl
theorem sub_some (g : Int → List Int → List Int) {c : Int} {r : List Int} {b : Int} (h : hd3 (c :: r) = some b) : sub g (c :: r) = g b ((c :: r).take 3) ++ sub g (r.drop 2) := by
  show subF g ((r.length + 1) + 1) (c :: r) = _
  simp only [subF, h]
  rw [subF_fuel g (r.length + 1) ((r.drop 2).length + 1) (r.drop 2) (by rw [List.length_drop]; omega) (by omega)]
  rfl
theorem sub_none (g : Int → List Int → List Int) {c : Int} {r : List Int} (h : hd3 (c :: r) = none) : sub g (c :: r) = c :: sub g r := by
  show subF g ((r.length + 1) + 1) (c :: r) = _
  simp only [subF, h]
  rfl
/-- Does each percent sign begin an escape? -/
def rtF : Nat → List Int → Bool
  | 0, _ => true
  | _ + 1, [] => true
  | f + 1, c :: r => match hd3 (c :: r) with
    | some _ => rtF f (r.drop 2)
    | none => decide (c ≠ 37) && rtF f r
theorem rtF_fuel : ∀ (f h : Nat) (l : List Int), l.length < f → l.length < h → rtF f l = rtF h l
  | 0, _, l, hf, _ => absurd hf (Nat.not_lt_zero _)
  | _, 0, l, _, hh => absurd hh (Nat.not_lt_zero _)
  | f + 1, h + 1, [], _, _ => rfl
  | f + 1, h + 1, c :: r, hf, hh => by
    simp only [List.length_cons] at hf hh
    simp only [rtF]
    cases hd3 (c :: r) with
    | none => simp only; rw [rtF_fuel f h r (by omega) (by omega)]
    | some b => simp only; rw [rtF_fuel f h (r.drop 2) (by rw [List.length_drop]; omega) (by rw [List.length_drop]; omega)]
def rt (l : List Int) : Bool := rtF (l.length + 1) l
theorem rt_nil : rt [] = true := rfl
theorem rt_some {c : Int} {r : List Int} {b : Int} (h : hd3 (c :: r) = some b) : rt (c :: r) = rt (r.drop 2) := by
  show rtF ((r.length + 1) + 1) (c :: r) = _
  simp only [rtF, h]
  rw [rtF_fuel (r.length + 1) ((r.drop 2).length + 1) (r.drop 2) (by rw [List.length_drop]; omega) (by omega)]
  rfl
theorem rt_none {c : Int} {r : List Int} (h : hd3 (c :: r) = none) : rt (c :: r) = (decide (c ≠ 37) && rt r) := by
  show rtF ((r.length + 1) + 1) (c :: r) = _
  simp only [rtF, h]
  rfl
theorem drop_bt (s : ByteArray) (i : Nat) (h : i < s.size) : (bytesOf s).drop i = bt s (i : Int) :: (bytesOf s).drop (i + 1) := by
  rw [bt_getD]
  have hl : i < (bytesOf s).length := by rw [bytesOf_length]; exact h
  rw [List.drop_eq_getElem_cons hl, List.getD_eq_getElem?_getD, List.getElem?_eq_getElem hl]
  rfl
theorem drop_all (s : ByteArray) (i : Nat) (h : s.size ≤ i) : (bytesOf s).drop i = [] := List.drop_eq_nil_of_le (by rw [bytesOf_length]; exact h)
theorem atV_hd3 (s : ByteArray) (i : Nat) : atV s i = hd3 ((bytesOf s).drop i) := by
  unfold atV
  by_cases h3 : i + 3 ≤ s.size
  · rw [drop_bt s i (by omega), drop_bt s (i + 1) (by omega), drop_bt s (i + 1 + 1) (by omega), hd3_cons]
    by_cases h37 : bt s (i : Int) = 37
    · rw [if_pos ⟨h3, h37⟩, if_pos h37]; rfl
    · rw [if_neg (fun h => h37 h.2), if_neg h37]
  · rw [if_neg (fun h => h3 h.1)]
    by_cases h0 : i < s.size
    · rw [drop_bt s i h0]
      by_cases h1 : i + 1 < s.size
      · rw [drop_bt s (i + 1) h1, drop_all s (i + 1 + 1) (by omega)]; rfl
      · rw [drop_all s (i + 1) (by omega)]; rfl
    · rw [drop_all s i (by omega)]; rfl
theorem drop_drop2 (s : ByteArray) (i : Nat) : ((bytesOf s).drop (i + 1)).drop 2 = (bytesOf s).drop (i + 3) := by rw [List.drop_drop]
theorem seg (L : List Int) (a i j : Nat) (h1 : a ≤ i) (h2 : i ≤ j) : (L.drop a).take (j - a) = (L.drop a).take (i - a) ++ (L.drop i).take (j - i) := by
  have e : j - a = (i - a) + (j - i) := by omega
  rw [e, List.take_add, List.drop_drop, show a + (i - a) = i by omega]
/-! ### replace -/
theorem repl_from (s : ByteArray) (T : Int → ByteArray) (K : Int → Bool) : ∀ (n i a : Nat) (o : List Int), s.size - i = n → i ≤ s.size → a ≤ i →
    ((esc s i).foldl (rstep s T K) (o, a)).1 ++ bytesOf (s.extract ((esc s i).foldl (rstep s T K) (o, a)).2 s.size) =
      o ++ bytesOf (s.extract a i) ++ sub (fun b e => if K b = true then bytesOf (T b) else e) ((bytesOf s).drop i) := by
  intro n
  induction n using Nat.strongRecOn with
  | ind n ih =>
    intro i a o hn hi ha
    by_cases hlt : i < s.size
    · cases hat : atV s i with
      | none =>
        rw [esc_none hlt hat, ih (s.size - (i + 1)) (by omega) (i + 1) a o rfl (by omega) (by omega)]
        rw [drop_bt s i hlt, sub_none _ (by rw [← drop_bt s i hlt, ← atV_hd3]; exact hat)]
        rw [bytes_extract, bytes_extract, seg _ a i (i + 1) ha (by omega), show i + 1 - i = 1 by omega, drop_bt s i hlt]
        simp
      | some b =>
        have h3 := (atV_range hat).1
        rw [esc_some hat, List.foldl_cons]
        rw [drop_bt s i hlt, sub_some _ (by rw [← drop_bt s i hlt, ← atV_hd3]; exact hat), drop_drop2, ← drop_bt s i hlt]
        by_cases hk : K b = true
        · rw [show rstep s T K (o, a) (i, b) = (o ++ bytesOf (s.extract a i) ++ bytesOf (T b), i + 3) from if_pos hk, if_pos hk]
          rw [ih (s.size - (i + 3)) (by omega) (i + 3) (i + 3) _ rfl h3 (Nat.le_refl _)]
          rw [bytes_extract s (i + 3) (i + 3), Nat.sub_self, List.take_zero]
          simp
        · rw [show rstep s T K (o, a) (i, b) = (o, a) from if_neg hk, if_neg hk]
          rw [ih (s.size - (i + 3)) (by omega) (i + 3) a _ rfl h3 (by omega)]
          rw [bytes_extract, bytes_extract, seg _ a i (i + 3) ha (by omega), show i + 3 - i = 3 by omega]
          simp
    · rw [esc_end (by omega), drop_all s i (by omega), sub_nil]
      obtain rfl : i = s.size := by omega
      simp
theorem repl_eq (s : ByteArray) (T : Int → ByteArray) (K : Int → Bool) : repl s T K = strOfNums (sub (fun b e => if K b = true then bytesOf (T b) else e) (bytesOf s)) := by
  have h := repl_from s T K s.size 0 0 [] rfl (Nat.zero_le _) (Nat.le_refl _)
  unfold repl rst
  rw [h, bytes_extract]
  simp
theorem repl_size (s : ByteArray) (T : Int → ByteArray) (K : Int → Bool) (hT : ∀ b, (T b).size ≤ 3) : (repl s T K).size ≤ s.size := by
  obtain ⟨h1, h2⟩ := rst_at s T K hT (esc s 0) (List.prefix_refl _)
  have := atE_le s
  unfold repl
  rw [str_size, List.length_append, bytesOf_length, ByteArray.size_extract]
  omega
/-! ### Right -/
theorem noP_succ (s : ByteArray) (a i : Nat) (h : a ≤ i) : noP s a (i + 1) = (noP s a i && decide (bt s (i : Int) ≠ 37)) := by
  unfold noP
  rw [Bool.eq_iff_iff, Bool.and_eq_true, decide_eq_true_iff, decide_eq_true_iff, decide_eq_true_iff]
  constructor
  · exact fun H => ⟨fun j h1 h2 => H j (by omega) h2, H i (by omega) h⟩
  · rintro ⟨H1, H2⟩ j h1 h2
    by_cases e : j = i
    · rw [e]; exact H2
    · exact H1 j (by omega) h2
theorem noP_self (s : ByteArray) (a : Nat) : noP s a a = true := by
  unfold noP
  exact decide_eq_true (fun j h1 h2 => by omega)
theorem gaps_from (s : ByteArray) : ∀ (n i a : Nat), s.size - i = n → i ≤ s.size → a ≤ i → gapsB s (esc s i) a = (noP s a i && rt ((bytesOf s).drop i)) := by
  intro n
  induction n using Nat.strongRecOn with
  | ind n ih =>
    intro i a hn hi ha
    by_cases hlt : i < s.size
    · cases hat : atV s i with
      | none =>
        rw [esc_none hlt hat, ih (s.size - (i + 1)) (by omega) (i + 1) a rfl (by omega) (by omega), noP_succ s a i ha]
        rw [drop_bt s i hlt, rt_none (by rw [← drop_bt s i hlt, ← atV_hd3]; exact hat), Bool.and_assoc]
      | some b =>
        have h3 := (atV_range hat).1
        rw [esc_some hat, gapsB, ih (s.size - (i + 3)) (by omega) (i + 3) (i + 3) rfl h3 (Nat.le_refl _), noP_self, Bool.true_and]
        rw [drop_bt s i hlt, rt_some (by rw [← drop_bt s i hlt, ← atV_hd3]; exact hat), drop_drop2]
    · rw [esc_end (by omega), drop_all s i (by omega), rt_nil]
      obtain rfl : i = s.size := by omega
      simp [gapsB]
theorem right_eq (s : ByteArray) : rightB s = rt (bytesOf s) := by
  unfold rightB
  rw [gaps_from s s.size 0 0 rfl (Nat.zero_le _) (Nat.le_refl _), noP_self, Bool.true_and, List.drop_zero]
/-! ### the escape of a byte -/
def ofL (b : Int) : List Int := [37, hexD (b / 16).toNat, hexD (b % 16).toNat]
theorem hexD_V : ∀ d : Nat, d < 16 → hexV (hexD d) = some (d : Int) := by decide
theorem hexD_range : ∀ d : Nat, d < 16 → 0 ≤ hexD d ∧ hexD d ≤ 255 := by decide
theorem ofL_range {b : Int} (h0 : 0 ≤ b) (h1 : b ≤ 255) : ∀ x ∈ ofL b, 0 ≤ x ∧ x ≤ 255 := by
  intro x hx
  unfold ofL at hx
  simp only [List.mem_cons, List.not_mem_nil, or_false] at hx
  rcases hx with rfl | rfl | rfl
  · decide
  · exact hexD_range _ (by omega)
  · exact hexD_range _ (by omega)
theorem ofS_bytes {b : Int} (h0 : 0 ≤ b) (h1 : b ≤ 255) : bytesOf (ofS b) = ofL b := bytes_str _ (ofL_range h0 h1)
theorem oneS_bytes {b : Int} (h0 : 0 ≤ b) (h1 : b ≤ 255) : bytesOf (oneS b) = [b] := bytes_str _ (by intro x hx; simp only [List.mem_singleton] at hx; omega)
theorem hd3_of {b : Int} (h0 : 0 ≤ b) (h1 : b ≤ 255) (t : List Int) : hd3 (37 :: (hexD (b / 16).toNat :: hexD (b % 16).toNat :: t)) = some b := by
  rw [hd3_cons, if_pos rfl, hexD_V _ (by omega), hexD_V _ (by omega)]
  simp only
  congr 1
  omega
theorem hd3_range {l : List Int} {b : Int} (h : hd3 l = some b) : 0 ≤ b ∧ b ≤ 255 := by
  unfold hd3 at h
  split at h
  · split at h
    · split at h
      · rename_i a b' ha hb
        have := hexV_range ha
        have := hexV_range hb
        obtain rfl := Option.some.inj h
        omega
      · cases h
    · cases h
  · cases h
/-- Two ways of writing the escapes anew that are alike on octets. -/
theorem sub_alike {g h : Int → List Int → List Int} (hgh : ∀ b, 0 ≤ b → b ≤ 255 → ∀ e, g b e = h b e) : ∀ (n : Nat) (l : List Int), l.length ≤ n → sub g l = sub h l := by
  intro n
  induction n with
  | zero => intro l hl; obtain rfl := List.eq_nil_of_length_eq_zero (by omega : l.length = 0); rfl
  | succ n ih =>
    intro l hl
    cases l with
    | nil => rfl
    | cons c r =>
      simp only [List.length_cons] at hl
      cases hd : hd3 (c :: r) with
      | none => rw [sub_none g hd, sub_none h hd, ih r (by omega)]
      | some b =>
        have hb := hd3_range hd
        rw [sub_some g hd, sub_some h hd, hgh b hb.1 hb.2, ih (r.drop 2) (by rw [List.length_drop]; omega)]
theorem sub_range {g : Int → List Int → List Int} (hg : ∀ b, 0 ≤ b → b ≤ 255 → ∀ e, (∀ x ∈ e, 0 ≤ x ∧ x ≤ 255) → ∀ x ∈ g b e, 0 ≤ x ∧ x ≤ 255) : ∀ (n : Nat) (l : List Int), l.length ≤ n → (∀ x ∈ l, (0 : Int) ≤ x ∧ x ≤ 255) → ∀ x ∈ sub g l, 0 ≤ x ∧ x ≤ 255 := by
  intro n
  induction n with
  | zero => intro l hl _; obtain rfl := List.eq_nil_of_length_eq_zero (by omega : l.length = 0); intro x hx; cases hx
  | succ n ih =>
    intro l hl hr
    cases l with
    | nil => intro x hx; cases hx
    | cons c r =>
      simp only [List.length_cons] at hl
      cases hd : hd3 (c :: r) with
      | none =>
        rw [sub_none g hd]
        intro x hx
        rcases List.mem_cons.1 hx with rfl | hx
        · exact hr _ (List.mem_cons_self ..)
        · exact ih r (by omega) (fun y hy => hr y (List.mem_cons_of_mem _ hy)) x hx
      | some b =>
        have hb := hd3_range hd
        rw [sub_some g hd]
        intro x hx
        rcases List.mem_append.1 hx with hx | hx
        · exact hg b hb.1 hb.2 _ (fun y hy => hr y (List.mem_of_mem_take hy)) x hx
        · exact ih (r.drop 2) (by rw [List.length_drop]; omega) (fun y hy => hr y (List.mem_cons_of_mem _ (List.mem_of_mem_drop hy))) x hx
/-! ### upper case, twice -/
def up (l : List Int) : List Int := sub (fun b _ => ofL b) l
theorem up_some {c : Int} {r : List Int} {b : Int} (h : hd3 (c :: r) = some b) : up (c :: r) = ofL b ++ up (r.drop 2) := sub_some _ h
theorem up_none {c : Int} {r : List Int} (h : hd3 (c :: r) = none) : up (c :: r) = c :: up r := sub_none _ h
theorem hd3_ne {c : Int} {r : List Int} (h : c ≠ 37) : hd3 (c :: r) = none := by
  unfold hd3
  split
  · rename_i x _ _ _ heq
    simp only [List.cons.injEq] at heq
    rw [if_neg (by rw [← heq.1]; exact h)]
  · rfl
theorem hd3_head {c : Int} {r : List Int} {b : Int} (h : hd3 (c :: r) = some b) : c = 37 := by
  by_cases e : c = 37
  · exact e
  · rw [hd3_ne e] at h; cases h
theorem up_head (c : Int) (r : List Int) : ∃ t, up (c :: r) = c :: t := by
  cases hd : hd3 (c :: r) with
  | none => exact ⟨_, up_none hd⟩
  | some b => obtain rfl := hd3_head hd; exact ⟨_, up_some hd⟩
theorem hex_ne {x v : Int} (h : hexV x = some v) : x ≠ 37 := by
  rintro rfl
  revert h
  show hexV 37 = some v → False
  rw [show hexV 37 = none by decide]
  intro h; cases h
theorem hd3_up {c : Int} {r : List Int} (h : hd3 (c :: r) = none) : hd3 (c :: up r) = none := by
  by_cases hc : c = 37
  · subst hc
    cases r with
    | nil => rfl
    | cons x r1 =>
      obtain ⟨t, ht⟩ := up_head x r1
      cases hx : hexV x with
      | none =>
        rw [ht]
        cases t with
        | nil => rfl
        | cons y u => simp only [hd3, hx, if_true]
      | some a =>
        have hxn := hex_ne hx
        rw [up_none (hd3_ne hxn)]
        cases r1 with
        | nil => rfl
        | cons y r2 =>
          obtain ⟨t2, ht2⟩ := up_head y r2
          rw [ht2]
          simp only [hd3, if_true, hx] at h ⊢
          exact h
  · exact hd3_ne hc
theorem up_up : ∀ (n : Nat) (l : List Int), l.length ≤ n → up (up l) = up l := by
  intro n
  induction n with
  | zero => intro l hl; obtain rfl := List.eq_nil_of_length_eq_zero (by omega : l.length = 0); rfl
  | succ n ih =>
    intro l hl
    cases l with
    | nil => rfl
    | cons c r =>
      simp only [List.length_cons] at hl
      cases hd : hd3 (c :: r) with
      | none => rw [up_none hd, up_none (hd3_up hd), ih r (by omega)]
      | some b =>
        have hb := hd3_range hd
        rw [up_some hd]
        show up (37 :: (hexD (b / 16).toNat :: hexD (b % 16).toNat :: up (r.drop 2))) = _
        rw [up_some (hd3_of hb.1 hb.2 _)]
        show ofL b ++ up (up (r.drop 2)) = _
        rw [ih (r.drop 2) (by rw [List.length_drop]; omega)]
/-! ### encoding -/
def enc (c : Int) : List Int → List Int
  | [] => []
  | b :: r => (if isB b c = true then [b] else ofL b) ++ enc c r
theorem bits_zero (c : Int) : Go.bits .and .i64 0 c = 0 := by
  simp [Go.bits]
  rfl
theorem cls37 : clsV 37 = 0 := by decide +kernel
theorem is37 (c : Int) : isB 37 c = false := by
  unfold isB
  rw [cls37, bits_zero]
  rfl
theorem enc_back (c : Int) : ∀ l : List Int, (∀ x ∈ l, (0 : Int) ≤ x ∧ x ≤ 255) → sub (fun b _ => [b]) (enc c l) = l ∧ rt (enc c l) = true
  | [], _ => ⟨rfl, rfl⟩
  | b :: r, h => by
    obtain ⟨i1, i2⟩ := enc_back c r (fun x hx => h x (List.mem_cons_of_mem _ hx))
    have hb := h b (List.mem_cons_self ..)
    unfold enc
    by_cases hi : isB b c = true
    · have hn : b ≠ 37 := by rintro rfl; rw [is37] at hi; cases hi
      rw [if_pos hi]
      show sub _ (b :: enc c r) = _ ∧ rt (b :: enc c r) = true
      rw [sub_none _ (hd3_ne hn), rt_none (hd3_ne hn), i1, i2]
      exact ⟨rfl, by simp [hn]⟩
    · rw [if_neg hi]
      have hd := hd3_of hb.1 hb.2 (enc c r)
      show sub _ (37 :: (hexD (b / 16).toNat :: hexD (b % 16).toNat :: enc c r)) = _ ∧ rt (37 :: (hexD (b / 16).toNat :: hexD (b % 16).toNat :: enc c r)) = true
      rw [sub_some _ hd, rt_some hd]
      show [b] ++ sub _ (enc c r) = _ ∧ rt (enc c r) = true
      rw [i1]
      exact ⟨rfl, i2⟩
/-! ### the document's functions -/
theorem refV_all : ∀ n : Nat, n < 256 → monikerref01_Value.f 30 (n : Int) = some ((hexV (n : Int)).getD (-1)) := by decide +kernel
theorem refV_ev (s : ByteArray) (x : Int) : Ev (fun k => monikerref01_Value.f k (bt s x)) ((hexV (bt s x)).getD (-1)) := by
  have hb := bt_range s x
  have := refV_all (bt s x).toNat (by omega)
  rw [Int.toNat_of_nonneg hb.1] at this
  exact Ev.of (fun k => monikerref01_Value.mono _ k) this
theorem refAt_ev (s : ByteArray) (i : Nat) (hs : s.size ≤ 1048576) (hi : i < s.size) : Ev (fun k => monikerref04_At.f k s (i : Int)) ((atV s i).getD (-1)) := by
  have hw : wrap64 ((s.size : Int) - i) = (s.size : Int) - i := w64e (by omega) (by omega)
  have hw1 : wrap64 ((i : Int) + 1) = ((i + 1 : Nat) : Int) := by rw [w64e (by omega) (by omega)]; omega
  have hw2 : wrap64 ((i : Int) + 2) = ((i + 2 : Nat) : Int) := by rw [w64e (by omega) (by omega)]; omega
  unfold monikerref04_At.f
  simp only [if_neg (show ¬ (i : Int) < 0 by omega), if_neg (show ¬ (i : Int) ≥ (s.size : Int) by omega), hw]
  by_cases h3 : i + 3 ≤ s.size
  · simp only [if_neg (show ¬ ((s.size : Int) - i < 3) by omega), if_pos (show (0 : Int) ≤ (i : Int) by omega), if_pos (show (i : Int) < (s.size : Int) by omega)]
    unfold atV
    by_cases h37 : bt s (i : Int) = 37
    · rw [bne_eq_false_iff_eq.2 h37, if_pos ⟨h3, h37⟩]
      refine Ev.step (f := fun k => (monikerref01_Value.f k (bt s ((i + 1 : Nat) : Int))).bind fun t120 => (monikerref01_Value.f k (bt s ((i + 2 : Nat) : Int))).bind fun t121 => if t120 < 0 then some (-1) else if t121 < 0 then some (-1) else some (wrap64 ((wrap64 (16 * t120)) + t121))) (fun k => ?_) ?_
      · simp only [monikerref04_At.j0, Bool.false_eq_true, if_false, hw1, hw2]
        rw [if_pos (by omega), if_pos (by omega)]
        congr 1
        funext t
        rw [if_pos (by omega), if_pos (by omega)]
      · refine Ev.bind (refV_ev s _) (Ev.bind (refV_ev s _) ?_)
        cases ha : hexV (bt s ((i + 1 : Nat) : Int)) with
        | none => exact Ev.now _
        | some a =>
          have hra := hexV_range ha
          simp only [Option.getD_some, if_neg (show ¬ a < 0 by omega)]
          cases hb : hexV (bt s ((i + 2 : Nat) : Int)) with
          | none => exact Ev.now _
          | some b =>
            have hrb := hexV_range hb
            simp only [Option.getD_some, if_neg (show ¬ b < 0 by omega)]
            rw [w64e (x := 16 * a) (by omega) (by omega), w64e (by omega) (by omega)]
            exact Ev.now _
    · rw [bne_iff_ne.2 h37, if_neg (fun h => h37 h.2)]
      exact Ev.step (f := fun _ => some (-1)) (fun k => rfl) (Ev.now _)
  · simp only [if_pos (show (s.size : Int) - i < 3 by omega)]
    unfold atV
    rw [if_neg (fun h => h3 h.1)]
    exact Ev.step (f := fun _ => some (-1)) (fun k => rfl) (Ev.now _)
theorem refC_all : ∀ n : Nat, n < 256 → monikerref01_Class.f 200 (n : Int) = some (clsV (n : Int)) := by decide +kernel
theorem refC_ev {b : Int} (h0 : 0 ≤ b) (h1 : b ≤ 255) : Ev (fun k => monikerref01_Class.f k b) (clsV b) := by
  have := refC_all b.toNat (by omega)
  rw [Int.toNat_of_nonneg h0] at this
  exact Ev.of (fun k => monikerref01_Class.mono _ k) this
theorem refOf {b : Int} (h0 : 0 ≤ b) (h1 : b ≤ 255) : monikerref04_Of.f b = some (ofS b) := by
  unfold monikerref04_Of.f
  rw [if_pos h0, if_pos h1]
  rfl
/-- Right. -/
theorem refR_from (s : ByteArray) (hs : s.size ≤ 1048576) : ∀ (n i : Nat), s.size - i = n → i ≤ s.size → Ev (fun k => monikerref04_Right.l0 k s (i : Int)) (rt ((bytesOf s).drop i)) := by
  have hw : ∀ i : Nat, i < s.size → wrap64 ((i : Int) + 1) = ((i + 1 : Nat) : Int) := fun i hi => by rw [w64e (by omega) (by omega)]; omega
  -- a round at what is no percent sign
  have plain : ∀ (i : Nat) (r : Bool), i < s.size → bt s (i : Int) ≠ 37 → Ev (fun k => monikerref04_Right.l0 k s ((i + 1 : Nat) : Int)) r → Ev (fun k => monikerref04_Right.l0 k s (i : Int)) r := by
    intro i r hi h37 h
    refine Ev.step (f := fun k => monikerref04_Right.l0 k s ((i + 1 : Nat) : Int)) (fun k => ?_) h
    simp only [monikerref04_Right.l0]
    rw [if_pos (by omega), if_pos (by omega), if_neg h37, hw i hi]
  intro n
  induction n using Nat.strongRecOn with
  | ind n ih =>
    intro i hn hi
    by_cases hlt : i < s.size
    · have hat := refAt_ev s i hs hlt
      cases ha : atV s i with
      | none =>
        have hd : hd3 (bt s (i : Int) :: (bytesOf s).drop (i + 1)) = none := by rw [← drop_bt s i hlt, ← atV_hd3]; exact ha
        have h1 := ih (s.size - (i + 1)) (by omega) (i + 1) rfl (by omega)
        rw [drop_bt s i hlt, rt_none hd]
        by_cases h37 : bt s (i : Int) = 37
        · rw [ha] at hat
          refine Ev.step (f := fun k => (monikerref04_At.f k s (i : Int)).bind fun t => if t < 0 then some false else monikerref04_Right.l0 k s ((i + 1 : Nat) : Int)) (fun k => ?_) ?_
          · simp only [monikerref04_Right.l0]
            rw [if_pos (by omega), if_pos (by omega), if_pos h37, hw i hlt]
          · refine Ev.bind hat ?_
            simp only [Option.getD_none, h37, ne_eq, not_true_eq_false, decide_false, Bool.false_and]
            exact Ev.now _
        · have := plain i _ hlt h37 h1
          simpa [h37] using this
      | some b =>
        have hr := atV_range ha
        have hd : hd3 (bt s (i : Int) :: (bytesOf s).drop (i + 1)) = some b := by rw [← drop_bt s i hlt, ← atV_hd3]; exact ha
        have h37 := hd3_head hd
        have h1 := ih (s.size - (i + 3)) (by omega) (i + 3) rfl (by omega)
        rw [drop_bt s i hlt, rt_some hd, drop_drop2]
        have hx : bt s ((i + 1 : Nat) : Int) ≠ 37 ∧ bt s ((i + 2 : Nat) : Int) ≠ 37 := by
          unfold atV at ha
          rw [if_pos ⟨hr.1, h37⟩] at ha
          cases hx : hexV (bt s ((i + 1 : Nat) : Int)) with
          | none => rw [hx] at ha; cases ha
          | some x =>
            cases hy : hexV (bt s ((i + 2 : Nat) : Int)) with
            | none => rw [hx, hy] at ha; cases ha
            | some y => exact ⟨hex_ne hx, hex_ne hy⟩
        have h2 := plain (i + 1) _ (by omega) hx.1 (plain (i + 2) _ (by omega) hx.2 h1)
        rw [ha] at hat
        refine Ev.step (f := fun k => (monikerref04_At.f k s (i : Int)).bind fun t => if t < 0 then some false else monikerref04_Right.l0 k s ((i + 1 : Nat) : Int)) (fun k => ?_) ?_
        · simp only [monikerref04_Right.l0]
          rw [if_pos (by omega), if_pos (by omega), if_pos h37, hw i hlt]
        · refine Ev.bind hat ?_
          simp only [Option.getD_some, if_neg (show ¬ b < 0 by omega)]
          exact h2
    · refine Ev.step (f := fun _ => some true) (fun k => ?_) ?_
      · simp only [monikerref04_Right.l0]
        rw [if_neg (by omega)]
      · rw [drop_all s i (by omega), rt_nil]
        exact Ev.now _
theorem refR_ev (s : ByteArray) (hs : s.size ≤ 1048576) : Ev (fun k => monikerref04_Right.f k s) (rt (bytesOf s)) := refR_from s hs s.size 0 rfl (Nat.zero_le _)
/-- Some. -/
def refG (c : Int) (all upper : Bool) (b : Int) (e : List Int) : List Int := if (all || isB b c) = true then [b] else if upper = true then ofL b else e
theorem refS_from (s : ByteArray) (hs : s.size ≤ 1048576) (c : Int) (all upper : Bool) : ∀ (n i : Nat) (o : ByteArray), s.size - i = n → i ≤ s.size → o.size ≤ i →
    Ev (fun k => monikerref04_Some.l0 k s c all upper o (i : Int)) (strOfNums (bytesOf o ++ sub (refG c all upper) ((bytesOf s).drop i))) := by
  intro n
  induction n using Nat.strongRecOn with
  | ind n ih =>
    intro i o hn hi ho
    by_cases hlt : i < s.size
    · have hw1 : wrap64 ((i : Int) + 1) = ((i + 1 : Nat) : Int) := by rw [w64e (by omega) (by omega)]; omega
      have hw3 : wrap64 ((i : Int) + 3) = ((i + 3 : Nat) : Int) := by rw [w64e (by omega) (by omega)]; omega
      have hat := refAt_ev s i hs hlt
      have t0 : ((i : Int)).toNat = i := by omega
      have t1 : (((i + 1 : Nat) : Int)).toNat = i + 1 := by omega
      have t3 : (((i + 3 : Nat) : Int)).toNat = i + 3 := by omega
      cases ha : atV s i with
      | none =>
        have hd : hd3 (bt s (i : Int) :: (bytesOf s).drop (i + 1)) = none := by rw [← drop_bt s i hlt, ← atV_hd3]; exact ha
        rw [ha] at hat
        have hz : (s.extract i (i + 1)).size = 1 := by rw [ByteArray.size_extract]; omega
        have h1 := ih (s.size - (i + 1)) (by omega) (i + 1) (o ++ s.extract i (i + 1)) rfl (by omega) (by rw [ByteArray.size_append, hz]; omega)
        have e : bytesOf (o ++ s.extract i (i + 1)) ++ sub (refG c all upper) ((bytesOf s).drop (i + 1)) = bytesOf o ++ sub (refG c all upper) ((bytesOf s).drop i) := by
          rw [bytes_append, bytes_extract, show i + 1 - i = 1 by omega, drop_bt s i hlt, sub_none _ hd]
          simp
        rw [e] at h1
        refine Ev.step (f := fun k => (monikerref04_At.f k s (i : Int)).bind fun t129 => if t129 < 0 then monikerref04_Some.l0 k s c all upper (o ++ s.extract i (i + 1)) ((i + 1 : Nat) : Int) else (if all = true then (monikerref04_Some.j1 k s c all upper o (i : Int) t129 true) else ((monikerref01_Class.f k ((t129) % 256)).bind fun t130 => (monikerref04_Some.j1 k s c all upper o (i : Int) t129 ((Go.bits .and .i64 t130 c) != 0))))) (fun k => ?_) ?_
        · simp only [monikerref04_Some.l0, hw1, t0, t1, hz]
          rw [if_pos (by omega)]
          congr 1
          funext t
          rw [if_pos (show (0 : Int) ≤ (i : Int) by omega), if_pos (show (i : Int) ≤ ((i + 1 : Nat) : Int) by omega), if_pos (show ((i + 1 : Nat) : Int) ≤ (s.size : Int) by omega), if_pos (show o.size + 1 ≤ 9223372036854775807 by omega)]
        · refine Ev.bind hat ?_
          simp only [Option.getD_none]
          exact h1
      | some b =>
        have hr := atV_range ha
        have hd : hd3 (bt s (i : Int) :: (bytesOf s).drop (i + 1)) = some b := by rw [← drop_bt s i hlt, ← atV_hd3]; exact ha
        rw [ha] at hat
        have hb : b % 256 = b := by omega
        -- what a round writes
        have go : ∀ y : ByteArray, y.size ≤ 3 → bytesOf y = refG c all upper b ((bytesOf s).drop i |>.take 3) → Ev (fun k => monikerref04_Some.l0 k s c all upper (o ++ y) ((i + 3 : Nat) : Int)) (strOfNums (bytesOf o ++ sub (refG c all upper) ((bytesOf s).drop i))) := by
          intro y hy hyb
          have h1 := ih (s.size - (i + 3)) (by omega) (i + 3) (o ++ y) rfl (by omega) (by rw [ByteArray.size_append]; omega)
          have e : bytesOf (o ++ y) ++ sub (refG c all upper) ((bytesOf s).drop (i + 3)) = bytesOf o ++ sub (refG c all upper) ((bytesOf s).drop i) := by
            rw [bytes_append, hyb, drop_bt s i hlt, sub_some _ hd, drop_drop2, List.append_assoc]
          rw [e] at h1
          exact h1
        have hz : (s.extract i (i + 3)).size = 3 := by rw [ByteArray.size_extract]; omega
        -- the second step
        have two : ∀ d : Bool, d = (all || isB b c) → Ev (fun k => monikerref04_Some.j1 k s c all upper o (i : Int) b d) (strOfNums (bytesOf o ++ sub (refG c all upper) ((bytesOf s).drop i))) := by
          intro d hdd
          cases d with
          | true =>
            refine Ev.step (f := fun k => monikerref04_Some.l0 k s c all upper (o ++ oneS b) ((i + 3 : Nat) : Int)) (fun k => ?_) (go (oneS b) (by decide : 1 ≤ 3) ?_)
            · simp only [monikerref04_Some.j1, if_true, hw3, hb, Option.bind_some]
              exact if_pos (by have : (strOfNums [b]).size = 1 := rfl; omega)
            · rw [oneS_bytes hr.2.1 hr.2.2, refG, ← hdd, if_pos rfl]
          | false =>
            cases hu : upper with
            | true =>
              subst hu
              refine Ev.step (f := fun k => monikerref04_Some.l0 k s c all true (o ++ ofS b) ((i + 3 : Nat) : Int)) (fun k => ?_) (go (ofS b) (ofS_size b) ?_)
              · simp only [monikerref04_Some.j1, Bool.false_eq_true, if_false, if_true, hw3, hb, refOf hr.2.1 hr.2.2, Option.bind_some]
                exact if_pos (by have := ofS_size b; omega)
              · rw [ofS_bytes hr.2.1 hr.2.2, refG, ← hdd, if_neg (by decide), if_pos rfl]
            | false =>
              subst hu
              refine Ev.step (f := fun k => monikerref04_Some.l0 k s c all false (o ++ s.extract i (i + 3)) ((i + 3 : Nat) : Int)) (fun k => ?_) (go (s.extract i (i + 3)) (by omega) ?_)
              · simp only [monikerref04_Some.j1, Bool.false_eq_true, if_false, hw3, t0, t3, hz]
                rw [if_pos (show (0 : Int) ≤ (i : Int) by omega), if_pos (show (i : Int) ≤ ((i + 3 : Nat) : Int) by omega), if_pos (show ((i + 3 : Nat) : Int) ≤ (s.size : Int) by omega), if_pos (show o.size + 3 ≤ 9223372036854775807 by omega)]
              · rw [bytes_extract, refG, ← hdd, if_neg (by decide), if_neg (by decide), show i + 3 - i = 3 by omega]
        refine Ev.step (f := fun k => (monikerref04_At.f k s (i : Int)).bind fun t129 => if t129 < 0 then monikerref04_Some.l0 k s c all upper (o ++ s.extract i (i + 1)) ((i + 1 : Nat) : Int) else (if all = true then (monikerref04_Some.j1 k s c all upper o (i : Int) t129 true) else ((monikerref01_Class.f k ((t129) % 256)).bind fun t130 => (monikerref04_Some.j1 k s c all upper o (i : Int) t129 ((Go.bits .and .i64 t130 c) != 0))))) (fun k => ?_) ?_
        · have hz1 : (s.extract i (i + 1)).size = 1 := by rw [ByteArray.size_extract]; omega
          simp only [monikerref04_Some.l0, hw1, t0, t1, hz1]
          rw [if_pos (by omega)]
          congr 1
          funext t
          rw [if_pos (show (0 : Int) ≤ (i : Int) by omega), if_pos (show (i : Int) ≤ ((i + 1 : Nat) : Int) by omega), if_pos (show ((i + 1 : Nat) : Int) ≤ (s.size : Int) by omega), if_pos (show o.size + 1 ≤ 9223372036854775807 by omega)]
        · refine Ev.bind hat ?_
          simp only [Option.getD_some, if_neg (show ¬ b < 0 by omega), hb]
          cases all with
          | true =>
            simp only [if_true]
            exact two true (by simp)
          | false =>
            simp only [Bool.false_eq_true, if_false]
            exact Ev.bind (refC_ev hr.2.1 hr.2.2) (two (isB b c) (by simp))
    · refine Ev.step (f := fun _ => some o) (fun k => ?_) ?_
      · simp only [monikerref04_Some.l0]
        rw [if_neg (by omega)]
      · rw [drop_all s i (by omega), sub_nil, List.append_nil, str_bytes]
        exact Ev.now _
theorem refS_ev (s : ByteArray) (hs : s.size ≤ 1048576) (c : Int) (all upper : Bool) : Ev (fun k => monikerref04_Some.f k s c all upper) (strOfNums (sub (refG c all upper) (bytesOf s))) :=
  refS_from s hs c all upper s.size 0 ⟨#[]⟩ rfl (Nat.zero_le _) (Nat.le_refl _)
/-! ### encoding, in the program and in the document -/
theorem encP_from (s : ByteArray) (hs : s.size ≤ 1048576) (c : Int) : ∀ (n i : Nat) (o : List Int), s.size - i = n → i ≤ s.size → o.length ≤ 3 * i →
    Ev (fun k => escape_Encode.l0 k s c o (s.size : Int) (i : Int)) (strOfNums (o ++ enc c ((bytesOf s).drop i))) := by
  intro n
  induction n with
  | zero =>
    intro i o hn hi ho
    obtain rfl : i = s.size := by omega
    refine Ev.step (f := fun _ => some (strOfNums o)) (fun k => ?_) ?_
    · simp only [escape_Encode.l0]
      rw [if_neg (by omega)]
    · rw [drop_all s s.size (by omega), enc, List.append_nil]
      exact Ev.now _
  | succ n ih =>
    intro i o hn hi ho
    have hlt : i < s.size := by omega
    have hw1 : wrap64 ((i : Int) + 1) = ((i + 1 : Nat) : Int) := by rw [w64e (by omega) (by omega)]; omega
    have hb := bt_range s (i : Int)
    have hIs : Ev (fun k => octet_Is.f k (bt s (i : Int)) c) (isB (bt s (i : Int)) c) := Ev.of (fun k => octet_Is.mono _ _ k) (is_eq _ c hb.1 (by omega))
    have hOf : Ev (fun k => escape_Of.f k (bt s (i : Int))) (ofS (bt s (i : Int))) := Ev.of (fun k => escape_Of.mono _ k) (of_eq _ hb.1 (by omega))
    refine Ev.step (f := fun k => (octet_Is.f k (bt s (i : Int)) c).bind fun t111 => if t111 = true then escape_Encode.l0 k s c (o ++ [bt s (i : Int)]) (s.size : Int) ((i + 1 : Nat) : Int) else (escape_Of.f k (bt s (i : Int))).bind fun t115 => if o.length + t115.size < 140737488355328 then escape_Encode.l0 k s c (o ++ bytesOf t115) (s.size : Int) ((i + 1 : Nat) : Int) else none) (fun k => ?_) ?_
    · simp only [escape_Encode.l0, hw1]
      rw [if_pos (by omega), if_pos (by omega), if_pos (by omega)]
      congr 1
      funext t
      rw [if_pos (show o.length < 140737488355328 by omega)]
    · refine Ev.bind hIs ?_
      rw [drop_bt s i hlt, enc]
      by_cases hi : isB (bt s (i : Int)) c = true
      · simp only [hi, if_true]
        have := ih (i + 1) (o ++ [bt s (i : Int)]) (by omega) (by omega) (by simp; omega)
        rw [List.append_assoc] at this
        exact this
      · simp only [if_neg hi]
        refine Ev.bind hOf ?_
        have hz := ofS_size (bt s (i : Int))
        simp only [if_pos (show o.length + (ofS (bt s (i : Int))).size < 140737488355328 by omega), ofS_bytes hb.1 (show bt s (i : Int) ≤ 255 by omega)]
        have := ih (i + 1) (o ++ ofL (bt s (i : Int))) (by omega) (by omega) (by simp [ofL]; omega)
        rw [List.append_assoc] at this
        exact this
theorem encP_ev (s : ByteArray) (hs : s.size ≤ 1048576) (c : Int) : Ev (fun k => escape_Encode.f k s c) (strOfNums (enc c (bytesOf s))) :=
  encP_from s hs c s.size 0 [] (by omega) (Nat.zero_le _) (Nat.zero_le _)
theorem encR_from (s : ByteArray) (hs : s.size ≤ 1048576) (c : Int) : ∀ (n i : Nat) (o : ByteArray), s.size - i = n → i ≤ s.size → o.size ≤ 3 * i →
    Ev (fun k => monikerref04_Encode.l0 k s c o (i : Int)) (strOfNums (bytesOf o ++ enc c ((bytesOf s).drop i))) := by
  intro n
  induction n with
  | zero =>
    intro i o hn hi ho
    obtain rfl : i = s.size := by omega
    refine Ev.step (f := fun _ => some o) (fun k => ?_) ?_
    · simp only [monikerref04_Encode.l0]
      rw [if_neg (by omega)]
    · rw [drop_all s s.size (by omega), enc, List.append_nil, str_bytes]
      exact Ev.now _
  | succ n ih =>
    intro i o hn hi ho
    have hlt : i < s.size := by omega
    have hw1 : wrap64 ((i : Int) + 1) = ((i + 1 : Nat) : Int) := by rw [w64e (by omega) (by omega)]; omega
    have t0 : ((i : Int)).toNat = i := by omega
    have t1 : (((i + 1 : Nat) : Int)).toNat = i + 1 := by omega
    have hb := bt_range s (i : Int)
    have hz1 : (s.extract i (i + 1)).size = 1 := by rw [ByteArray.size_extract]; omega
    refine Ev.step (f := fun k => (monikerref01_Class.f k (bt s (i : Int))).bind fun t148 => if (Go.bits .and .i64 t148 c) = 0 then (if o.size + (ofS (bt s (i : Int))).size ≤ 9223372036854775807 then monikerref04_Encode.l0 k s c (o ++ ofS (bt s (i : Int))) ((i + 1 : Nat) : Int) else none) else monikerref04_Encode.l0 k s c (o ++ s.extract i (i + 1)) ((i + 1 : Nat) : Int)) (fun k => ?_) ?_
    · simp only [monikerref04_Encode.l0, hw1, t0, t1, hz1, refOf hb.1 (show bt s (i : Int) ≤ 255 by omega), Option.bind_some]
      rw [if_pos (by omega), if_pos (by omega)]
      congr 1
      funext t
      rw [if_pos (show (i : Int) ≤ ((i + 1 : Nat) : Int) by omega), if_pos (show ((i + 1 : Nat) : Int) ≤ (s.size : Int) by omega), if_pos (show o.size + 1 ≤ 9223372036854775807 by omega)]
    · refine Ev.bind (refC_ev hb.1 (show bt s (i : Int) ≤ 255 by omega)) ?_
      rw [drop_bt s i hlt, enc]
      by_cases hi : isB (bt s (i : Int)) c = true
      · have hn0 : ¬ (Go.bits .and .i64 (clsV (bt s (i : Int))) c = 0) := bne_iff_ne.1 hi
        simp only [if_pos hi, if_neg hn0]
        have := ih (i + 1) (o ++ s.extract i (i + 1)) (by omega) (by omega) (by rw [ByteArray.size_append, hz1]; omega)
        rw [bytes_append, bytes_extract, show i + 1 - i = 1 by omega, drop_bt s i hlt, List.append_assoc] at this
        exact this
      · have h0 : Go.bits .and .i64 (clsV (bt s (i : Int))) c = 0 := bne_eq_false_iff_eq.1 (Bool.eq_false_iff.2 hi)
        have hz := ofS_size (bt s (i : Int))
        simp only [if_neg hi, if_pos h0, if_pos (show o.size + (ofS (bt s (i : Int))).size ≤ 9223372036854775807 by omega)]
        have := ih (i + 1) (o ++ ofS (bt s (i : Int))) (by omega) (by omega) (by rw [ByteArray.size_append]; omega)
        rw [bytes_append, ofS_bytes hb.1 (by omega), List.append_assoc] at this
        exact this
theorem encR_ev (s : ByteArray) (hs : s.size ≤ 1048576) (c : Int) : Ev (fun k => monikerref04_Encode.f k s c) (strOfNums (enc c (bytesOf s))) :=
  encR_from s hs c s.size 0 ⟨#[]⟩ (by omega) (Nat.zero_le _) (Nat.zero_le _)
end Go.Proofs.Ytamahbpkekbokaa.P04
