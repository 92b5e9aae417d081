/- StageTells: the asked code points. -/
import Derived.Test.YtonmollpimoaoaaSn
import Derived.ArgAppend
namespace Go.Proofs.Ytonmollpimoaoaa.Sa
open Go.RowKit Go.Proofs.Ytonmollpimoaoaa.Stg Go.Proofs.YtonmollpimoaoaaW.PrintWords Go.Proofs.YtonmollpimoaoaaW.PrintLast Go.Proofs.YtonmollpimoaoaaW.PrintMore Go.Proofs.Ytonmollpimoaoaa.PStageTells
set_option linter.unusedVariables false
set_option linter.unusedSimpArgs false
def R32 (x : Int) : Prop := -2147483648 ≤ x ∧ x ≤ 2147483647
/-- Runes that may be read. -/
structure RI (W : World) (A : Option Addr) (n : Nat) (l : List Int) : Prop where
  len : l.length = n
  nil : A = none → n = 0
  cell : ∀ j : Nat, j < n → ∃ ad, A = some ad ∧ W.cell? (ad.add j) = some (.int .i32 (l.getD j 0))
  ok : ∀ x ∈ l, R32 x
theorem RI.after {W W' : World} {A : Option Addr} {n : Nat} {l : List Int} (h : RI W A n l) (hb : Below W.heap.size W W') : RI W' A n l :=
  ⟨h.len, h.nil, fun j hj => by
    obtain ⟨ad, e, hc⟩ := h.cell j hj
    exact ⟨ad, e, pw_cell_below hb hc⟩, h.ok⟩
def i32s (l : List Int) : List Value := l.map (Value.int .i32)
theorem i32s_get (l : List Int) (j : Nat) (u : Value) (h : (i32s l)[j]? = some u) : j < l.length ∧ u = .int .i32 (l.getD j 0) := by
  unfold i32s at h
  rw [List.getElem?_map] at h
  cases hx : l[j]? with
  | none => rw [hx] at h; cases h
  | some x =>
    rw [hx] at h
    cases h
    obtain ⟨hl, he⟩ := List.getElem?_eq_some_iff.1 hx
    exact ⟨hl, by rw [List.getD_eq_getElem?_getD, hx]; rfl⟩
theorem info21 : (Try.prog.info? 21).map (fun i => (i.zero, i.size, i.bytes)) = some (some (.int .i32 0), 1, 4) := by kernel_rfl
theorem ask_append (W : World) (A : Option Addr) (n : Nat) (l : List Int) (g : Nat) (a b c d : Int) (h : RI W A n l) (hn : n ≤ 1000) (hw : R32 a ∧ R32 b ∧ R32 c ∧ R32 d) (hg : W.heap[g]? = some (.cells #[.int .i32 a, .int .i32 b, .int .i32 c, .int .i32 d] 21)) :
    ∃ A' c' w', (Builtin.append_ #[23, 23] 23 #[.slice A n n, .slice (some ⟨g, 0, none⟩) 4 4]).run Try.prog W = .ok (.slice A' (n + 4) c') w' ∧ n + 4 ≤ c' ∧ RI w' A' (n + 4) (l ++ [a, b, c, d]) ∧ Below W.heap.size W w' := by
  obtain ⟨i, hi, hz⟩ := Option.map_eq_some_iff.1 info21
  simp only [Prod.mk.injEq] at hz
  obtain ⟨hz, hs, hby⟩ := hz
  have hnews : ∀ j u, (i32s [a, b, c, d])[j]? = some u → W.cell? ((⟨g, 0, none⟩ : Addr).add j) = some u := fun j u hu => by
    rw [show (⟨g, 0, none⟩ : Addr).add j = ⟨g, j, none⟩ by have := Addr.add_mid g 0 j; simpa using this, blk_cell hg j]
    have : (#[.int .i32 a, .int .i32 b, .int .i32 c, .int .i32 d] : Array Value) = (i32s [a, b, c, d]).toArray := rfl
    rw [this]
    simpa using hu
  have fin : ∀ v' w', w'.ownsRow W.heap.size 21 1 v' (n + 4) (i32s l ++ i32s [a, b, c, d]) → W.grownBy w' none → ∃ A' c', v' = .slice A' (n + 4) c' ∧ n + 4 ≤ c' ∧ RI w' A' (n + 4) (l ++ [a, b, c, d]) ∧ Below W.heap.size W w' := by
    intro v' w' ho hgr
    rcases ho.2 with ⟨_, h0⟩ | ⟨g', cap, cur, rfl, hb, hh, hnc, _, _, htk⟩
    · omega
    · refine ⟨some ⟨g', 0, none⟩, cap, rfl, hnc, ⟨by rw [List.length_append, h.len]; rfl, (fun e => by cases e), fun j hj => ⟨⟨g', 0, none⟩, rfl, ?_⟩, fun x hx => ?_⟩, ⟨hgr.os, hgr.tape, hgr.output, hgr.size, fun k hk => hgr.block k hk (by simp)⟩⟩
      · have hc := ho.cells (g := g') rfl j
        refine hc _ ?_
        rw [show i32s l ++ i32s [a, b, c, d] = i32s (l ++ [a, b, c, d]) by unfold i32s; simp]
        unfold i32s
        rw [List.getElem?_map, List.getElem?_eq_getElem (by rw [List.length_append, h.len]; exact hj), List.getD_eq_getElem?_getD, List.getElem?_eq_getElem (by rw [List.length_append, h.len]; exact hj)]
        rfl
      · rcases List.mem_append.1 hx with hx | hx
        · exact h.ok x hx
        · simp at hx
          rcases hx with rfl | rfl | rfl | rfl
          · exact hw.1
          · exact hw.2.1
          · exact hw.2.2.1
          · exact hw.2.2.2
  cases A with
  | none =>
    obtain rfl := h.nil rfl
    have hl : l = [] := List.eq_nil_of_length_eq_zero h.len
    subst hl
    obtain ⟨v', w', h1, h2, h3, _⟩ := Go.run_append_own (P := Try.prog) W W.heap.size 23 23 21 i _ 1 4 Try.underlying23 hi hz hs hby rfl (by decide) (.slice none 0 0) 0 [] (World.ownsRow_nil _ _ _ _) ⟨g, 0, none⟩ 4 4 (i32s [a, b, c, d]) rfl hnews (fun u hu => by obtain ⟨x, _, rfl⟩ := List.mem_map.1 hu; rfl) (by unfold maxLen; omega) (by omega) (Nat.le_refl _)
    obtain ⟨A', c', rfl, q⟩ := fin v' w' h2 h3
    exact ⟨A', c', w', h1, q⟩
  | some ad =>
    obtain ⟨v', w', h1, h2, h3⟩ := run_append_arg_grows (P := Try.prog) W 23 23 21 i _ 1 4 Try.underlying23 hi hz hs hby rfl (by decide) ad n n (i32s l) (by unfold i32s; rw [List.length_map, h.len, Nat.mul_one]) (fun j u hu => by
      obtain ⟨hj, rfl⟩ := i32s_get l j u hu
      obtain ⟨ad', e, hc⟩ := h.cell j (by rw [← h.len]; exact hj)
      cases e
      exact hc) ⟨g, 0, none⟩ 4 4 (i32s [a, b, c, d]) rfl hnews (by omega) (by unfold maxLen; omega) (by omega)
    obtain ⟨A', c', rfl, q⟩ := fin v' w' h2 h3
    exact ⟨A', c', w', h1, q⟩
end Go.Proofs.Ytonmollpimoaoaa.Sa
