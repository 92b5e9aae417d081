/- pair.Width, and the document's kana, Width, shifts, Lower, walked. -/
import Derived.Test.YtejkfochijgkdaaPr
import Derived.Test.YtejkfochijgkdaaPt0
import Derived.Test.YtejkfochijgkdaaPrr
import Derived.Deep.WholeRow
import Derived.Lib.OthersKept
namespace Go.Proofs.Ytejkfochijgkdaa.Pk
open Go.RowKit Go.Proofs.YtejkfochijgkdaaW.PrintWords Go.Proofs.YtejkfochijgkdaaW.PrintLast Go.Proofs.YtejkfochijgkdaaW.PrintMore
open Go.Proofs.Ytejkfochijgkdaa.Pt (opsOf intOf) 
open Go.Proofs.Ytejkfochijgkdaa.Pr (runesF rune_wf below_iterAt iter_at iter_other)
set_option linter.unusedVariables false
set_option linter.unusedSimpArgs false
/-! ### Width -/
def rngO (o : Oper) : List ByteArray := match o.op with
  | .range _ (.const (.string s)) => [s]
  | _ => []
def rngC : Code → List ByteArray
  | .region _ ops _ => ops.toList.flatMap rngO
  | .seq a b => rngC a ++ rngC b
  | _ => []
noncomputable def KS : ByteArray := (match Try.f15.body with
  | some c => rngC c
  | none => []).getD 0 ⟨#[]⟩
theorem cut15 {P : Program} {Q : Exit → Act → World → Prop} {a : Act} {w : World} {r0 b0 r9 b2 rest : Code} {i : Nat} {d : Option Tmp} {tb ty : TypeId} {p : String} {af : Array Edge} {g : Option (Nat × Bool)} {m : Bool} {s : ByteArray}
    (h : ∀ t, t = s → Code.wp P (.seq r0 (.seq b0 (.seq r9 (.seq (.seq (.region i #[{ dst := d, op := .range tb (.const (.string t)), type := ty, pos := p, after := af, guard := g }] m) b2) rest)))) Q a w) :
    Code.wp P (.seq r0 (.seq b0 (.seq r9 (.seq (.seq (.region i #[{ dst := d, op := .range tb (.const (.string s)), type := ty, pos := p, after := af, guard := g }] m) b2) rest)))) Q a w := h s rfl
def scan : List Int → Int → Int → Int
  | [], _, r => r
  | k :: t, n, r => if n = r then k else scan t (wrap32 (n + 1)) r
noncomputable def widthS (r : Int) : Int :=
  if 65281 ≤ r ∧ r ≤ 65374 then r - 65248 else if r = 65377 then 12290 else if r = 65381 then 12539 else if r < 65382 ∨ 65439 < r then r else scan (runesF KS (KS.size + 1) 0) 65382 r
set_option maxRecDepth 1000000 in
set_option maxHeartbeats 4000000 in
theorem width_calls (w : World) (r : Int) (hr : (Lit.int .i32 r).wf = true) : Calls Try.prog 15 #[.int .i32 r] w fun e w' => e = .returned (.int .i32 (widthS r)) ∧ Below w.heap.size w w' := by
  unfold widthS
  by_cases h1 : 65281 ≤ r ∧ r ≤ 65374
  · rw [if_pos h1]
    have q1 := h1.1
    have q2 := h1.2
    clear h1
    go_enter Try.func15, Try.ntmps15
    refine cut15 ?_
    intro t et
    clear et
    go_wp2
    go_ret
    exact ⟨rfl, Below.refl _ _⟩
  rw [if_neg h1]
  by_cases h2 : r = 65377
  · subst h2
    rw [if_pos rfl]
    clear h1
    go_enter Try.func15, Try.ntmps15
    refine cut15 ?_
    intro t et
    clear et
    go_wp2
    go_ret
    exact ⟨rfl, Below.refl _ _⟩
  rw [if_neg h2]
  by_cases h3 : r = 65381
  · subst h3
    rw [if_pos rfl]
    clear h1
    go_enter Try.func15, Try.ntmps15
    refine cut15 ?_
    intro t et
    clear et
    go_wp2
    go_ret
    exact ⟨rfl, Below.refl _ _⟩
  rw [if_neg h3]
  have n2 : (r == 65377) = false := beq_eq_false_iff_ne.2 h2
  have n3 : (r == 65381) = false := beq_eq_false_iff_ne.2 h3
  by_cases h4 : r < 65382 ∨ 65439 < r
  · rw [if_pos h4]
    have H1 := Aside0.mk h1
    have H4 := Aside0.mk h4
    clear h1 h4 h2 h3
    go_enter Try.func15, Try.ntmps15
    refine cut15 ?_
    intro t et
    clear et
    by_cases q6 : 65281 ≤ r
    · have q7 : decide (r ≤ 65374) = false := decide_eq_false (fun h => H1.out ⟨q6, h⟩)
      by_cases q4 : r < 65382
      · go_wp2
        go_ret
        exact ⟨rfl, Below.refl _ _⟩
      · have q5 : decide (65439 < r) = true := decide_eq_true (H4.out.resolve_left q4)
        have q4' : decide (r < 65382) = false := decide_eq_false q4
        clear q4
        go_wp2
        go_ret
        exact ⟨rfl, Below.refl _ _⟩
    · have q4 : decide (r < 65382) = true := decide_eq_true (by omega)
      go_wp2
      go_ret
      exact ⟨rfl, Below.refl _ _⟩
  · rw [if_neg h4]
    have q4 : decide (r < 65382) = false := decide_eq_false (fun h => h4 (.inl h))
    have q5 : decide (65439 < r) = false := decide_eq_false (fun h => h4 (.inr h))
    have q6 : decide (65281 ≤ r) = true := decide_eq_true (by omega)
    have q7 : decide (r ≤ 65374) = false := decide_eq_false (by omega)
    have HR := Aside0.mk hr
    have H4 := Aside0.mk h4
    clear h1 h2 h3 h4 hr
    go_enter Try.func15, Try.ntmps15
    refine cut15 ?_
    intro t et
    have ET := Aside0.mk (et.trans (show _ = KS by kernel_rfl))
    clear et
    obtain ⟨Fin, hF⟩ : ∃ f, f = scan (runesF KS (KS.size + 1) 0) 65382 r := ⟨_, rfl⟩
    rw [← hF]
    have HF := Aside0.mk hF
    clear hF
    go_wp2
    go_loopg [3] (t.size + 1) (fun kq v3 wr => ∃ (n : Int) (pos : Nat), v3 = .int .i32 n ∧ Aside0 (wr.heap[w.heap.size]? = some (.stringIter t pos) ∧ t.size < kq + pos ∧ scan (runesF t kq pos) n r = Fin ∧ Below w.heap.size w wr))
    case atStart => exact ⟨65382, 0, rfl, ⟨by have := World.iter_heap w t 0; simpa using this, by omega, by rw [ET.out]; exact HF.out.symm, below_alloc (Below.refl _ _) _⟩⟩
    case round =>
      obtain ⟨n, pos, rfl, HI⟩ := hrel
      by_cases hp : pos < t.size
      · cases gk with
        | zero => have := HI.out.2.1; omega
        | succ q =>
          have hn := fun ty => Lib.run_next_any_at (P := Try.prog) wr w.heap.size t pos ty HI.out.1 hp
          have hs := HI.out.2.2.1
          rw [runesF, if_pos hp, scan] at hs
          have HP := Aside0.mk hp
          clear hp
          by_cases he : n = r
          · rw [if_pos he] at hs
            have e1 : (n == r) = true := beq_iff_eq.2 he
            subst hs
            clear he
            go_wp2
            go_ret
            exact ⟨rfl, below_iterAt HI.out.2.2.2 _ (Nat.le_refl _) _ _⟩
          · rw [if_neg he] at hs
            have e1 : (n == r) = false := beq_eq_false_iff_ne.2 he
            have HS := Aside0.mk hs
            clear he hs
            go_wp2
            go_roundg q
            case measure => omega
            case rel => exact ⟨_, _, rfl, ⟨iter_at _ _ _ _ (blk_lt HI.out.1), by have := Lib.width_pos t pos; have := HI.out.2.1; omega, HS.out, below_iterAt HI.out.2.2.2 _ (Nat.le_refl _) _ _⟩⟩
      · have hn := fun ty => Lib.run_next_end_at (P := Try.prog) wr w.heap.size t pos ty HI.out.1 hp
        have hs := HI.out.2.2.1
        have hs' : r = Fin := by
          cases gk with
          | zero => exact hs
          | succ q => rw [runesF, if_neg hp] at hs; exact hs
        clear hs hp
        subst hs'
        go_wp2
        go_ret
        exact ⟨rfl, HI.out.2.2.2⟩
end Go.Proofs.Ytejkfochijgkdaa.Pk
