/- The law PairBack, walked. -/
import Derived.Test.YtejkfochijgkdaaPb0
namespace Go.Proofs.Ytejkfochijgkdaa.Pr
open Go.RowKit Go.Maps Go.Proofs.Ytejkfochijgkdaa.MapF Go.Proofs.YtejkfochijgkdaaW.PrintWords Go.Proofs.YtejkfochijgkdaaW.PrintLast Go.Proofs.YtejkfochijgkdaaW.PrintMore
set_option linter.unusedVariables false
set_option maxHeartbeats 8000000 in
theorem back_walk (r a b : Int) (w : World) (hr : (Lit.int .i32 r).wf = true) (ha : (Lit.int .i32 a).wf = true) (hb : (Lit.int .i32 b).wf = true) :
    Calls Try.prog 4 #[.int .i32 r, .int .i32 a, .int .i32 b] w fun e w' => e = .returned (.bool true) ∧ Below w.heap.size w w' := by
  have HN := Aside0.mk (new_calls w)
  have HDr := Aside0.mk (fun W W' (h : Pz W (w.heap.size + 1 + 1 + 1) w.heap.size (w.heap.size + 1) (w.heap.size + 1 + 1) 1000000000 tabS.m tabS.dn tabS.up tabS.sec) (hb' : Below W.heap.size W W') => down_calls (h.after hb').ps r hr)
  have HXr := Aside0.mk (fun W W' (h : Pz W (w.heap.size + 1 + 1 + 1) w.heap.size (w.heap.size + 1) (w.heap.size + 1 + 1) 1000000000 tabS.m tabS.dn tabS.up tabS.sec) (hb' : Below W.heap.size W W') => excl_calls (h.after hb').ps r hr)
  have HUab := Aside0.mk (fun W W' (h : Pz W (w.heap.size + 1 + 1 + 1) w.heap.size (w.heap.size + 1) (w.heap.size + 1 + 1) 1000000000 tabS.m tabS.dn tabS.up tabS.sec) (hb' : Below W.heap.size W W') => up_calls (h.after hb').ps a b ha hb)
  have HA := Aside0.mk (fun W W' (h : Pz W (w.heap.size + 1 + 1 + 1) w.heap.size (w.heap.size + 1) (w.heap.size + 1 + 1) 1000000000 tabS.m tabS.dn tabS.up tabS.sec) (hb' : Below W.heap.size W W') => awake_calls (h.after hb') (downV_two d233 (by decide)) u233)
  clear hr
  cases hd : tabS.dn r with
  | none =>
    rw [downV_none hd] at HDr
    clear hd
    cases hu : tabS.up a b with
    | none =>
      rw [hu] at HUab
      clear hu
      go_enter Try.func4, Try.ntmps4
      go_wp2_with (first
        | (go_at_call 7; refine HN.out.mono ?_; rintro e w1 ⟨rfl, hz⟩; have HZ := Aside0.mk hz; have HB := Aside0.mk (Below.refl w1.heap.size w1); clear hz)
        | (go_at_call 12; (with_reducible refine (HDr.out _ _ HZ.out.1 HB.out).mono ?_); rintro e w2 ⟨rfl, hb2⟩; have HB := Aside0.mk (below_then HB.out HB.out.size hb2); clear hb2)
        | (go_at_call 10; (with_reducible refine (HUab.out _ _ HZ.out.1 HB.out).mono ?_); rintro e w2 ⟨rfl, hb2⟩; have HB := Aside0.mk (below_then HB.out HB.out.size hb2); clear hb2)
        | (go_at_call 8; (with_reducible refine (HA.out _ _ HZ.out.1 HB.out).mono ?_); rintro e w2 ⟨rfl, hb2⟩; have HB := Aside0.mk (below_then HB.out HB.out.size hb2); clear hb2))
      go_ret
      exact ⟨rfl, below_then HZ.out.2 HZ.out.2.size HB.out⟩
    | some z =>
      obtain ⟨hz1, hz2, hz3⟩ := back_dn hu
      have hzw := wf_rng (up_rng hu)
      have HDz := Aside0.mk (fun W W' (h : Pz W (w.heap.size + 1 + 1 + 1) w.heap.size (w.heap.size + 1) (w.heap.size + 1 + 1) 1000000000 tabS.m tabS.dn tabS.up tabS.sec) (hb' : Below W.heap.size W W') => down_calls (h.after hb').ps z hzw)
      have HXz := Aside0.mk (fun W W' (h : Pz W (w.heap.size + 1 + 1 + 1) w.heap.size (w.heap.size + 1) (w.heap.size + 1 + 1) 1000000000 tabS.m tabS.dn tabS.up tabS.sec) (hb' : Below W.heap.size W W') => excl_calls (h.after hb').ps z hzw)
      rw [downV_two hz1 hz3] at HDz
      rw [hz2] at HXz
      rw [hu] at HUab
      clear hu hz1 hz2 hz3 hzw
      go_enter Try.func4, Try.ntmps4
      go_wp2_with (first
        | (go_at_call 7; refine HN.out.mono ?_; rintro e w1 ⟨rfl, hz⟩; have HZ := Aside0.mk hz; have HB := Aside0.mk (Below.refl w1.heap.size w1); clear hz)
        | (go_at_call 12; (with_reducible refine (HDr.out _ _ HZ.out.1 HB.out).mono ?_); rintro e w2 ⟨rfl, hb2⟩; have HB := Aside0.mk (below_then HB.out HB.out.size hb2); clear hb2)
        | (go_at_call 10; (with_reducible refine (HUab.out _ _ HZ.out.1 HB.out).mono ?_); rintro e w2 ⟨rfl, hb2⟩; have HB := Aside0.mk (below_then HB.out HB.out.size hb2); clear hb2)
        | (go_at_call 12; (with_reducible refine (HDz.out _ _ HZ.out.1 HB.out).mono ?_); rintro e w2 ⟨rfl, hb2⟩; have HB := Aside0.mk (below_then HB.out HB.out.size hb2); clear hb2)
        | (go_at_call 13; (with_reducible refine (HXz.out _ _ HZ.out.1 HB.out).mono ?_); rintro e w2 ⟨rfl, hb2⟩; have HB := Aside0.mk (below_then HB.out HB.out.size hb2); clear hb2)
        | (go_at_call 8; (with_reducible refine (HA.out _ _ HZ.out.1 HB.out).mono ?_); rintro e w2 ⟨rfl, hb2⟩; have HB := Aside0.mk (below_then HB.out HB.out.size hb2); clear hb2))
      go_ret
      exact ⟨rfl, below_then HZ.out.2 HZ.out.2.size HB.out⟩
  | some p =>
    obtain ⟨x, y⟩ := p
    by_cases hy : y = 0
    · subst hy
      rw [downV_one hd] at HDr
      clear hd
      cases hu : tabS.up a b with
      | none =>
        rw [hu] at HUab
        clear hu
        go_enter Try.func4, Try.ntmps4
        go_wp2_with (first
          | (go_at_call 7; refine HN.out.mono ?_; rintro e w1 ⟨rfl, hz⟩; have HZ := Aside0.mk hz; have HB := Aside0.mk (Below.refl w1.heap.size w1); clear hz)
          | (go_at_call 12; (with_reducible refine (HDr.out _ _ HZ.out.1 HB.out).mono ?_); rintro e w2 ⟨rfl, hb2⟩; have HB := Aside0.mk (below_then HB.out HB.out.size hb2); clear hb2)
          | (go_at_call 10; (with_reducible refine (HUab.out _ _ HZ.out.1 HB.out).mono ?_); rintro e w2 ⟨rfl, hb2⟩; have HB := Aside0.mk (below_then HB.out HB.out.size hb2); clear hb2)
          | (go_at_call 8; (with_reducible refine (HA.out _ _ HZ.out.1 HB.out).mono ?_); rintro e w2 ⟨rfl, hb2⟩; have HB := Aside0.mk (below_then HB.out HB.out.size hb2); clear hb2))
        go_ret
        exact ⟨rfl, below_then HZ.out.2 HZ.out.2.size HB.out⟩
      | some z =>
        obtain ⟨hz1, hz2, hz3⟩ := back_dn hu
        have hzw := wf_rng (up_rng hu)
        have HDz := Aside0.mk (fun W W' (h : Pz W (w.heap.size + 1 + 1 + 1) w.heap.size (w.heap.size + 1) (w.heap.size + 1 + 1) 1000000000 tabS.m tabS.dn tabS.up tabS.sec) (hb' : Below W.heap.size W W') => down_calls (h.after hb').ps z hzw)
        have HXz := Aside0.mk (fun W W' (h : Pz W (w.heap.size + 1 + 1 + 1) w.heap.size (w.heap.size + 1) (w.heap.size + 1 + 1) 1000000000 tabS.m tabS.dn tabS.up tabS.sec) (hb' : Below W.heap.size W W') => excl_calls (h.after hb').ps z hzw)
        rw [downV_two hz1 hz3] at HDz
        rw [hz2] at HXz
        rw [hu] at HUab
        clear hu hz1 hz2 hz3 hzw
        go_enter Try.func4, Try.ntmps4
        go_wp2_with (first
          | (go_at_call 7; refine HN.out.mono ?_; rintro e w1 ⟨rfl, hz⟩; have HZ := Aside0.mk hz; have HB := Aside0.mk (Below.refl w1.heap.size w1); clear hz)
          | (go_at_call 12; (with_reducible refine (HDr.out _ _ HZ.out.1 HB.out).mono ?_); rintro e w2 ⟨rfl, hb2⟩; have HB := Aside0.mk (below_then HB.out HB.out.size hb2); clear hb2)
          | (go_at_call 10; (with_reducible refine (HUab.out _ _ HZ.out.1 HB.out).mono ?_); rintro e w2 ⟨rfl, hb2⟩; have HB := Aside0.mk (below_then HB.out HB.out.size hb2); clear hb2)
          | (go_at_call 12; (with_reducible refine (HDz.out _ _ HZ.out.1 HB.out).mono ?_); rintro e w2 ⟨rfl, hb2⟩; have HB := Aside0.mk (below_then HB.out HB.out.size hb2); clear hb2)
          | (go_at_call 13; (with_reducible refine (HXz.out _ _ HZ.out.1 HB.out).mono ?_); rintro e w2 ⟨rfl, hb2⟩; have HB := Aside0.mk (below_then HB.out HB.out.size hb2); clear hb2)
          | (go_at_call 8; (with_reducible refine (HA.out _ _ HZ.out.1 HB.out).mono ?_); rintro e w2 ⟨rfl, hb2⟩; have HB := Aside0.mk (below_then HB.out HB.out.size hb2); clear hb2))
        go_ret
        exact ⟨rfl, below_then HZ.out.2 HZ.out.2.size HB.out⟩
    · rw [downV_two hd hy] at HDr
      cases hx : exclV tabS.dn r with
      | true =>
        rw [hx] at HXr
        clear hd hx hy
        cases hu : tabS.up a b with
        | none =>
          rw [hu] at HUab
          clear hu
          go_enter Try.func4, Try.ntmps4
          go_wp2_with (first
            | (go_at_call 7; refine HN.out.mono ?_; rintro e w1 ⟨rfl, hz⟩; have HZ := Aside0.mk hz; have HB := Aside0.mk (Below.refl w1.heap.size w1); clear hz)
            | (go_at_call 12; (with_reducible refine (HDr.out _ _ HZ.out.1 HB.out).mono ?_); rintro e w2 ⟨rfl, hb2⟩; have HB := Aside0.mk (below_then HB.out HB.out.size hb2); clear hb2)
            | (go_at_call 13; (with_reducible refine (HXr.out _ _ HZ.out.1 HB.out).mono ?_); rintro e w2 ⟨rfl, hb2⟩; have HB := Aside0.mk (below_then HB.out HB.out.size hb2); clear hb2)
            | (go_at_call 10; (with_reducible refine (HUab.out _ _ HZ.out.1 HB.out).mono ?_); rintro e w2 ⟨rfl, hb2⟩; have HB := Aside0.mk (below_then HB.out HB.out.size hb2); clear hb2)
            | (go_at_call 8; (with_reducible refine (HA.out _ _ HZ.out.1 HB.out).mono ?_); rintro e w2 ⟨rfl, hb2⟩; have HB := Aside0.mk (below_then HB.out HB.out.size hb2); clear hb2))
          go_ret
          exact ⟨rfl, below_then HZ.out.2 HZ.out.2.size HB.out⟩
        | some z =>
          obtain ⟨hz1, hz2, hz3⟩ := back_dn hu
          have hzw := wf_rng (up_rng hu)
          have HDz := Aside0.mk (fun W W' (h : Pz W (w.heap.size + 1 + 1 + 1) w.heap.size (w.heap.size + 1) (w.heap.size + 1 + 1) 1000000000 tabS.m tabS.dn tabS.up tabS.sec) (hb' : Below W.heap.size W W') => down_calls (h.after hb').ps z hzw)
          have HXz := Aside0.mk (fun W W' (h : Pz W (w.heap.size + 1 + 1 + 1) w.heap.size (w.heap.size + 1) (w.heap.size + 1 + 1) 1000000000 tabS.m tabS.dn tabS.up tabS.sec) (hb' : Below W.heap.size W W') => excl_calls (h.after hb').ps z hzw)
          rw [downV_two hz1 hz3] at HDz
          rw [hz2] at HXz
          rw [hu] at HUab
          clear hu hz1 hz2 hz3 hzw
          go_enter Try.func4, Try.ntmps4
          go_wp2_with (first
            | (go_at_call 7; refine HN.out.mono ?_; rintro e w1 ⟨rfl, hz⟩; have HZ := Aside0.mk hz; have HB := Aside0.mk (Below.refl w1.heap.size w1); clear hz)
            | (go_at_call 12; (with_reducible refine (HDr.out _ _ HZ.out.1 HB.out).mono ?_); rintro e w2 ⟨rfl, hb2⟩; have HB := Aside0.mk (below_then HB.out HB.out.size hb2); clear hb2)
            | (go_at_call 13; (with_reducible refine (HXr.out _ _ HZ.out.1 HB.out).mono ?_); rintro e w2 ⟨rfl, hb2⟩; have HB := Aside0.mk (below_then HB.out HB.out.size hb2); clear hb2)
            | (go_at_call 10; (with_reducible refine (HUab.out _ _ HZ.out.1 HB.out).mono ?_); rintro e w2 ⟨rfl, hb2⟩; have HB := Aside0.mk (below_then HB.out HB.out.size hb2); clear hb2)
            | (go_at_call 12; (with_reducible refine (HDz.out _ _ HZ.out.1 HB.out).mono ?_); rintro e w2 ⟨rfl, hb2⟩; have HB := Aside0.mk (below_then HB.out HB.out.size hb2); clear hb2)
            | (go_at_call 13; (with_reducible refine (HXz.out _ _ HZ.out.1 HB.out).mono ?_); rintro e w2 ⟨rfl, hb2⟩; have HB := Aside0.mk (below_then HB.out HB.out.size hb2); clear hb2)
            | (go_at_call 8; (with_reducible refine (HA.out _ _ HZ.out.1 HB.out).mono ?_); rintro e w2 ⟨rfl, hb2⟩; have HB := Aside0.mk (below_then HB.out HB.out.size hb2); clear hb2))
          go_ret
          exact ⟨rfl, below_then HZ.out.2 HZ.out.2.size HB.out⟩
      | false =>
        have hq := back_up hd hx
        have hq1 := wf_rng (dn_rng hd).1
        have hq2 := wf_rng (dn_rng hd).2
        have HUxy := Aside0.mk (fun W W' (h : Pz W (w.heap.size + 1 + 1 + 1) w.heap.size (w.heap.size + 1) (w.heap.size + 1 + 1) 1000000000 tabS.m tabS.dn tabS.up tabS.sec) (hb' : Below W.heap.size W W') => up_calls (h.after hb').ps x y hq1 hq2)
        rw [hq] at HUxy
        rw [hx] at HXr
        clear hd hx hy hq hq1 hq2
        cases hu : tabS.up a b with
        | none =>
          rw [hu] at HUab
          clear hu
          go_enter Try.func4, Try.ntmps4
          go_wp2_with (first
            | (go_at_call 7; refine HN.out.mono ?_; rintro e w1 ⟨rfl, hz⟩; have HZ := Aside0.mk hz; have HB := Aside0.mk (Below.refl w1.heap.size w1); clear hz)
            | (go_at_call 12; (with_reducible refine (HDr.out _ _ HZ.out.1 HB.out).mono ?_); rintro e w2 ⟨rfl, hb2⟩; have HB := Aside0.mk (below_then HB.out HB.out.size hb2); clear hb2)
            | (go_at_call 13; (with_reducible refine (HXr.out _ _ HZ.out.1 HB.out).mono ?_); rintro e w2 ⟨rfl, hb2⟩; have HB := Aside0.mk (below_then HB.out HB.out.size hb2); clear hb2)
            | (go_at_call 10; (with_reducible refine (HUxy.out _ _ HZ.out.1 HB.out).mono ?_); rintro e w2 ⟨rfl, hb2⟩; have HB := Aside0.mk (below_then HB.out HB.out.size hb2); clear hb2)
            | (go_at_call 10; (with_reducible refine (HUab.out _ _ HZ.out.1 HB.out).mono ?_); rintro e w2 ⟨rfl, hb2⟩; have HB := Aside0.mk (below_then HB.out HB.out.size hb2); clear hb2)
            | (go_at_call 8; (with_reducible refine (HA.out _ _ HZ.out.1 HB.out).mono ?_); rintro e w2 ⟨rfl, hb2⟩; have HB := Aside0.mk (below_then HB.out HB.out.size hb2); clear hb2))
          go_ret
          exact ⟨rfl, below_then HZ.out.2 HZ.out.2.size HB.out⟩
        | some z =>
          obtain ⟨hz1, hz2, hz3⟩ := back_dn hu
          have hzw := wf_rng (up_rng hu)
          have HDz := Aside0.mk (fun W W' (h : Pz W (w.heap.size + 1 + 1 + 1) w.heap.size (w.heap.size + 1) (w.heap.size + 1 + 1) 1000000000 tabS.m tabS.dn tabS.up tabS.sec) (hb' : Below W.heap.size W W') => down_calls (h.after hb').ps z hzw)
          have HXz := Aside0.mk (fun W W' (h : Pz W (w.heap.size + 1 + 1 + 1) w.heap.size (w.heap.size + 1) (w.heap.size + 1 + 1) 1000000000 tabS.m tabS.dn tabS.up tabS.sec) (hb' : Below W.heap.size W W') => excl_calls (h.after hb').ps z hzw)
          rw [downV_two hz1 hz3] at HDz
          rw [hz2] at HXz
          rw [hu] at HUab
          clear hu hz1 hz2 hz3 hzw
          go_enter Try.func4, Try.ntmps4
          go_wp2_with (first
            | (go_at_call 7; refine HN.out.mono ?_; rintro e w1 ⟨rfl, hz⟩; have HZ := Aside0.mk hz; have HB := Aside0.mk (Below.refl w1.heap.size w1); clear hz)
            | (go_at_call 12; (with_reducible refine (HDr.out _ _ HZ.out.1 HB.out).mono ?_); rintro e w2 ⟨rfl, hb2⟩; have HB := Aside0.mk (below_then HB.out HB.out.size hb2); clear hb2)
            | (go_at_call 13; (with_reducible refine (HXr.out _ _ HZ.out.1 HB.out).mono ?_); rintro e w2 ⟨rfl, hb2⟩; have HB := Aside0.mk (below_then HB.out HB.out.size hb2); clear hb2)
            | (go_at_call 10; (with_reducible refine (HUxy.out _ _ HZ.out.1 HB.out).mono ?_); rintro e w2 ⟨rfl, hb2⟩; have HB := Aside0.mk (below_then HB.out HB.out.size hb2); clear hb2)
            | (go_at_call 10; (with_reducible refine (HUab.out _ _ HZ.out.1 HB.out).mono ?_); rintro e w2 ⟨rfl, hb2⟩; have HB := Aside0.mk (below_then HB.out HB.out.size hb2); clear hb2)
            | (go_at_call 12; (with_reducible refine (HDz.out _ _ HZ.out.1 HB.out).mono ?_); rintro e w2 ⟨rfl, hb2⟩; have HB := Aside0.mk (below_then HB.out HB.out.size hb2); clear hb2)
            | (go_at_call 13; (with_reducible refine (HXz.out _ _ HZ.out.1 HB.out).mono ?_); rintro e w2 ⟨rfl, hb2⟩; have HB := Aside0.mk (below_then HB.out HB.out.size hb2); clear hb2)
            | (go_at_call 8; (with_reducible refine (HA.out _ _ HZ.out.1 HB.out).mono ?_); rintro e w2 ⟨rfl, hb2⟩; have HB := Aside0.mk (below_then HB.out HB.out.size hb2); clear hb2))
          go_ret
          exact ⟨rfl, below_then HZ.out.2 HZ.out.2.size HB.out⟩
end Go.Proofs.Ytejkfochijgkdaa.Pr
