/- The document's tables, one function after the other. -/
import Derived.Test.YtejkfochijgkdaaPt0
namespace Go.Proofs.Ytejkfochijgkdaa.Pt
open Go.RowKit Go.Proofs.YtejkfochijgkdaaW.PrintWords Go.Proofs.YtejkfochijgkdaaW.PrintLast Go.Proofs.YtejkfochijgkdaaW.PrintMore
set_option maxRecDepth 1000000 in
set_option maxHeartbeats 4000000 in
theorem pairs4_calls (w : World) : Calls Try.prog 29 #[] w fun e w' => e = .returned (.slice (some ⟨w.heap.size, 0, none⟩) 60 60) ∧ w' = w.alloc (.cells (fl (tabOf Try.f29)).toArray 53) := by
  refine calls_of_wp Try.func29 rfl ?_
  apply wp_seq_k
  intro K1 hK1
  apply wp_region_lit
  refine Kd.event_run rfl (v := .slice none 0 0) (w1 := w) (by kernel_rfl) (wpList_nil (hK1 _ _ ?_))
  apply wp_seq_k
  intro K2 hK2
  apply wp_region_lit
  iterate 60 (refine build_step ?_)
  refine Kd.event_run rfl (v := .slice (some ⟨w.heap.size, 0, none⟩) 60 60) (w1 := w.alloc (.cells (fl (tabOf Try.f29)).toArray 53)) (by kernel_rfl) ?_
  refine Kd.event_run rfl (v := .slice (some ⟨w.heap.size, 0, none⟩) 60 60) (w1 := w.alloc (.cells (fl (tabOf Try.f29)).toArray 53)) (by kernel_rfl) (wpList_nil (hK2 _ _ ?_))
  apply wp_ret
  refine bodyPost_ret (v := .slice (some ⟨w.heap.size, 0, none⟩) 60 60) (by kernel_rfl) (by kernel_rfl) ?_
  exact ⟨rfl, rfl⟩
set_option maxRecDepth 1000000 in
set_option maxHeartbeats 4000000 in
theorem pairs5_calls (w : World) : Calls Try.prog 30 #[] w fun e w' => e = .returned (.slice (some ⟨w.heap.size, 0, none⟩) 59 59) ∧ w' = w.alloc (.cells (fl (tabOf Try.f30)).toArray 53) := by
  refine calls_of_wp Try.func30 rfl ?_
  apply wp_seq_k
  intro K1 hK1
  apply wp_region_lit
  refine Kd.event_run rfl (v := .slice none 0 0) (w1 := w) (by kernel_rfl) (wpList_nil (hK1 _ _ ?_))
  apply wp_seq_k
  intro K2 hK2
  apply wp_region_lit
  iterate 59 (refine build_step ?_)
  refine Kd.event_run rfl (v := .slice (some ⟨w.heap.size, 0, none⟩) 59 59) (w1 := w.alloc (.cells (fl (tabOf Try.f30)).toArray 53)) (by kernel_rfl) ?_
  refine Kd.event_run rfl (v := .slice (some ⟨w.heap.size, 0, none⟩) 59 59) (w1 := w.alloc (.cells (fl (tabOf Try.f30)).toArray 53)) (by kernel_rfl) (wpList_nil (hK2 _ _ ?_))
  apply wp_ret
  refine bodyPost_ret (v := .slice (some ⟨w.heap.size, 0, none⟩) 59 59) (by kernel_rfl) (by kernel_rfl) ?_
  exact ⟨rfl, rfl⟩
set_option maxRecDepth 1000000 in
set_option maxHeartbeats 4000000 in
theorem pairs6_calls (w : World) : Calls Try.prog 31 #[] w fun e w' => e = .returned (.slice (some ⟨w.heap.size, 0, none⟩) 26 26) ∧ w' = w.alloc (.cells (fl (tabOf Try.f31)).toArray 53) := by
  refine calls_of_wp Try.func31 rfl ?_
  apply wp_seq_k
  intro K1 hK1
  apply wp_region_lit
  refine Kd.event_run rfl (v := .slice none 0 0) (w1 := w) (by kernel_rfl) (wpList_nil (hK1 _ _ ?_))
  apply wp_seq_k
  intro K2 hK2
  apply wp_region_lit
  iterate 26 (refine build_step ?_)
  refine Kd.event_run rfl (v := .slice (some ⟨w.heap.size, 0, none⟩) 26 26) (w1 := w.alloc (.cells (fl (tabOf Try.f31)).toArray 53)) (by kernel_rfl) ?_
  refine Kd.event_run rfl (v := .slice (some ⟨w.heap.size, 0, none⟩) 26 26) (w1 := w.alloc (.cells (fl (tabOf Try.f31)).toArray 53)) (by kernel_rfl) (wpList_nil (hK2 _ _ ?_))
  apply wp_ret
  refine bodyPost_ret (v := .slice (some ⟨w.heap.size, 0, none⟩) 26 26) (by kernel_rfl) (by kernel_rfl) ?_
  exact ⟨rfl, rfl⟩
end Go.Proofs.Ytejkfochijgkdaa.Pt
