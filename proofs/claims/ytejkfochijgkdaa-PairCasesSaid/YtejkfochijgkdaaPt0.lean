/- The document's tables, one function after the other. -/
import Derived.Test.YtejkfochijgkdaaPt
namespace Go.Proofs.Ytejkfochijgkdaa.Pt
open Go.RowKit Go.Proofs.YtejkfochijgkdaaW.PrintWords Go.Proofs.YtejkfochijgkdaaW.PrintLast Go.Proofs.YtejkfochijgkdaaW.PrintMore
theorem build_step {ops : Array Oper} {rest : List Oper} {a : Act} {Q : Exit → Act → World → Prop} {W : World} {d : Option Tmp} {ty : TypeId} {p : String} {af : Array Edge} {x y z : Int}
    (h : wpList Try.prog ops Q rest (a.put d (.agg #[.int .i64 x, .int .i64 y, .int .i64 z])) W) :
    wpList Try.prog ops Q ({ dst := d, op := .build 53 #[(0, .const (.int .i64 x)), (1, .const (.int .i64 y)), (2, .const (.int .i64 z))], type := ty, pos := p, after := af, guard := none } :: rest) a W :=
  Kd.event_run rfl (by kernel_rfl) h
set_option maxRecDepth 1000000 in
set_option maxHeartbeats 4000000 in
theorem singles_calls (w : World) : Calls Try.prog 24 #[] w fun e w' => e = .returned (.slice (some ⟨w.heap.size, 0, none⟩) 10 10) ∧ w' = w.alloc (.cells (fl (tabOf Try.f24)).toArray 53) := by
  refine calls_of_wp Try.func24 rfl ?_
  apply wp_seq_k
  intro K1 hK1
  apply wp_region_lit
  refine Kd.event_run rfl (v := .slice none 0 0) (w1 := w) (by kernel_rfl) (wpList_nil (hK1 _ _ ?_))
  apply wp_seq_k
  intro K2 hK2
  apply wp_region_lit
  iterate 10 (refine build_step ?_)
  refine Kd.event_run rfl (v := .slice (some ⟨w.heap.size, 0, none⟩) 10 10) (w1 := w.alloc (.cells (fl (tabOf Try.f24)).toArray 53)) (by kernel_rfl) ?_
  refine Kd.event_run rfl (v := .slice (some ⟨w.heap.size, 0, none⟩) 10 10) (w1 := w.alloc (.cells (fl (tabOf Try.f24)).toArray 53)) (by kernel_rfl) (wpList_nil (hK2 _ _ ?_))
  apply wp_ret
  refine bodyPost_ret (v := .slice (some ⟨w.heap.size, 0, none⟩) 10 10) (by kernel_rfl) (by kernel_rfl) ?_
  exact ⟨rfl, rfl⟩
set_option maxRecDepth 1000000 in
set_option maxHeartbeats 4000000 in
theorem pairs0_calls (w : World) : Calls Try.prog 25 #[] w fun e w' => e = .returned (.slice (some ⟨w.heap.size, 0, none⟩) 60 60) ∧ w' = w.alloc (.cells (fl (tabOf Try.f25)).toArray 53) := by
  refine calls_of_wp Try.func25 rfl ?_
  apply wp_seq_k
  intro K1 hK1
  apply wp_region_lit
  refine Kd.event_run rfl (v := .slice none 0 0) (w1 := w) (by kernel_rfl) (wpList_nil (hK1 _ _ ?_))
  apply wp_seq_k
  intro K2 hK2
  apply wp_region_lit
  iterate 60 (refine build_step ?_)
  refine Kd.event_run rfl (v := .slice (some ⟨w.heap.size, 0, none⟩) 60 60) (w1 := w.alloc (.cells (fl (tabOf Try.f25)).toArray 53)) (by kernel_rfl) ?_
  refine Kd.event_run rfl (v := .slice (some ⟨w.heap.size, 0, none⟩) 60 60) (w1 := w.alloc (.cells (fl (tabOf Try.f25)).toArray 53)) (by kernel_rfl) (wpList_nil (hK2 _ _ ?_))
  apply wp_ret
  refine bodyPost_ret (v := .slice (some ⟨w.heap.size, 0, none⟩) 60 60) (by kernel_rfl) (by kernel_rfl) ?_
  exact ⟨rfl, rfl⟩
set_option maxRecDepth 1000000 in
set_option maxHeartbeats 4000000 in
theorem pairs1_calls (w : World) : Calls Try.prog 26 #[] w fun e w' => e = .returned (.slice (some ⟨w.heap.size, 0, none⟩) 60 60) ∧ w' = w.alloc (.cells (fl (tabOf Try.f26)).toArray 53) := by
  refine calls_of_wp Try.func26 rfl ?_
  apply wp_seq_k
  intro K1 hK1
  apply wp_region_lit
  refine Kd.event_run rfl (v := .slice none 0 0) (w1 := w) (by kernel_rfl) (wpList_nil (hK1 _ _ ?_))
  apply wp_seq_k
  intro K2 hK2
  apply wp_region_lit
  iterate 60 (refine build_step ?_)
  refine Kd.event_run rfl (v := .slice (some ⟨w.heap.size, 0, none⟩) 60 60) (w1 := w.alloc (.cells (fl (tabOf Try.f26)).toArray 53)) (by kernel_rfl) ?_
  refine Kd.event_run rfl (v := .slice (some ⟨w.heap.size, 0, none⟩) 60 60) (w1 := w.alloc (.cells (fl (tabOf Try.f26)).toArray 53)) (by kernel_rfl) (wpList_nil (hK2 _ _ ?_))
  apply wp_ret
  refine bodyPost_ret (v := .slice (some ⟨w.heap.size, 0, none⟩) 60 60) (by kernel_rfl) (by kernel_rfl) ?_
  exact ⟨rfl, rfl⟩
set_option maxRecDepth 1000000 in
set_option maxHeartbeats 4000000 in
theorem pairs2_calls (w : World) : Calls Try.prog 27 #[] w fun e w' => e = .returned (.slice (some ⟨w.heap.size, 0, none⟩) 60 60) ∧ w' = w.alloc (.cells (fl (tabOf Try.f27)).toArray 53) := by
  refine calls_of_wp Try.func27 rfl ?_
  apply wp_seq_k
  intro K1 hK1
  apply wp_region_lit
  refine Kd.event_run rfl (v := .slice none 0 0) (w1 := w) (by kernel_rfl) (wpList_nil (hK1 _ _ ?_))
  apply wp_seq_k
  intro K2 hK2
  apply wp_region_lit
  iterate 60 (refine build_step ?_)
  refine Kd.event_run rfl (v := .slice (some ⟨w.heap.size, 0, none⟩) 60 60) (w1 := w.alloc (.cells (fl (tabOf Try.f27)).toArray 53)) (by kernel_rfl) ?_
  refine Kd.event_run rfl (v := .slice (some ⟨w.heap.size, 0, none⟩) 60 60) (w1 := w.alloc (.cells (fl (tabOf Try.f27)).toArray 53)) (by kernel_rfl) (wpList_nil (hK2 _ _ ?_))
  apply wp_ret
  refine bodyPost_ret (v := .slice (some ⟨w.heap.size, 0, none⟩) 60 60) (by kernel_rfl) (by kernel_rfl) ?_
  exact ⟨rfl, rfl⟩
set_option maxRecDepth 1000000 in
set_option maxHeartbeats 4000000 in
theorem pairs3_calls (w : World) : Calls Try.prog 28 #[] w fun e w' => e = .returned (.slice (some ⟨w.heap.size, 0, none⟩) 60 60) ∧ w' = w.alloc (.cells (fl (tabOf Try.f28)).toArray 53) := by
  refine calls_of_wp Try.func28 rfl ?_
  apply wp_seq_k
  intro K1 hK1
  apply wp_region_lit
  refine Kd.event_run rfl (v := .slice none 0 0) (w1 := w) (by kernel_rfl) (wpList_nil (hK1 _ _ ?_))
  apply wp_seq_k
  intro K2 hK2
  apply wp_region_lit
  iterate 60 (refine build_step ?_)
  refine Kd.event_run rfl (v := .slice (some ⟨w.heap.size, 0, none⟩) 60 60) (w1 := w.alloc (.cells (fl (tabOf Try.f28)).toArray 53)) (by kernel_rfl) ?_
  refine Kd.event_run rfl (v := .slice (some ⟨w.heap.size, 0, none⟩) 60 60) (w1 := w.alloc (.cells (fl (tabOf Try.f28)).toArray 53)) (by kernel_rfl) (wpList_nil (hK2 _ _ ?_))
  apply wp_ret
  refine bodyPost_ret (v := .slice (some ⟨w.heap.size, 0, none⟩) 60 60) (by kernel_rfl) (by kernel_rfl) ?_
  exact ⟨rfl, rfl⟩
end Go.Proofs.Ytejkfochijgkdaa.Pt
