/- Walks: apply of package finite. -/
import Derived.Test.YtfdbkocpljiehaaWf
import Derived.Test.YtfdbkocpljiehaaWt
import Derived.Deep.RegionHeld3
set_option linter.unusedSimpArgs false
set_option linter.unusedVariables false
namespace Go.Proofs.Ytfdbkocpljiehaa
open Go.RowKit
theorem ba_h {B : Nat} {a w : World} (h : Below B a w) (hs : B ≤ a.heap.size) (o : Obj) : Below B a (w.alloc o) := h.alloc (Nat.le_trans hs h.size) o

set_option maxRecDepth 100000 in
set_option maxHeartbeats 4000000 in
theorem apply39 (a0 a1 a2 a3 a4 a5 a6 a7 a8 x y z p : Int) (h : 2 ≤ p) (h' : p ≤ 13) (b0 : 0 ≤ a0 ∧ a0 ≤ 12) (b1 : 0 ≤ a1 ∧ a1 ≤ 12) (b2 : 0 ≤ a2 ∧ a2 ≤ 12) (b3 : 0 ≤ a3 ∧ a3 ≤ 12) (b4 : 0 ≤ a4 ∧ a4 ≤ 12) (b5 : 0 ≤ a5 ∧ a5 ≤ 12) (b6 : 0 ≤ a6 ∧ a6 ≤ 12) (b7 : 0 ≤ a7 ∧ a7 ≤ 12) (b8 : 0 ≤ a8 ∧ a8 ≤ 12) (bx : 0 ≤ x ∧ x ≤ 12) (by' : 0 ≤ y ∧ y ≤ 12) (bz : 0 ≤ z ∧ z ≤ 12) (w : World) :
    Calls Try.prog 39 #[.agg #[.int .i64 a0, .int .i64 a1, .int .i64 a2, .int .i64 a3, .int .i64 a4, .int .i64 a5, .int .i64 a6, .int .i64 a7, .int .i64 a8], .agg #[.int .i64 x, .int .i64 y, .int .i64 z], .int .i64 p] w fun e w' =>
      e = .returned (.agg #[.int .i64 ((a0 * x + a1 * y + a2 * z) % p), .int .i64 ((a3 * x + a4 * y + a5 * z) % p), .int .i64 ((a6 * x + a7 * y + a8 * z) % p)]) ∧ Below w.heap.size w w' := by
  have e0 : IntKind.i64.wrap 0 = 0 := by decide
  have e1 : IntKind.i64.wrap 1 = 1 := by decide
  have e2 : IntKind.i64.wrap 2 = 2 := by decide
  have e3 : IntKind.i64.wrap 3 = 3 := by decide
  have e4 : IntKind.i64.wrap 4 = 4 := by decide
  have e5 : IntKind.i64.wrap 5 = 5 := by decide
  have e6 : IntKind.i64.wrap 6 = 6 := by decide
  have e7 : IntKind.i64.wrap 7 = 7 := by decide
  have e8 : IntKind.i64.wrap 8 = 8 := by decide
  go_enter Try.func39, Try.ntmps39
  go_wp2
  refine wp_loop_rounds 4 ?_
  rw [rounds_succ]
  go_wp2_with fail
  refine wp_region_T (Below (w.heap.size + 2) (((w.alloc (.cells #[.int .i64 a0, .int .i64 a1, .int .i64 a2, .int .i64 a3, .int .i64 a4, .int .i64 a5, .int .i64 a6, .int .i64 a7, .int .i64 a8] 29)).alloc (.cells #[.int .i64 x, .int .i64 y, .int .i64 z] 27)))) 20 (by kernel_rfl) ?_ ?_
  · exact Below.drew (ba_h (ba_h (Below.refl _ _) (by simp) _) (by simp) _)
  intro HS
  refine wpT_takeP 0 (v := ?_) rfl (by kernel_rfl) (fun _ _ _ h => h) (by rfl) ?_ ?_ ?_
  rotate_left
  · (intro W; go_simp; first | done | with_reducible rfl)
  · (first | (intro _; with_reducible assumption) | (intro h0; cases h0))
  try simp only [Act.put, List.setIfInBounds_toArray, List.set_cons_zero, List.set_cons_succ]
  refine wpT_takeP 1 (v := ?_) rfl (by kernel_rfl) (fun _ _ _ h => h) (by rfl) ?_ ?_ ?_
  rotate_left
  · (intro W; go_simp; first | done | with_reducible rfl)
  · (first | (intro _; with_reducible assumption) | (intro h0; cases h0))
  try simp only [Act.put, List.setIfInBounds_toArray, List.set_cons_zero, List.set_cons_succ]
  refine wpT_takeP 2 (v := ?_) rfl (by kernel_rfl) (fun _ _ _ h => h) (by rfl) ?_ ?_ ?_
  rotate_left
  · (intro W; go_simp; first | done | with_reducible rfl)
  · (first | (intro _; with_reducible assumption) | (intro h0; cases h0))
  try simp only [Act.put, List.setIfInBounds_toArray, List.set_cons_zero, List.set_cons_succ]
  refine wpT_takeP 3 (v := ?_) rfl (by kernel_rfl) (fun _ _ _ h => h) (by rfl) ?_ ?_ ?_
  rotate_left
  · (intro W; go_simp; first | done | with_reducible rfl)
  · (first | (intro _; with_reducible assumption) | (intro h0; cases h0))
  try simp only [Act.put, List.setIfInBounds_toArray, List.set_cons_zero, List.set_cons_succ]
  refine wpT_takeP 5 (v := ?_) rfl (by kernel_rfl) (fun _ _ _ h => h) (by rfl) ?_ ?_ ?_
  rotate_left
  · (intro W; go_simp; first | done | with_reducible rfl)
  · (first | (intro _; with_reducible assumption) | (intro h0; cases h0))
  try simp only [Act.put, List.setIfInBounds_toArray, List.set_cons_zero, List.set_cons_succ]
  refine wpT_takeP 6 (v := ?_) rfl (by kernel_rfl) (fun _ _ _ h => h) (by rfl) ?_ ?_ ?_
  rotate_left
  · (intro W; go_simp; first | done | with_reducible rfl)
  · (first | (intro _; with_reducible assumption) | (intro h0; cases h0))
  try simp only [Act.put, List.setIfInBounds_toArray, List.set_cons_zero, List.set_cons_succ]
  refine wpT_takeP 7 (v := ?_) rfl (by kernel_rfl) (fun _ _ _ h => h) (by rfl) ?_ ?_ ?_
  rotate_left
  · (intro W; go_simp; first | done | with_reducible rfl)
  · (first | (intro _; with_reducible assumption) | (intro h0; cases h0))
  try simp only [Act.put, List.setIfInBounds_toArray, List.set_cons_zero, List.set_cons_succ]
  refine wpT_takeP 8 (v := ?_) rfl (by kernel_rfl) (fun _ _ _ h => h) (by rfl) ?_ ?_ ?_
  rotate_left
  · (intro W; go_simp; first | done | with_reducible rfl)
  · (first | (intro _; with_reducible assumption) | (intro h0; cases h0))
  try simp only [Act.put, List.setIfInBounds_toArray, List.set_cons_zero, List.set_cons_succ]
  refine wpT_takeP 10 (v := ?_) rfl (by kernel_rfl) (fun _ _ _ h => h) (by rfl) ?_ ?_ ?_
  rotate_left
  · (intro W; go_simp; first | done | with_reducible rfl)
  · (first | (intro _; with_reducible assumption) | (intro h0; cases h0))
  try simp only [Act.put, List.setIfInBounds_toArray, List.set_cons_zero, List.set_cons_succ]
  refine wpT_takeP 11 (v := ?_) rfl (by kernel_rfl) (fun _ _ _ h => h) (by rfl) ?_ ?_ ?_
  rotate_left
  · (intro W; go_simp; first | done | with_reducible rfl)
  · (first | (intro _; with_reducible assumption) | (intro h0; cases h0))
  try simp only [Act.put, List.setIfInBounds_toArray, List.set_cons_zero, List.set_cons_succ]
  refine wpT_takeP 12 (v := ?_) rfl (by kernel_rfl) (fun _ _ _ h => h) (by rfl) ?_ ?_ ?_
  rotate_left
  · (intro W; go_simp; first | done | with_reducible rfl)
  · (first | (intro _; with_reducible assumption) | (intro h0; cases h0))
  try simp only [Act.put, List.setIfInBounds_toArray, List.set_cons_zero, List.set_cons_succ]
  refine wpT_takeP 13 (v := ?_) rfl (by kernel_rfl) (fun _ _ _ h => h) (by rfl) ?_ ?_ ?_
  rotate_left
  · (intro W; go_simp; first | done | with_reducible rfl)
  · (first | (intro _; with_reducible assumption) | (intro h0; cases h0))
  try simp only [Act.put, List.setIfInBounds_toArray, List.set_cons_zero, List.set_cons_succ]
  refine wpT_takeP 17 (v := ?_) rfl (by kernel_rfl) (fun _ _ _ h => h) (by rfl) ?_ ?_ ?_
  rotate_left
  · (intro W; go_simp; first | done | with_reducible rfl)
  · (first | (intro _; with_reducible assumption) | (intro h0; cases h0))
  try simp only [Act.put, List.setIfInBounds_toArray, List.set_cons_zero, List.set_cons_succ]
  refine wpT_take 4 30 (v := ?_) rfl (by kernel_rfl) (fun _ _ _ h => h) (by rfl) ?_ HS ?_
  rotate_left
  · (intro W hW; have hq0 := fun o => hW.cell (p := ⟨w.heap.size, o, none⟩) (by simp); have hq1 := fun o => hW.cell (p := ⟨w.heap.size + 1, o, none⟩) (by simp); go_simp; first | done | with_reducible rfl)
  try simp only [Act.put, List.setIfInBounds_toArray, List.set_cons_zero, List.set_cons_succ]
  refine wpT_take 9 30 (v := ?_) rfl (by kernel_rfl) (fun _ _ _ h => h) (by rfl) ?_ HS ?_
  rotate_left
  · (intro W hW; have hq0 := fun o => hW.cell (p := ⟨w.heap.size, o, none⟩) (by simp); have hq1 := fun o => hW.cell (p := ⟨w.heap.size + 1, o, none⟩) (by simp); go_simp; first | done | with_reducible rfl)
  try simp only [Act.put, List.setIfInBounds_toArray, List.set_cons_zero, List.set_cons_succ]
  refine wpT_take 14 30 (v := ?_) rfl (by kernel_rfl) (fun _ _ _ h => h) (by rfl) ?_ HS ?_
  rotate_left
  · (intro W hW; have hq0 := fun o => hW.cell (p := ⟨w.heap.size, o, none⟩) (by simp); have hq1 := fun o => hW.cell (p := ⟨w.heap.size + 1, o, none⟩) (by simp); go_simp; first | done | with_reducible rfl)
  try simp only [Act.put, List.setIfInBounds_toArray, List.set_cons_zero, List.set_cons_succ]
  refine wpT_take 16 30 (v := ?_) rfl (by kernel_rfl) (fun _ _ _ h => h) (by rfl) ?_ HS ?_
  rotate_left
  · (intro W hW; have hq0 := fun o => hW.cell (p := ⟨w.heap.size, o, none⟩) (by simp); have hq1 := fun o => hW.cell (p := ⟨w.heap.size + 1, o, none⟩) (by simp); go_simp; first | done | with_reducible rfl)
  try simp only [Act.put, List.setIfInBounds_toArray, List.set_cons_zero, List.set_cons_succ]
  refine wpT_takeP 15 (v := ?_) rfl (by kernel_rfl) (fun _ _ _ h => h) (by rfl) ?_ ?_ ?_
  rotate_left
  · (intro W; go_simp; first | done | with_reducible rfl)
  · (first | (intro _; with_reducible assumption) | (intro h0; cases h0))
  try simp only [Act.put, List.setIfInBounds_toArray, List.set_cons_zero, List.set_cons_succ]
  refine wpT_one 18 (by kernel_rfl) rfl (fun K hK => ?_)
  go_simp
  refine (dot40 _ _ _ _ _ _ _ h h' (by omega) (by omega) (by omega) (by omega) (by omega) (by omega) _).mono ?_
  rintro e w1 ⟨rfl, hb1⟩
  obtain ⟨hc1, hf1⟩ := bcell (hb1.mono (show w.heap.size + 4 ≤ _ by have := HS.size; simp <;> omega))
  have hs1 : w.heap.size + 4 ≤ w1.heap.size := by have := hb1.size; simp at this; omega
  replace HS := Below.trans HS (hb1.mono (by have := HS.size; simp at this ⊢ <;> omega))
  refine hK.out _ _ ?_ ?_
  · (first | (intro _; with_reducible assumption) | (intro h0; cases h0))
  clear hK K
  try simp only [Act.put, List.setIfInBounds_toArray, List.set_cons_zero, List.set_cons_succ]
  refine wpT_takeP 19 (v := ?_) rfl (by kernel_rfl) (fun _ _ _ h => h) (by rfl) ?_ ?_ ?_
  rotate_left
  · (intro W; go_simp; first | done | with_reducible rfl)
  · (first | (intro _; with_reducible assumption) | (intro h0; cases h0))
  try simp only [Act.put, List.setIfInBounds_toArray, List.set_cons_zero, List.set_cons_succ]
  refine wpT_one 20 (by kernel_rfl) rfl (fun K hK => ?_)
  go_simp
  refine hK.out _ _ ?_ ?_
  · (intro h0; cases h0)
  clear hK K
  try simp only [Act.put, List.setIfInBounds_toArray, List.set_cons_zero, List.set_cons_succ]
  refine wpT_done (by kernel_rfl) ?_ _
  go_wp2_with fail
  rw [rounds_succ]
  go_wp2_with fail
  refine wp_region_T (Below (w.heap.size + 2) (((w.alloc (.cells #[.int .i64 a0, .int .i64 a1, .int .i64 a2, .int .i64 a3, .int .i64 a4, .int .i64 a5, .int .i64 a6, .int .i64 a7, .int .i64 a8] 29)).alloc (.cells #[.int .i64 x, .int .i64 y, .int .i64 z] 27)))) 20 (by kernel_rfl) ?_ ?_
  · exact Below.drew (HS.setCell (by simp) _)
  intro HS
  refine wpT_takeP 0 (v := ?_) rfl (by kernel_rfl) (fun _ _ _ h => h) (by rfl) ?_ ?_ ?_
  rotate_left
  · (intro W; go_simp; first | done | with_reducible rfl)
  · (first | (intro _; with_reducible assumption) | (intro h0; cases h0))
  try simp only [Act.put, List.setIfInBounds_toArray, List.set_cons_zero, List.set_cons_succ]
  refine wpT_takeP 1 (v := ?_) rfl (by kernel_rfl) (fun _ _ _ h => h) (by rfl) ?_ ?_ ?_
  rotate_left
  · (intro W; go_simp; first | done | with_reducible rfl)
  · (first | (intro _; with_reducible assumption) | (intro h0; cases h0))
  try simp only [Act.put, List.setIfInBounds_toArray, List.set_cons_zero, List.set_cons_succ]
  refine wpT_takeP 2 (v := ?_) rfl (by kernel_rfl) (fun _ _ _ h => h) (by rfl) ?_ ?_ ?_
  rotate_left
  · (intro W; go_simp; first | done | with_reducible rfl)
  · (first | (intro _; with_reducible assumption) | (intro h0; cases h0))
  try simp only [Act.put, List.setIfInBounds_toArray, List.set_cons_zero, List.set_cons_succ]
  refine wpT_takeP 3 (v := ?_) rfl (by kernel_rfl) (fun _ _ _ h => h) (by rfl) ?_ ?_ ?_
  rotate_left
  · (intro W; go_simp; first | done | with_reducible rfl)
  · (first | (intro _; with_reducible assumption) | (intro h0; cases h0))
  try simp only [Act.put, List.setIfInBounds_toArray, List.set_cons_zero, List.set_cons_succ]
  refine wpT_takeP 5 (v := ?_) rfl (by kernel_rfl) (fun _ _ _ h => h) (by rfl) ?_ ?_ ?_
  rotate_left
  · (intro W; go_simp; first | done | with_reducible rfl)
  · (first | (intro _; with_reducible assumption) | (intro h0; cases h0))
  try simp only [Act.put, List.setIfInBounds_toArray, List.set_cons_zero, List.set_cons_succ]
  refine wpT_takeP 6 (v := ?_) rfl (by kernel_rfl) (fun _ _ _ h => h) (by rfl) ?_ ?_ ?_
  rotate_left
  · (intro W; go_simp; first | done | with_reducible rfl)
  · (first | (intro _; with_reducible assumption) | (intro h0; cases h0))
  try simp only [Act.put, List.setIfInBounds_toArray, List.set_cons_zero, List.set_cons_succ]
  refine wpT_takeP 7 (v := ?_) rfl (by kernel_rfl) (fun _ _ _ h => h) (by rfl) ?_ ?_ ?_
  rotate_left
  · (intro W; go_simp; first | done | with_reducible rfl)
  · (first | (intro _; with_reducible assumption) | (intro h0; cases h0))
  try simp only [Act.put, List.setIfInBounds_toArray, List.set_cons_zero, List.set_cons_succ]
  refine wpT_takeP 8 (v := ?_) rfl (by kernel_rfl) (fun _ _ _ h => h) (by rfl) ?_ ?_ ?_
  rotate_left
  · (intro W; go_simp; first | done | with_reducible rfl)
  · (first | (intro _; with_reducible assumption) | (intro h0; cases h0))
  try simp only [Act.put, List.setIfInBounds_toArray, List.set_cons_zero, List.set_cons_succ]
  refine wpT_takeP 10 (v := ?_) rfl (by kernel_rfl) (fun _ _ _ h => h) (by rfl) ?_ ?_ ?_
  rotate_left
  · (intro W; go_simp; first | done | with_reducible rfl)
  · (first | (intro _; with_reducible assumption) | (intro h0; cases h0))
  try simp only [Act.put, List.setIfInBounds_toArray, List.set_cons_zero, List.set_cons_succ]
  refine wpT_takeP 11 (v := ?_) rfl (by kernel_rfl) (fun _ _ _ h => h) (by rfl) ?_ ?_ ?_
  rotate_left
  · (intro W; go_simp; first | done | with_reducible rfl)
  · (first | (intro _; with_reducible assumption) | (intro h0; cases h0))
  try simp only [Act.put, List.setIfInBounds_toArray, List.set_cons_zero, List.set_cons_succ]
  refine wpT_takeP 12 (v := ?_) rfl (by kernel_rfl) (fun _ _ _ h => h) (by rfl) ?_ ?_ ?_
  rotate_left
  · (intro W; go_simp; first | done | with_reducible rfl)
  · (first | (intro _; with_reducible assumption) | (intro h0; cases h0))
  try simp only [Act.put, List.setIfInBounds_toArray, List.set_cons_zero, List.set_cons_succ]
  refine wpT_takeP 13 (v := ?_) rfl (by kernel_rfl) (fun _ _ _ h => h) (by rfl) ?_ ?_ ?_
  rotate_left
  · (intro W; go_simp; first | done | with_reducible rfl)
  · (first | (intro _; with_reducible assumption) | (intro h0; cases h0))
  try simp only [Act.put, List.setIfInBounds_toArray, List.set_cons_zero, List.set_cons_succ]
  refine wpT_takeP 17 (v := ?_) rfl (by kernel_rfl) (fun _ _ _ h => h) (by rfl) ?_ ?_ ?_
  rotate_left
  · (intro W; go_simp; first | done | with_reducible rfl)
  · (first | (intro _; with_reducible assumption) | (intro h0; cases h0))
  try simp only [Act.put, List.setIfInBounds_toArray, List.set_cons_zero, List.set_cons_succ]
  refine wpT_take 4 30 (v := ?_) rfl (by kernel_rfl) (fun _ _ _ h => h) (by rfl) ?_ HS ?_
  rotate_left
  · (intro W hW; have hq0 := fun o => hW.cell (p := ⟨w.heap.size, o, none⟩) (by simp); have hq1 := fun o => hW.cell (p := ⟨w.heap.size + 1, o, none⟩) (by simp); go_simp; first | done | with_reducible rfl)
  try simp only [Act.put, List.setIfInBounds_toArray, List.set_cons_zero, List.set_cons_succ]
  refine wpT_take 9 30 (v := ?_) rfl (by kernel_rfl) (fun _ _ _ h => h) (by rfl) ?_ HS ?_
  rotate_left
  · (intro W hW; have hq0 := fun o => hW.cell (p := ⟨w.heap.size, o, none⟩) (by simp); have hq1 := fun o => hW.cell (p := ⟨w.heap.size + 1, o, none⟩) (by simp); go_simp; first | done | with_reducible rfl)
  try simp only [Act.put, List.setIfInBounds_toArray, List.set_cons_zero, List.set_cons_succ]
  refine wpT_take 14 30 (v := ?_) rfl (by kernel_rfl) (fun _ _ _ h => h) (by rfl) ?_ HS ?_
  rotate_left
  · (intro W hW; have hq0 := fun o => hW.cell (p := ⟨w.heap.size, o, none⟩) (by simp); have hq1 := fun o => hW.cell (p := ⟨w.heap.size + 1, o, none⟩) (by simp); go_simp; first | done | with_reducible rfl)
  try simp only [Act.put, List.setIfInBounds_toArray, List.set_cons_zero, List.set_cons_succ]
  refine wpT_take 16 30 (v := ?_) rfl (by kernel_rfl) (fun _ _ _ h => h) (by rfl) ?_ HS ?_
  rotate_left
  · (intro W hW; have hq0 := fun o => hW.cell (p := ⟨w.heap.size, o, none⟩) (by simp); have hq1 := fun o => hW.cell (p := ⟨w.heap.size + 1, o, none⟩) (by simp); go_simp; first | done | with_reducible rfl)
  try simp only [Act.put, List.setIfInBounds_toArray, List.set_cons_zero, List.set_cons_succ]
  refine wpT_takeP 15 (v := ?_) rfl (by kernel_rfl) (fun _ _ _ h => h) (by rfl) ?_ ?_ ?_
  rotate_left
  · (intro W; go_simp; first | done | with_reducible rfl)
  · (first | (intro _; with_reducible assumption) | (intro h0; cases h0))
  try simp only [Act.put, List.setIfInBounds_toArray, List.set_cons_zero, List.set_cons_succ]
  refine wpT_one 18 (by kernel_rfl) rfl (fun K hK => ?_)
  go_simp
  refine (dot40 _ _ _ _ _ _ _ h h' (by omega) (by omega) (by omega) (by omega) (by omega) (by omega) _).mono ?_
  rintro e w2 ⟨rfl, hb2⟩
  obtain ⟨hc2, hf2⟩ := bcell (hb2.mono (show w.heap.size + 4 ≤ _ by have := HS.size; simp <;> omega))
  have hs2 : w.heap.size + 4 ≤ w2.heap.size := by have := hb2.size; simp at this; omega
  replace HS := Below.trans HS (hb2.mono (by have := HS.size; simp at this ⊢ <;> omega))
  refine hK.out _ _ ?_ ?_
  · (first | (intro _; with_reducible assumption) | (intro h0; cases h0))
  clear hK K
  try simp only [Act.put, List.setIfInBounds_toArray, List.set_cons_zero, List.set_cons_succ]
  refine wpT_takeP 19 (v := ?_) rfl (by kernel_rfl) (fun _ _ _ h => h) (by rfl) ?_ ?_ ?_
  rotate_left
  · (intro W; go_simp; first | done | with_reducible rfl)
  · (first | (intro _; with_reducible assumption) | (intro h0; cases h0))
  try simp only [Act.put, List.setIfInBounds_toArray, List.set_cons_zero, List.set_cons_succ]
  refine wpT_one 20 (by kernel_rfl) rfl (fun K hK => ?_)
  go_simp
  refine hK.out _ _ ?_ ?_
  · (intro h0; cases h0)
  clear hK K
  try simp only [Act.put, List.setIfInBounds_toArray, List.set_cons_zero, List.set_cons_succ]
  refine wpT_done (by kernel_rfl) ?_ _
  go_wp2_with fail
  rw [rounds_succ]
  go_wp2_with fail
  refine wp_region_T (Below (w.heap.size + 2) (((w.alloc (.cells #[.int .i64 a0, .int .i64 a1, .int .i64 a2, .int .i64 a3, .int .i64 a4, .int .i64 a5, .int .i64 a6, .int .i64 a7, .int .i64 a8] 29)).alloc (.cells #[.int .i64 x, .int .i64 y, .int .i64 z] 27)))) 20 (by kernel_rfl) ?_ ?_
  · exact Below.drew (HS.setCell (by simp) _)
  intro HS
  refine wpT_takeP 0 (v := ?_) rfl (by kernel_rfl) (fun _ _ _ h => h) (by rfl) ?_ ?_ ?_
  rotate_left
  · (intro W; go_simp; first | done | with_reducible rfl)
  · (first | (intro _; with_reducible assumption) | (intro h0; cases h0))
  try simp only [Act.put, List.setIfInBounds_toArray, List.set_cons_zero, List.set_cons_succ]
  refine wpT_takeP 1 (v := ?_) rfl (by kernel_rfl) (fun _ _ _ h => h) (by rfl) ?_ ?_ ?_
  rotate_left
  · (intro W; go_simp; first | done | with_reducible rfl)
  · (first | (intro _; with_reducible assumption) | (intro h0; cases h0))
  try simp only [Act.put, List.setIfInBounds_toArray, List.set_cons_zero, List.set_cons_succ]
  refine wpT_takeP 2 (v := ?_) rfl (by kernel_rfl) (fun _ _ _ h => h) (by rfl) ?_ ?_ ?_
  rotate_left
  · (intro W; go_simp; first | done | with_reducible rfl)
  · (first | (intro _; with_reducible assumption) | (intro h0; cases h0))
  try simp only [Act.put, List.setIfInBounds_toArray, List.set_cons_zero, List.set_cons_succ]
  refine wpT_takeP 3 (v := ?_) rfl (by kernel_rfl) (fun _ _ _ h => h) (by rfl) ?_ ?_ ?_
  rotate_left
  · (intro W; go_simp; first | done | with_reducible rfl)
  · (first | (intro _; with_reducible assumption) | (intro h0; cases h0))
  try simp only [Act.put, List.setIfInBounds_toArray, List.set_cons_zero, List.set_cons_succ]
  refine wpT_takeP 5 (v := ?_) rfl (by kernel_rfl) (fun _ _ _ h => h) (by rfl) ?_ ?_ ?_
  rotate_left
  · (intro W; go_simp; first | done | with_reducible rfl)
  · (first | (intro _; with_reducible assumption) | (intro h0; cases h0))
  try simp only [Act.put, List.setIfInBounds_toArray, List.set_cons_zero, List.set_cons_succ]
  refine wpT_takeP 6 (v := ?_) rfl (by kernel_rfl) (fun _ _ _ h => h) (by rfl) ?_ ?_ ?_
  rotate_left
  · (intro W; go_simp; first | done | with_reducible rfl)
  · (first | (intro _; with_reducible assumption) | (intro h0; cases h0))
  try simp only [Act.put, List.setIfInBounds_toArray, List.set_cons_zero, List.set_cons_succ]
  refine wpT_takeP 7 (v := ?_) rfl (by kernel_rfl) (fun _ _ _ h => h) (by rfl) ?_ ?_ ?_
  rotate_left
  · (intro W; go_simp; first | done | with_reducible rfl)
  · (first | (intro _; with_reducible assumption) | (intro h0; cases h0))
  try simp only [Act.put, List.setIfInBounds_toArray, List.set_cons_zero, List.set_cons_succ]
  refine wpT_takeP 8 (v := ?_) rfl (by kernel_rfl) (fun _ _ _ h => h) (by rfl) ?_ ?_ ?_
  rotate_left
  · (intro W; go_simp; first | done | with_reducible rfl)
  · (first | (intro _; with_reducible assumption) | (intro h0; cases h0))
  try simp only [Act.put, List.setIfInBounds_toArray, List.set_cons_zero, List.set_cons_succ]
  refine wpT_takeP 10 (v := ?_) rfl (by kernel_rfl) (fun _ _ _ h => h) (by rfl) ?_ ?_ ?_
  rotate_left
  · (intro W; go_simp; first | done | with_reducible rfl)
  · (first | (intro _; with_reducible assumption) | (intro h0; cases h0))
  try simp only [Act.put, List.setIfInBounds_toArray, List.set_cons_zero, List.set_cons_succ]
  refine wpT_takeP 11 (v := ?_) rfl (by kernel_rfl) (fun _ _ _ h => h) (by rfl) ?_ ?_ ?_
  rotate_left
  · (intro W; go_simp; first | done | with_reducible rfl)
  · (first | (intro _; with_reducible assumption) | (intro h0; cases h0))
  try simp only [Act.put, List.setIfInBounds_toArray, List.set_cons_zero, List.set_cons_succ]
  refine wpT_takeP 12 (v := ?_) rfl (by kernel_rfl) (fun _ _ _ h => h) (by rfl) ?_ ?_ ?_
  rotate_left
  · (intro W; go_simp; first | done | with_reducible rfl)
  · (first | (intro _; with_reducible assumption) | (intro h0; cases h0))
  try simp only [Act.put, List.setIfInBounds_toArray, List.set_cons_zero, List.set_cons_succ]
  refine wpT_takeP 13 (v := ?_) rfl (by kernel_rfl) (fun _ _ _ h => h) (by rfl) ?_ ?_ ?_
  rotate_left
  · (intro W; go_simp; first | done | with_reducible rfl)
  · (first | (intro _; with_reducible assumption) | (intro h0; cases h0))
  try simp only [Act.put, List.setIfInBounds_toArray, List.set_cons_zero, List.set_cons_succ]
  refine wpT_takeP 17 (v := ?_) rfl (by kernel_rfl) (fun _ _ _ h => h) (by rfl) ?_ ?_ ?_
  rotate_left
  · (intro W; go_simp; first | done | with_reducible rfl)
  · (first | (intro _; with_reducible assumption) | (intro h0; cases h0))
  try simp only [Act.put, List.setIfInBounds_toArray, List.set_cons_zero, List.set_cons_succ]
  refine wpT_take 4 30 (v := ?_) rfl (by kernel_rfl) (fun _ _ _ h => h) (by rfl) ?_ HS ?_
  rotate_left
  · (intro W hW; have hq0 := fun o => hW.cell (p := ⟨w.heap.size, o, none⟩) (by simp); have hq1 := fun o => hW.cell (p := ⟨w.heap.size + 1, o, none⟩) (by simp); go_simp; first | done | with_reducible rfl)
  try simp only [Act.put, List.setIfInBounds_toArray, List.set_cons_zero, List.set_cons_succ]
  refine wpT_take 9 30 (v := ?_) rfl (by kernel_rfl) (fun _ _ _ h => h) (by rfl) ?_ HS ?_
  rotate_left
  · (intro W hW; have hq0 := fun o => hW.cell (p := ⟨w.heap.size, o, none⟩) (by simp); have hq1 := fun o => hW.cell (p := ⟨w.heap.size + 1, o, none⟩) (by simp); go_simp; first | done | with_reducible rfl)
  try simp only [Act.put, List.setIfInBounds_toArray, List.set_cons_zero, List.set_cons_succ]
  refine wpT_take 14 30 (v := ?_) rfl (by kernel_rfl) (fun _ _ _ h => h) (by rfl) ?_ HS ?_
  rotate_left
  · (intro W hW; have hq0 := fun o => hW.cell (p := ⟨w.heap.size, o, none⟩) (by simp); have hq1 := fun o => hW.cell (p := ⟨w.heap.size + 1, o, none⟩) (by simp); go_simp; first | done | with_reducible rfl)
  try simp only [Act.put, List.setIfInBounds_toArray, List.set_cons_zero, List.set_cons_succ]
  refine wpT_take 16 30 (v := ?_) rfl (by kernel_rfl) (fun _ _ _ h => h) (by rfl) ?_ HS ?_
  rotate_left
  · (intro W hW; have hq0 := fun o => hW.cell (p := ⟨w.heap.size, o, none⟩) (by simp); have hq1 := fun o => hW.cell (p := ⟨w.heap.size + 1, o, none⟩) (by simp); go_simp; first | done | with_reducible rfl)
  try simp only [Act.put, List.setIfInBounds_toArray, List.set_cons_zero, List.set_cons_succ]
  refine wpT_takeP 15 (v := ?_) rfl (by kernel_rfl) (fun _ _ _ h => h) (by rfl) ?_ ?_ ?_
  rotate_left
  · (intro W; go_simp; first | done | with_reducible rfl)
  · (first | (intro _; with_reducible assumption) | (intro h0; cases h0))
  try simp only [Act.put, List.setIfInBounds_toArray, List.set_cons_zero, List.set_cons_succ]
  refine wpT_one 18 (by kernel_rfl) rfl (fun K hK => ?_)
  go_simp
  refine (dot40 _ _ _ _ _ _ _ h h' (by omega) (by omega) (by omega) (by omega) (by omega) (by omega) _).mono ?_
  rintro e w3 ⟨rfl, hb3⟩
  obtain ⟨hc3, hf3⟩ := bcell (hb3.mono (show w.heap.size + 4 ≤ _ by have := HS.size; simp <;> omega))
  have hs3 : w.heap.size + 4 ≤ w3.heap.size := by have := hb3.size; simp at this; omega
  replace HS := Below.trans HS (hb3.mono (by have := HS.size; simp at this ⊢ <;> omega))
  refine hK.out _ _ ?_ ?_
  · (first | (intro _; with_reducible assumption) | (intro h0; cases h0))
  clear hK K
  try simp only [Act.put, List.setIfInBounds_toArray, List.set_cons_zero, List.set_cons_succ]
  refine wpT_takeP 19 (v := ?_) rfl (by kernel_rfl) (fun _ _ _ h => h) (by rfl) ?_ ?_ ?_
  rotate_left
  · (intro W; go_simp; first | done | with_reducible rfl)
  · (first | (intro _; with_reducible assumption) | (intro h0; cases h0))
  try simp only [Act.put, List.setIfInBounds_toArray, List.set_cons_zero, List.set_cons_succ]
  refine wpT_one 20 (by kernel_rfl) rfl (fun K hK => ?_)
  go_simp
  refine hK.out _ _ ?_ ?_
  · (intro h0; cases h0)
  clear hK K
  try simp only [Act.put, List.setIfInBounds_toArray, List.set_cons_zero, List.set_cons_succ]
  refine wpT_done (by kernel_rfl) ?_ _
  go_wp2_with fail
  rw [rounds_succ]
  go_wp2
  refine bodyPost_ret (v := .agg #[.int .i64 ((a0 * x + a1 * y + a2 * z) % p), .int .i64 ((a3 * x + a4 * y + a5 * z) % p), .int .i64 ((a6 * x + a7 * y + a8 * z) % p)]) (by simp [results, Try.results39, go_sem, hc1, hf1, hs1, hc2, hf2, hs2, hc3, hf3, hs3]) rfl ⟨rfl, ?_⟩
  have hB := Below.trans (ba_h (ba_h (Below.refl w.heap.size w) (Nat.le_refl _) _) (Nat.le_refl _) _) (HS.mono (by omega))
  go_grown

end Go.Proofs.Ytfdbkocpljiehaa
