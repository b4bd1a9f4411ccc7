/- Walks: rowsF, mapF. -/
import Derived.Test.YtfdbkocpljiehaaXd
import Derived.Test.YtfdbkocpljiehaaWz
set_option linter.unusedSimpArgs false
set_option linter.unusedVariables false
namespace Go.Proofs.Ytfdbkocpljiehaa
open Go.RowKit

set_option maxRecDepth 100000 in
set_option maxHeartbeats 4000000 in
theorem rowsF29 (a0 a1 a2 a3 a4 a5 a6 a7 a8 : Int) (w : World) :
    Calls Try.prog 29 #[.agg #[.int .i64 a0, .int .i64 a1, .int .i64 a2, .int .i64 a3, .int .i64 a4, .int .i64 a5, .int .i64 a6, .int .i64 a7, .int .i64 a8]] w fun e w' =>
      e = .returned (.tuple #[.agg #[.int .i64 a0, .int .i64 a1, .int .i64 a2], .agg #[.int .i64 a3, .int .i64 a4, .int .i64 a5], .agg #[.int .i64 a6, .int .i64 a7, .int .i64 a8]]) ∧ Below w.heap.size w w' := by
  go_enter Try.func29, Try.ntmps29
  go_wp2_with fail
  refine wp_region_T (fun w' => w'.cell? ⟨w.heap.size, 0, none⟩ = some (.int .i64 a0) ∧ w'.cell? ⟨w.heap.size, 1, none⟩ = some (.int .i64 a1) ∧ w'.cell? ⟨w.heap.size, 2, none⟩ = some (.int .i64 a2) ∧ w'.cell? ⟨w.heap.size, 3, none⟩ = some (.int .i64 a3) ∧ w'.cell? ⟨w.heap.size, 4, none⟩ = some (.int .i64 a4) ∧ w'.cell? ⟨w.heap.size, 5, none⟩ = some (.int .i64 a5) ∧ w'.cell? ⟨w.heap.size, 6, none⟩ = some (.int .i64 a6) ∧ w'.cell? ⟨w.heap.size, 7, none⟩ = some (.int .i64 a7) ∧ w'.cell? ⟨w.heap.size, 8, none⟩ = some (.int .i64 a8)) 23 (by kernel_rfl) ?_ ?_
  · simp [go_sem]
  intro HS
  refine wpT_takeP 0 (v := ?_) rfl (by kernel_rfl) (fun _ _ _ h => h) (by rfl) ?_ ?_ ?_
  rotate_left
  · (intro W; go_simp; first | done | with_reducible rfl)
  · (intro _; with_reducible assumption)
  try simp only [Act.put, List.setIfInBounds_toArray, List.set_cons_zero, List.set_cons_succ]
  refine wpT_takeP 2 (v := ?_) rfl (by kernel_rfl) (fun _ _ _ h => h) (by rfl) ?_ ?_ ?_
  rotate_left
  · (intro W; go_simp; first | done | with_reducible rfl)
  · (intro _; with_reducible assumption)
  try simp only [Act.put, List.setIfInBounds_toArray, List.set_cons_zero, List.set_cons_succ]
  refine wpT_takeP 4 (v := ?_) rfl (by kernel_rfl) (fun _ _ _ h => h) (by rfl) ?_ ?_ ?_
  rotate_left
  · (intro W; go_simp; first | done | with_reducible rfl)
  · (intro _; with_reducible assumption)
  try simp only [Act.put, List.setIfInBounds_toArray, List.set_cons_zero, List.set_cons_succ]
  refine wpT_takeP 7 (v := ?_) rfl (by kernel_rfl) (fun _ _ _ h => h) (by rfl) ?_ ?_ ?_
  rotate_left
  · (intro W; go_simp; first | done | with_reducible rfl)
  · (intro _; with_reducible assumption)
  try simp only [Act.put, List.setIfInBounds_toArray, List.set_cons_zero, List.set_cons_succ]
  refine wpT_takeP 9 (v := ?_) rfl (by kernel_rfl) (fun _ _ _ h => h) (by rfl) ?_ ?_ ?_
  rotate_left
  · (intro W; go_simp; first | done | with_reducible rfl)
  · (intro _; with_reducible assumption)
  try simp only [Act.put, List.setIfInBounds_toArray, List.set_cons_zero, List.set_cons_succ]
  refine wpT_takeP 11 (v := ?_) rfl (by kernel_rfl) (fun _ _ _ h => h) (by rfl) ?_ ?_ ?_
  rotate_left
  · (intro W; go_simp; first | done | with_reducible rfl)
  · (intro _; with_reducible assumption)
  try simp only [Act.put, List.setIfInBounds_toArray, List.set_cons_zero, List.set_cons_succ]
  refine wpT_takeP 14 (v := ?_) rfl (by kernel_rfl) (fun _ _ _ h => h) (by rfl) ?_ ?_ ?_
  rotate_left
  · (intro W; go_simp; first | done | with_reducible rfl)
  · (intro _; with_reducible assumption)
  try simp only [Act.put, List.setIfInBounds_toArray, List.set_cons_zero, List.set_cons_succ]
  refine wpT_takeP 16 (v := ?_) rfl (by kernel_rfl) (fun _ _ _ h => h) (by rfl) ?_ ?_ ?_
  rotate_left
  · (intro W; go_simp; first | done | with_reducible rfl)
  · (intro _; with_reducible assumption)
  try simp only [Act.put, List.setIfInBounds_toArray, List.set_cons_zero, List.set_cons_succ]
  refine wpT_takeP 18 (v := ?_) rfl (by kernel_rfl) (fun _ _ _ h => h) (by rfl) ?_ ?_ ?_
  rotate_left
  · (intro W; go_simp; first | done | with_reducible rfl)
  · (intro _; with_reducible assumption)
  try simp only [Act.put, List.setIfInBounds_toArray, List.set_cons_zero, List.set_cons_succ]
  refine wpT_take 1 20 (v := ?_) rfl (by kernel_rfl) (fun _ _ _ h => h) (by rfl) ?_ HS ?_
  rotate_left
  · (intro W hW; (try dsimp only at hW); go_split_ands; go_simp; first | done | with_reducible rfl)
  try simp only [Act.put, List.setIfInBounds_toArray, List.set_cons_zero, List.set_cons_succ]
  refine wpT_take 3 20 (v := ?_) rfl (by kernel_rfl) (fun _ _ _ h => h) (by rfl) ?_ HS ?_
  rotate_left
  · (intro W hW; (try dsimp only at hW); go_split_ands; go_simp; first | done | with_reducible rfl)
  try simp only [Act.put, List.setIfInBounds_toArray, List.set_cons_zero, List.set_cons_succ]
  refine wpT_take 5 20 (v := ?_) rfl (by kernel_rfl) (fun _ _ _ h => h) (by rfl) ?_ HS ?_
  rotate_left
  · (intro W hW; (try dsimp only at hW); go_split_ands; go_simp; first | done | with_reducible rfl)
  try simp only [Act.put, List.setIfInBounds_toArray, List.set_cons_zero, List.set_cons_succ]
  refine wpT_take 8 20 (v := ?_) rfl (by kernel_rfl) (fun _ _ _ h => h) (by rfl) ?_ HS ?_
  rotate_left
  · (intro W hW; (try dsimp only at hW); go_split_ands; go_simp; first | done | with_reducible rfl)
  try simp only [Act.put, List.setIfInBounds_toArray, List.set_cons_zero, List.set_cons_succ]
  refine wpT_take 10 20 (v := ?_) rfl (by kernel_rfl) (fun _ _ _ h => h) (by rfl) ?_ HS ?_
  rotate_left
  · (intro W hW; (try dsimp only at hW); go_split_ands; go_simp; first | done | with_reducible rfl)
  try simp only [Act.put, List.setIfInBounds_toArray, List.set_cons_zero, List.set_cons_succ]
  refine wpT_take 12 20 (v := ?_) rfl (by kernel_rfl) (fun _ _ _ h => h) (by rfl) ?_ HS ?_
  rotate_left
  · (intro W hW; (try dsimp only at hW); go_split_ands; go_simp; first | done | with_reducible rfl)
  try simp only [Act.put, List.setIfInBounds_toArray, List.set_cons_zero, List.set_cons_succ]
  refine wpT_take 15 20 (v := ?_) rfl (by kernel_rfl) (fun _ _ _ h => h) (by rfl) ?_ HS ?_
  rotate_left
  · (intro W hW; (try dsimp only at hW); go_split_ands; go_simp; first | done | with_reducible rfl)
  try simp only [Act.put, List.setIfInBounds_toArray, List.set_cons_zero, List.set_cons_succ]
  refine wpT_take 17 20 (v := ?_) rfl (by kernel_rfl) (fun _ _ _ h => h) (by rfl) ?_ HS ?_
  rotate_left
  · (intro W hW; (try dsimp only at hW); go_split_ands; go_simp; first | done | with_reducible rfl)
  try simp only [Act.put, List.setIfInBounds_toArray, List.set_cons_zero, List.set_cons_succ]
  refine wpT_take 19 20 (v := ?_) rfl (by kernel_rfl) (fun _ _ _ h => h) (by rfl) ?_ HS ?_
  rotate_left
  · (intro W hW; (try dsimp only at hW); go_split_ands; go_simp; first | done | with_reducible rfl)
  try simp only [Act.put, List.setIfInBounds_toArray, List.set_cons_zero, List.set_cons_succ]
  refine wpT_takeP 6 (v := ?_) rfl (by kernel_rfl) (fun _ _ _ h => h) (by rfl) ?_ ?_ ?_
  rotate_left
  · (intro W; go_simp; first | done | with_reducible rfl)
  · (intro _; with_reducible assumption)
  try simp only [Act.put, List.setIfInBounds_toArray, List.set_cons_zero, List.set_cons_succ]
  refine wpT_takeP 13 (v := ?_) rfl (by kernel_rfl) (fun _ _ _ h => h) (by rfl) ?_ ?_ ?_
  rotate_left
  · (intro W; go_simp; first | done | with_reducible rfl)
  · (intro _; with_reducible assumption)
  try simp only [Act.put, List.setIfInBounds_toArray, List.set_cons_zero, List.set_cons_succ]
  refine wpT_takeP 20 (v := ?_) rfl (by kernel_rfl) (fun _ _ _ h => h) (by rfl) ?_ ?_ ?_
  rotate_left
  · (intro W; go_simp; first | done | with_reducible rfl)
  · (intro _; with_reducible assumption)
  try simp only [Act.put, List.setIfInBounds_toArray, List.set_cons_zero, List.set_cons_succ]
  refine wpT_one 21 (by kernel_rfl) rfl (fun K hK => ?_)
  go_simp
  refine hK.out _ _ ?_ ?_
  · (first | (intro h0; cases h0; done) | (intro _; simp [go_sem]))
  clear hK K
  try simp only [Act.put, List.setIfInBounds_toArray, List.set_cons_zero, List.set_cons_succ]
  refine wpT_one 22 (by kernel_rfl) rfl (fun K hK => ?_)
  go_simp
  refine hK.out _ _ ?_ ?_
  · (first | (intro h0; cases h0; done) | (intro _; simp [go_sem]))
  clear hK K
  try simp only [Act.put, List.setIfInBounds_toArray, List.set_cons_zero, List.set_cons_succ]
  refine wpT_one 23 (by kernel_rfl) rfl (fun K hK => ?_)
  go_simp
  refine hK.out _ _ ?_ ?_
  · (first | (intro h0; cases h0; done) | (intro _; simp [go_sem]))
  clear hK K
  try simp only [Act.put, List.setIfInBounds_toArray, List.set_cons_zero, List.set_cons_succ]
  refine wpT_done (by kernel_rfl) ?_ _
  go_wp2
  refine bodyPost_ret (v := .tuple #[.agg #[.int .i64 a0, .int .i64 a1, .int .i64 a2], .agg #[.int .i64 a3, .int .i64 a4, .int .i64 a5], .agg #[.int .i64 a6, .int .i64 a7, .int .i64 a8]]) (by simp [results, Try.results29, go_sem]) rfl ⟨rfl, ?_⟩
  go_grown

set_option maxRecDepth 100000 in
set_option maxHeartbeats 4000000 in
theorem mapF30 (p a0 a1 a2 a3 a4 a5 a6 a7 a8 x y z u0 u1 u2 : Int) (q : Bool) (hp : isP p = true) (hu : pl p ((a0 % p * (x % p) + a1 % p * (y % p) + a2 % p * (z % p)) % p) ((a3 % p * (x % p) + a4 % p * (y % p) + a5 % p * (z % p)) % p) ((a6 % p * (x % p) + a7 % p * (y % p) + a8 % p * (z % p)) % p) = (u0, u1, u2)) (hq : zz p ((a0 % p * (x % p) + a1 % p * (y % p) + a2 % p * (z % p)) % p) ((a3 % p * (x % p) + a4 % p * (y % p) + a5 % p * (z % p)) % p) ((a6 % p * (x % p) + a7 % p * (y % p) + a8 % p * (z % p)) % p) = q) (w : World) :
    Calls Try.prog 30 #[.agg #[.int .i64 a0, .int .i64 a1, .int .i64 a2, .int .i64 a3, .int .i64 a4, .int .i64 a5, .int .i64 a6, .int .i64 a7, .int .i64 a8], .agg #[.int .i64 x, .int .i64 y, .int .i64 z], .int .i64 p] w fun e w' =>
      e = .returned (.agg #[.int .i64 u0, .int .i64 u1, .int .i64 u2]) ∧ Below w.heap.size w w' := by
  obtain ⟨h, h'⟩ := isP_bd hp
  have HP := Lib.hid hp
  have Hhu := Lib.hid hu
  have Hhq := Lib.hid hq
  clear hp hu hq
  go_enter Try.func30, Try.ntmps30
  go_wp2_with fail
  refine (rowsF29 _ _ _ _ _ _ _ _ _ _).mono ?_
  rintro e w1 ⟨rfl, hb⟩
  have hsz : w.heap.size + 3 ≤ w1.heap.size := by have := hb.size; simp at this; omega
  have hs1_0 : w.heap.size < w1.heap.size := by omega
  have c1_0_0 : w1.cell? ⟨w.heap.size, 0, none⟩ = some (.int .i64 a0) := by rw [hb.cell (by simp <;> omega)]; first | (simp [go_sem]; done)
  have c1_0_1 : w1.cell? ⟨w.heap.size, 1, none⟩ = some (.int .i64 a1) := by rw [hb.cell (by simp <;> omega)]; first | (simp [go_sem]; done)
  have c1_0_2 : w1.cell? ⟨w.heap.size, 2, none⟩ = some (.int .i64 a2) := by rw [hb.cell (by simp <;> omega)]; first | (simp [go_sem]; done)
  have c1_0_3 : w1.cell? ⟨w.heap.size, 3, none⟩ = some (.int .i64 a3) := by rw [hb.cell (by simp <;> omega)]; first | (simp [go_sem]; done)
  have c1_0_4 : w1.cell? ⟨w.heap.size, 4, none⟩ = some (.int .i64 a4) := by rw [hb.cell (by simp <;> omega)]; first | (simp [go_sem]; done)
  have c1_0_5 : w1.cell? ⟨w.heap.size, 5, none⟩ = some (.int .i64 a5) := by rw [hb.cell (by simp <;> omega)]; first | (simp [go_sem]; done)
  have c1_0_6 : w1.cell? ⟨w.heap.size, 6, none⟩ = some (.int .i64 a6) := by rw [hb.cell (by simp <;> omega)]; first | (simp [go_sem]; done)
  have c1_0_7 : w1.cell? ⟨w.heap.size, 7, none⟩ = some (.int .i64 a7) := by rw [hb.cell (by simp <;> omega)]; first | (simp [go_sem]; done)
  have c1_0_8 : w1.cell? ⟨w.heap.size, 8, none⟩ = some (.int .i64 a8) := by rw [hb.cell (by simp <;> omega)]; first | (simp [go_sem]; done)
  have hs1_1 : w.heap.size + 1 < w1.heap.size := by omega
  have c1_1_0 : w1.cell? ⟨w.heap.size + 1, 0, none⟩ = some (.int .i64 x) := by rw [hb.cell (by simp <;> omega)]; first | (simp [go_sem]; done)
  have c1_1_1 : w1.cell? ⟨w.heap.size + 1, 1, none⟩ = some (.int .i64 y) := by rw [hb.cell (by simp <;> omega)]; first | (simp [go_sem]; done)
  have c1_1_2 : w1.cell? ⟨w.heap.size + 1, 2, none⟩ = some (.int .i64 z) := by rw [hb.cell (by simp <;> omega)]; first | (simp [go_sem]; done)
  have hs1_2 : w.heap.size + 1 + 1 < w1.heap.size := by omega
  have c1_2_0 : w1.cell? ⟨w.heap.size + 1 + 1, 0, none⟩ = some (.int .i64 0) := by rw [hb.cell (by simp <;> omega)]; first | (simp [go_sem]; done)
  have c1_2_1 : w1.cell? ⟨w.heap.size + 1 + 1, 1, none⟩ = some (.int .i64 0) := by rw [hb.cell (by simp <;> omega)]; first | (simp [go_sem]; done)
  have c1_2_2 : w1.cell? ⟨w.heap.size + 1 + 1, 2, none⟩ = some (.int .i64 0) := by rw [hb.cell (by simp <;> omega)]; first | (simp [go_sem]; done)
  have g1_2_0 : w1.frozen? ⟨w.heap.size + 1 + 1, 0, none⟩ = false := by rw [hb.frozen (by simp <;> omega)]; first | (simp [go_sem]; done)
  have g1_2_1 : w1.frozen? ⟨w.heap.size + 1 + 1, 1, none⟩ = false := by rw [hb.frozen (by simp <;> omega)]; first | (simp [go_sem]; done)
  have g1_2_2 : w1.frozen? ⟨w.heap.size + 1 + 1, 2, none⟩ = false := by rw [hb.frozen (by simp <;> omega)]; first | (simp [go_sem]; done)
  have HB1 := Lib.hid (Below.trans ((ba_c ((ba_c ((ba_c (Below.refl w.heap.size w) (Nat.le_refl _) _)) (Nat.le_refl _) _)) (Nat.le_refl _) _)) (hb.mono (Below.size ((ba_c ((ba_c ((ba_c (Below.refl w.heap.size w) (Nat.le_refl _) _)) (Nat.le_refl _) _)) (Nat.le_refl _) _)))))
  clear hb hsz
  go_wp2_with fail
  have k0_0 : (((w1.alloc (Obj.cells #[Value.int IntKind.i64 a0, Value.int IntKind.i64 a1, Value.int IntKind.i64 a2] 27)).alloc (Obj.cells #[Value.int IntKind.i64 a3, Value.int IntKind.i64 a4, Value.int IntKind.i64 a5] 27)).alloc (Obj.cells #[Value.int IntKind.i64 a6, Value.int IntKind.i64 a7, Value.int IntKind.i64 a8] 27)).cell? ⟨w1.heap.size, 0, none⟩ = some (.int .i64 a0) := by simp [go_sem]
  have k0_1 : (((w1.alloc (Obj.cells #[Value.int IntKind.i64 a0, Value.int IntKind.i64 a1, Value.int IntKind.i64 a2] 27)).alloc (Obj.cells #[Value.int IntKind.i64 a3, Value.int IntKind.i64 a4, Value.int IntKind.i64 a5] 27)).alloc (Obj.cells #[Value.int IntKind.i64 a6, Value.int IntKind.i64 a7, Value.int IntKind.i64 a8] 27)).cell? ⟨w1.heap.size, 1, none⟩ = some (.int .i64 a1) := by simp [go_sem]
  have k0_2 : (((w1.alloc (Obj.cells #[Value.int IntKind.i64 a0, Value.int IntKind.i64 a1, Value.int IntKind.i64 a2] 27)).alloc (Obj.cells #[Value.int IntKind.i64 a3, Value.int IntKind.i64 a4, Value.int IntKind.i64 a5] 27)).alloc (Obj.cells #[Value.int IntKind.i64 a6, Value.int IntKind.i64 a7, Value.int IntKind.i64 a8] 27)).cell? ⟨w1.heap.size, 2, none⟩ = some (.int .i64 a2) := by simp [go_sem]
  have k1_0 : (((w1.alloc (Obj.cells #[Value.int IntKind.i64 a0, Value.int IntKind.i64 a1, Value.int IntKind.i64 a2] 27)).alloc (Obj.cells #[Value.int IntKind.i64 a3, Value.int IntKind.i64 a4, Value.int IntKind.i64 a5] 27)).alloc (Obj.cells #[Value.int IntKind.i64 a6, Value.int IntKind.i64 a7, Value.int IntKind.i64 a8] 27)).cell? ⟨w1.heap.size + 1, 0, none⟩ = some (.int .i64 a3) := by simp [go_sem]
  have k1_1 : (((w1.alloc (Obj.cells #[Value.int IntKind.i64 a0, Value.int IntKind.i64 a1, Value.int IntKind.i64 a2] 27)).alloc (Obj.cells #[Value.int IntKind.i64 a3, Value.int IntKind.i64 a4, Value.int IntKind.i64 a5] 27)).alloc (Obj.cells #[Value.int IntKind.i64 a6, Value.int IntKind.i64 a7, Value.int IntKind.i64 a8] 27)).cell? ⟨w1.heap.size + 1, 1, none⟩ = some (.int .i64 a4) := by simp [go_sem]
  have k1_2 : (((w1.alloc (Obj.cells #[Value.int IntKind.i64 a0, Value.int IntKind.i64 a1, Value.int IntKind.i64 a2] 27)).alloc (Obj.cells #[Value.int IntKind.i64 a3, Value.int IntKind.i64 a4, Value.int IntKind.i64 a5] 27)).alloc (Obj.cells #[Value.int IntKind.i64 a6, Value.int IntKind.i64 a7, Value.int IntKind.i64 a8] 27)).cell? ⟨w1.heap.size + 1, 2, none⟩ = some (.int .i64 a5) := by simp [go_sem]
  have k2_0 : (((w1.alloc (Obj.cells #[Value.int IntKind.i64 a0, Value.int IntKind.i64 a1, Value.int IntKind.i64 a2] 27)).alloc (Obj.cells #[Value.int IntKind.i64 a3, Value.int IntKind.i64 a4, Value.int IntKind.i64 a5] 27)).alloc (Obj.cells #[Value.int IntKind.i64 a6, Value.int IntKind.i64 a7, Value.int IntKind.i64 a8] 27)).cell? ⟨w1.heap.size + 1 + 1, 0, none⟩ = some (.int .i64 a6) := by simp [go_sem]
  have k2_1 : (((w1.alloc (Obj.cells #[Value.int IntKind.i64 a0, Value.int IntKind.i64 a1, Value.int IntKind.i64 a2] 27)).alloc (Obj.cells #[Value.int IntKind.i64 a3, Value.int IntKind.i64 a4, Value.int IntKind.i64 a5] 27)).alloc (Obj.cells #[Value.int IntKind.i64 a6, Value.int IntKind.i64 a7, Value.int IntKind.i64 a8] 27)).cell? ⟨w1.heap.size + 1 + 1, 1, none⟩ = some (.int .i64 a7) := by simp [go_sem]
  have k2_2 : (((w1.alloc (Obj.cells #[Value.int IntKind.i64 a0, Value.int IntKind.i64 a1, Value.int IntKind.i64 a2] 27)).alloc (Obj.cells #[Value.int IntKind.i64 a3, Value.int IntKind.i64 a4, Value.int IntKind.i64 a5] 27)).alloc (Obj.cells #[Value.int IntKind.i64 a6, Value.int IntKind.i64 a7, Value.int IntKind.i64 a8] 27)).cell? ⟨w1.heap.size + 1 + 1, 2, none⟩ = some (.int .i64 a8) := by simp [go_sem]
  have k3_0 : (((w1.alloc (Obj.cells #[Value.int IntKind.i64 a0, Value.int IntKind.i64 a1, Value.int IntKind.i64 a2] 27)).alloc (Obj.cells #[Value.int IntKind.i64 a3, Value.int IntKind.i64 a4, Value.int IntKind.i64 a5] 27)).alloc (Obj.cells #[Value.int IntKind.i64 a6, Value.int IntKind.i64 a7, Value.int IntKind.i64 a8] 27)).cell? ⟨w.heap.size + 1, 0, none⟩ = some (.int .i64 x) := by rw [World.cell?_alloc_lt _ _ _ (by simp <;> omega), World.cell?_alloc_lt _ _ _ (by simp <;> omega), World.cell?_alloc_lt _ _ _ (by simp <;> omega)]; exact c1_1_0
  have k3_1 : (((w1.alloc (Obj.cells #[Value.int IntKind.i64 a0, Value.int IntKind.i64 a1, Value.int IntKind.i64 a2] 27)).alloc (Obj.cells #[Value.int IntKind.i64 a3, Value.int IntKind.i64 a4, Value.int IntKind.i64 a5] 27)).alloc (Obj.cells #[Value.int IntKind.i64 a6, Value.int IntKind.i64 a7, Value.int IntKind.i64 a8] 27)).cell? ⟨w.heap.size + 1, 1, none⟩ = some (.int .i64 y) := by rw [World.cell?_alloc_lt _ _ _ (by simp <;> omega), World.cell?_alloc_lt _ _ _ (by simp <;> omega), World.cell?_alloc_lt _ _ _ (by simp <;> omega)]; exact c1_1_1
  have k3_2 : (((w1.alloc (Obj.cells #[Value.int IntKind.i64 a0, Value.int IntKind.i64 a1, Value.int IntKind.i64 a2] 27)).alloc (Obj.cells #[Value.int IntKind.i64 a3, Value.int IntKind.i64 a4, Value.int IntKind.i64 a5] 27)).alloc (Obj.cells #[Value.int IntKind.i64 a6, Value.int IntKind.i64 a7, Value.int IntKind.i64 a8] 27)).cell? ⟨w.heap.size + 1, 2, none⟩ = some (.int .i64 z) := by rw [World.cell?_alloc_lt _ _ _ (by simp <;> omega), World.cell?_alloc_lt _ _ _ (by simp <;> omega), World.cell?_alloc_lt _ _ _ (by simp <;> omega)]; exact c1_1_2
  have k4_0 : (((w1.alloc (Obj.cells #[Value.int IntKind.i64 a0, Value.int IntKind.i64 a1, Value.int IntKind.i64 a2] 27)).alloc (Obj.cells #[Value.int IntKind.i64 a3, Value.int IntKind.i64 a4, Value.int IntKind.i64 a5] 27)).alloc (Obj.cells #[Value.int IntKind.i64 a6, Value.int IntKind.i64 a7, Value.int IntKind.i64 a8] 27)).cell? ⟨w.heap.size + 1 + 1, 0, none⟩ = some (.int .i64 0) := by rw [World.cell?_alloc_lt _ _ _ (by simp <;> omega), World.cell?_alloc_lt _ _ _ (by simp <;> omega), World.cell?_alloc_lt _ _ _ (by simp <;> omega)]; exact c1_2_0
  have l4_0 : (((w1.alloc (Obj.cells #[Value.int IntKind.i64 a0, Value.int IntKind.i64 a1, Value.int IntKind.i64 a2] 27)).alloc (Obj.cells #[Value.int IntKind.i64 a3, Value.int IntKind.i64 a4, Value.int IntKind.i64 a5] 27)).alloc (Obj.cells #[Value.int IntKind.i64 a6, Value.int IntKind.i64 a7, Value.int IntKind.i64 a8] 27)).frozen? ⟨w.heap.size + 1 + 1, 0, none⟩ = false := by rw [World.frozen?_alloc_old _ _ _ (by simp <;> omega), World.frozen?_alloc_old _ _ _ (by simp <;> omega), World.frozen?_alloc_old _ _ _ (by simp <;> omega)]; exact g1_2_0
  have k4_1 : (((w1.alloc (Obj.cells #[Value.int IntKind.i64 a0, Value.int IntKind.i64 a1, Value.int IntKind.i64 a2] 27)).alloc (Obj.cells #[Value.int IntKind.i64 a3, Value.int IntKind.i64 a4, Value.int IntKind.i64 a5] 27)).alloc (Obj.cells #[Value.int IntKind.i64 a6, Value.int IntKind.i64 a7, Value.int IntKind.i64 a8] 27)).cell? ⟨w.heap.size + 1 + 1, 1, none⟩ = some (.int .i64 0) := by rw [World.cell?_alloc_lt _ _ _ (by simp <;> omega), World.cell?_alloc_lt _ _ _ (by simp <;> omega), World.cell?_alloc_lt _ _ _ (by simp <;> omega)]; exact c1_2_1
  have l4_1 : (((w1.alloc (Obj.cells #[Value.int IntKind.i64 a0, Value.int IntKind.i64 a1, Value.int IntKind.i64 a2] 27)).alloc (Obj.cells #[Value.int IntKind.i64 a3, Value.int IntKind.i64 a4, Value.int IntKind.i64 a5] 27)).alloc (Obj.cells #[Value.int IntKind.i64 a6, Value.int IntKind.i64 a7, Value.int IntKind.i64 a8] 27)).frozen? ⟨w.heap.size + 1 + 1, 1, none⟩ = false := by rw [World.frozen?_alloc_old _ _ _ (by simp <;> omega), World.frozen?_alloc_old _ _ _ (by simp <;> omega), World.frozen?_alloc_old _ _ _ (by simp <;> omega)]; exact g1_2_1
  have k4_2 : (((w1.alloc (Obj.cells #[Value.int IntKind.i64 a0, Value.int IntKind.i64 a1, Value.int IntKind.i64 a2] 27)).alloc (Obj.cells #[Value.int IntKind.i64 a3, Value.int IntKind.i64 a4, Value.int IntKind.i64 a5] 27)).alloc (Obj.cells #[Value.int IntKind.i64 a6, Value.int IntKind.i64 a7, Value.int IntKind.i64 a8] 27)).cell? ⟨w.heap.size + 1 + 1, 2, none⟩ = some (.int .i64 0) := by rw [World.cell?_alloc_lt _ _ _ (by simp <;> omega), World.cell?_alloc_lt _ _ _ (by simp <;> omega), World.cell?_alloc_lt _ _ _ (by simp <;> omega)]; exact c1_2_2
  have l4_2 : (((w1.alloc (Obj.cells #[Value.int IntKind.i64 a0, Value.int IntKind.i64 a1, Value.int IntKind.i64 a2] 27)).alloc (Obj.cells #[Value.int IntKind.i64 a3, Value.int IntKind.i64 a4, Value.int IntKind.i64 a5] 27)).alloc (Obj.cells #[Value.int IntKind.i64 a6, Value.int IntKind.i64 a7, Value.int IntKind.i64 a8] 27)).frozen? ⟨w.heap.size + 1 + 1, 2, none⟩ = false := by rw [World.frozen?_alloc_old _ _ _ (by simp <;> omega), World.frozen?_alloc_old _ _ _ (by simp <;> omega), World.frozen?_alloc_old _ _ _ (by simp <;> omega)]; exact g1_2_2
  have hk : w1.heap.size + 3 ≤ (((w1.alloc (Obj.cells #[Value.int IntKind.i64 a0, Value.int IntKind.i64 a1, Value.int IntKind.i64 a2] 27)).alloc (Obj.cells #[Value.int IntKind.i64 a3, Value.int IntKind.i64 a4, Value.int IntKind.i64 a5] 27)).alloc (Obj.cells #[Value.int IntKind.i64 a6, Value.int IntKind.i64 a7, Value.int IntKind.i64 a8] 27)).heap.size := by simp
  have hB0 := Lib.hid (show Below w.heap.size w (((w1.alloc (Obj.cells #[Value.int IntKind.i64 a0, Value.int IntKind.i64 a1, Value.int IntKind.i64 a2] 27)).alloc (Obj.cells #[Value.int IntKind.i64 a3, Value.int IntKind.i64 a4, Value.int IntKind.i64 a5] 27)).alloc (Obj.cells #[Value.int IntKind.i64 a6, Value.int IntKind.i64 a7, Value.int IntKind.i64 a8] 27)) from (ba_c ((ba_c ((ba_c (HB1.out) (Nat.le_refl _) _)) (Nat.le_refl _) _)) (Nat.le_refl _) _))
  have hw1 : w.heap.size + 3 ≤ w1.heap.size := by omega
  clear c1_0_0 c1_0_1 c1_0_2 c1_0_3 c1_0_4 c1_0_5 c1_0_6 c1_0_7 c1_0_8 c1_1_0 c1_1_1 c1_1_2 c1_2_0 c1_2_1 c1_2_2 g1_2_0 g1_2_1 g1_2_2 HB1
  generalize (((w1.alloc (Obj.cells #[Value.int IntKind.i64 a0, Value.int IntKind.i64 a1, Value.int IntKind.i64 a2] 27)).alloc (Obj.cells #[Value.int IntKind.i64 a3, Value.int IntKind.i64 a4, Value.int IntKind.i64 a5] 27)).alloc (Obj.cells #[Value.int IntKind.i64 a6, Value.int IntKind.i64 a7, Value.int IntKind.i64 a8] 27)) = W0 at *
  refine wp_region_T (Below (W0.heap.size) (W0)) 19 (by kernel_rfl) ?_ ?_
  · exact Below.drew (Below.refl _ _)
  intro HS
  refine wpT_takeP 2 (v := ?_) rfl (by kernel_rfl) (fun _ _ _ h => h) (by rfl) ?_ ?_ ?_
  rotate_left
  · (intro W; go_simp; first | done | with_reducible rfl)
  · (first | (intro _; with_reducible assumption) | (intro h0; cases h0))
  try simp only [Act.put, List.setIfInBounds_toArray, List.set_cons_zero, List.set_cons_succ]
  refine wpT_takeP 6 (v := ?_) rfl (by kernel_rfl) (fun _ _ _ h => h) (by rfl) ?_ ?_ ?_
  rotate_left
  · (intro W; go_simp; first | done | with_reducible rfl)
  · (first | (intro _; with_reducible assumption) | (intro h0; cases h0))
  try simp only [Act.put, List.setIfInBounds_toArray, List.set_cons_zero, List.set_cons_succ]
  refine wpT_takeP 10 (v := ?_) rfl (by kernel_rfl) (fun _ _ _ h => h) (by rfl) ?_ ?_ ?_
  rotate_left
  · (intro W; go_simp; first | done | with_reducible rfl)
  · (first | (intro _; with_reducible assumption) | (intro h0; cases h0))
  try simp only [Act.put, List.setIfInBounds_toArray, List.set_cons_zero, List.set_cons_succ]
  refine wpT_takeP 13 (v := ?_) rfl (by kernel_rfl) (fun _ _ _ h => h) (by rfl) ?_ ?_ ?_
  rotate_left
  · (intro W; go_simp; first | done | with_reducible rfl)
  · (first | (intro _; with_reducible assumption) | (intro h0; cases h0))
  try simp only [Act.put, List.setIfInBounds_toArray, List.set_cons_zero, List.set_cons_succ]
  refine wpT_take 0 30 (v := ?_) rfl (by kernel_rfl) (fun _ _ _ h => h) (by rfl) ?_ HS ?_
  rotate_left
  · (intro W hW; have hq0 := fun o => hW.cell (p := ⟨w1.heap.size, o, none⟩) (by simp <;> omega); have hq1 := fun o => hW.cell (p := ⟨w1.heap.size + 1, o, none⟩) (by simp <;> omega); have hq2 := fun o => hW.cell (p := ⟨w1.heap.size + 1 + 1, o, none⟩) (by simp <;> omega); have hq3 := fun o => hW.cell (p := ⟨w.heap.size + 1, o, none⟩) (by simp <;> omega); go_simp; first | done | with_reducible rfl)
  try simp only [Act.put, List.setIfInBounds_toArray, List.set_cons_zero, List.set_cons_succ]
  refine wpT_take 1 30 (v := ?_) rfl (by kernel_rfl) (fun _ _ _ h => h) (by rfl) ?_ HS ?_
  rotate_left
  · (intro W hW; have hq0 := fun o => hW.cell (p := ⟨w1.heap.size, o, none⟩) (by simp <;> omega); have hq1 := fun o => hW.cell (p := ⟨w1.heap.size + 1, o, none⟩) (by simp <;> omega); have hq2 := fun o => hW.cell (p := ⟨w1.heap.size + 1 + 1, o, none⟩) (by simp <;> omega); have hq3 := fun o => hW.cell (p := ⟨w.heap.size + 1, o, none⟩) (by simp <;> omega); go_simp; first | done | with_reducible rfl)
  try simp only [Act.put, List.setIfInBounds_toArray, List.set_cons_zero, List.set_cons_succ]
  refine wpT_take 4 30 (v := ?_) rfl (by kernel_rfl) (fun _ _ _ h => h) (by rfl) ?_ HS ?_
  rotate_left
  · (intro W hW; have hq0 := fun o => hW.cell (p := ⟨w1.heap.size, o, none⟩) (by simp <;> omega); have hq1 := fun o => hW.cell (p := ⟨w1.heap.size + 1, o, none⟩) (by simp <;> omega); have hq2 := fun o => hW.cell (p := ⟨w1.heap.size + 1 + 1, o, none⟩) (by simp <;> omega); have hq3 := fun o => hW.cell (p := ⟨w.heap.size + 1, o, none⟩) (by simp <;> omega); go_simp; first | done | with_reducible rfl)
  try simp only [Act.put, List.setIfInBounds_toArray, List.set_cons_zero, List.set_cons_succ]
  refine wpT_take 5 30 (v := ?_) rfl (by kernel_rfl) (fun _ _ _ h => h) (by rfl) ?_ HS ?_
  rotate_left
  · (intro W hW; have hq0 := fun o => hW.cell (p := ⟨w1.heap.size, o, none⟩) (by simp <;> omega); have hq1 := fun o => hW.cell (p := ⟨w1.heap.size + 1, o, none⟩) (by simp <;> omega); have hq2 := fun o => hW.cell (p := ⟨w1.heap.size + 1 + 1, o, none⟩) (by simp <;> omega); have hq3 := fun o => hW.cell (p := ⟨w.heap.size + 1, o, none⟩) (by simp <;> omega); go_simp; first | done | with_reducible rfl)
  try simp only [Act.put, List.setIfInBounds_toArray, List.set_cons_zero, List.set_cons_succ]
  refine wpT_take 8 30 (v := ?_) rfl (by kernel_rfl) (fun _ _ _ h => h) (by rfl) ?_ HS ?_
  rotate_left
  · (intro W hW; have hq0 := fun o => hW.cell (p := ⟨w1.heap.size, o, none⟩) (by simp <;> omega); have hq1 := fun o => hW.cell (p := ⟨w1.heap.size + 1, o, none⟩) (by simp <;> omega); have hq2 := fun o => hW.cell (p := ⟨w1.heap.size + 1 + 1, o, none⟩) (by simp <;> omega); have hq3 := fun o => hW.cell (p := ⟨w.heap.size + 1, o, none⟩) (by simp <;> omega); go_simp; first | done | with_reducible rfl)
  try simp only [Act.put, List.setIfInBounds_toArray, List.set_cons_zero, List.set_cons_succ]
  refine wpT_take 9 30 (v := ?_) rfl (by kernel_rfl) (fun _ _ _ h => h) (by rfl) ?_ HS ?_
  rotate_left
  · (intro W hW; have hq0 := fun o => hW.cell (p := ⟨w1.heap.size, o, none⟩) (by simp <;> omega); have hq1 := fun o => hW.cell (p := ⟨w1.heap.size + 1, o, none⟩) (by simp <;> omega); have hq2 := fun o => hW.cell (p := ⟨w1.heap.size + 1 + 1, o, none⟩) (by simp <;> omega); have hq3 := fun o => hW.cell (p := ⟨w.heap.size + 1, o, none⟩) (by simp <;> omega); go_simp; first | done | with_reducible rfl)
  try simp only [Act.put, List.setIfInBounds_toArray, List.set_cons_zero, List.set_cons_succ]
  refine wpT_two 3 18 (by kernel_rfl) rfl rfl (fun K hK => ?_) (fun K hK => ?_)
  · skip
    go_simp
    refine (dotF22 _ _ _ _ _ _ _ h h' _).mono ?_
    rintro e v0 ⟨rfl, hb⟩
    have HS := Below.trans HS (hb.mono HS.size)
    clear hb
    refine hK.out _ _ ?_ ?_
    · (intro _; with_reducible assumption)
    clear hK K
    try simp only [Act.put, List.setIfInBounds_toArray, List.set_cons_zero, List.set_cons_succ]
    refine wpT_two 7 18 (by kernel_rfl) rfl rfl (fun K hK => ?_) (fun K hK => ?_)
    · skip
      go_simp
      refine (dotF22 _ _ _ _ _ _ _ h h' _).mono ?_
      rintro e v1 ⟨rfl, hb⟩
      have HS := Below.trans HS (hb.mono HS.size)
      clear hb
      refine hK.out _ _ ?_ ?_
      · (intro _; with_reducible assumption)
      clear hK K
      try simp only [Act.put, List.setIfInBounds_toArray, List.set_cons_zero, List.set_cons_succ]
      refine wpT_two 11 18 (by kernel_rfl) rfl rfl (fun K hK => ?_) (fun K hK => ?_)
      · skip
        go_simp
        refine (dotF22 _ _ _ _ _ _ _ h h' _).mono ?_
        rintro e v2 ⟨rfl, hb⟩
        have HS := Below.trans HS (hb.mono HS.size)
        clear hb
        refine hK.out _ _ ?_ ?_
        · (intro _; with_reducible assumption)
        clear hK K
        try simp only [Act.put, List.setIfInBounds_toArray, List.set_cons_zero, List.set_cons_succ]
        refine wpT_takeP 12 (v := ?_) rfl (by kernel_rfl) (fun _ _ _ h => h) (by rfl) ?_ ?_ ?_
        rotate_left
        · (intro W; go_simp; first | done | with_reducible rfl)
        · (first | (intro _; with_reducible assumption) | (intro h0; cases h0))
        try simp only [Act.put, List.setIfInBounds_toArray, List.set_cons_zero, List.set_cons_succ]
        refine wpT_two 14 18 (by kernel_rfl) rfl rfl (fun K hK => ?_) (fun K hK => ?_)
        · skip
          go_simp
          refine (plainF21e _ _ _ _ _ _ _ _ Hhu.out Hhq.out HP.out _).mono ?_
          rintro e v3 ⟨rfl, hb⟩
          have HS := Below.trans HS (hb.mono HS.size)
          clear hb
          refine hK.out _ _ ?_ ?_
          · (intro _; with_reducible assumption)
          clear hK K
          try simp only [Act.put, List.setIfInBounds_toArray, List.set_cons_zero, List.set_cons_succ]
          refine wpT_takeP 15 (v := ?_) rfl (by kernel_rfl) (fun _ _ _ h => h) (by rfl) ?_ ?_ ?_
          rotate_left
          · (intro W; go_simp; first | done | with_reducible rfl)
          · (first | (intro _; with_reducible assumption) | (intro h0; cases h0))
          try simp only [Act.put, List.setIfInBounds_toArray, List.set_cons_zero, List.set_cons_succ]
          refine wpT_takeP 16 (v := ?_) rfl (by kernel_rfl) (fun _ _ _ h => h) (by rfl) ?_ ?_ ?_
          rotate_left
          · (intro W; go_simp; first | done | with_reducible rfl)
          · (first | (intro _; with_reducible assumption) | (intro h0; cases h0))
          try simp only [Act.put, List.setIfInBounds_toArray, List.set_cons_zero, List.set_cons_succ]
          refine wpT_takeP 17 (v := ?_) rfl (by kernel_rfl) (fun _ _ _ h => h) (by rfl) ?_ ?_ ?_
          rotate_left
          · (intro W; go_simp; first | done | with_reducible rfl)
          · (first | (intro _; with_reducible assumption) | (intro h0; cases h0))
          try simp only [Act.put, List.setIfInBounds_toArray, List.set_cons_zero, List.set_cons_succ]
          have ka := HS.frozen (p := ⟨w.heap.size + 1 + 1, 0, none⟩) (by simp <;> omega)
          have kb := HS.frozen (p := ⟨w.heap.size + 1 + 1, 1, none⟩) (by simp <;> omega)
          have kc := HS.frozen (p := ⟨w.heap.size + 1 + 1, 2, none⟩) (by simp <;> omega)
          have ma := HS.cell (p := ⟨w.heap.size + 1 + 1, 0, none⟩) (by simp <;> omega)
          have mb := HS.cell (p := ⟨w.heap.size + 1 + 1, 1, none⟩) (by simp <;> omega)
          have mc := HS.cell (p := ⟨w.heap.size + 1 + 1, 2, none⟩) (by simp <;> omega)
          rw [l4_0] at ka; rw [l4_1] at kb; rw [l4_2] at kc; rw [k4_0] at ma; rw [k4_1] at mb; rw [k4_2] at mc
          have hadr3 : w.heap.size + 1 + 1 < v3.heap.size := Nat.lt_of_lt_of_le (by omega) HS.size
          have hB3 := Below.trans hB0.out (HS.mono (Below.size hB0.out))
          refine wpT_one 18 (by kernel_rfl) rfl (fun K hK => ?_)
          go_simp
          have hadr : w.heap.size + 1 + 1 < v3.heap.size := Nat.lt_of_lt_of_le (by omega) HS.size
          have hne1 : ¬ v3.heap.size = w.heap.size + 1 + 1 := by omega
          have hne2 : ¬ w.heap.size + 1 + 1 = v3.heap.size := by omega
          have HZ : Zc (v3.alloc (Obj.cells #[.int .i64 0, .int .i64 0, .int .i64 0] 27)) v3.heap.size := Zc.new (v3) 27
          have HS := ba_c HS (Nat.le_refl _) (Obj.cells #[.int .i64 0, .int .i64 0, .int .i64 0] 27)
          refine hK.out _ _ ?_ ?_
          · (intro _; with_reducible exact HS)
          clear hK K
          try simp only [Act.put, List.setIfInBounds_toArray, List.set_cons_zero, List.set_cons_succ]
          obtain ⟨z0, ⟨z1, z2, z3⟩, z4, z5, z6⟩ := HZ
          refine wpT_one 19 (by kernel_rfl) rfl (fun K hK => ?_)
          go_simp
          refine hK.out _ _ ?_ ?_
          · (intro h0; cases h0; done)
          clear hK K
          try simp only [Act.put, List.setIfInBounds_toArray, List.set_cons_zero, List.set_cons_succ]
          refine wpT_takeP 20 (v := ?_) rfl (by kernel_rfl) (fun _ _ _ h => h) (by rfl) ?_ ?_ ?_
          rotate_left
          · (intro W; go_simp; first | done | with_reducible rfl)
          · (first | (intro _; with_reducible assumption) | (intro h0; cases h0))
          try simp only [Act.put, List.setIfInBounds_toArray, List.set_cons_zero, List.set_cons_succ]
          refine wpT_done (by kernel_rfl) ?_ _
          have hB := Below.trans hB0.out (HS.mono (Below.size hB0.out))
          go_wp2
          refine bodyPost_ret (v := .agg #[.int .i64 u0, .int .i64 u1, .int .i64 u2]) (by simp [results, Try.results30, go_sem, ka, kb, kc, ma, mb, mc, hadr3, Nat.ne_of_lt hadr3]) rfl ⟨rfl, ?_⟩
          go_grown
        · skip
          go_simp
          have hadr : w.heap.size + 1 + 1 < v2.heap.size := Nat.lt_of_lt_of_le (by omega) HS.size
          have hne1 : ¬ v2.heap.size = w.heap.size + 1 + 1 := by omega
          have hne2 : ¬ w.heap.size + 1 + 1 = v2.heap.size := by omega
          have HZ : Zc (v2.alloc (Obj.cells #[.int .i64 0, .int .i64 0, .int .i64 0] 27)) v2.heap.size := Zc.new (v2) 27
          have HS := ba_c HS (Nat.le_refl _) (Obj.cells #[.int .i64 0, .int .i64 0, .int .i64 0] 27)
          refine hK.out _ _ ?_ ?_
          · (intro _; with_reducible exact HS)
          clear hK K
          try simp only [Act.put, List.setIfInBounds_toArray, List.set_cons_zero, List.set_cons_succ]
          refine wpT_one 14 (by kernel_rfl) rfl (fun K hK => ?_)
          go_simp
          refine (plainF21e _ _ _ _ _ _ _ _ Hhu.out Hhq.out HP.out _).mono ?_
          rintro e v3 ⟨rfl, hb⟩
          have HZ := Zc.below HZ hb HZ.1
          have HS := Below.trans HS (hb.mono HS.size)
          clear hb
          refine hK.out _ _ ?_ ?_
          · (intro _; with_reducible assumption)
          clear hK K
          try simp only [Act.put, List.setIfInBounds_toArray, List.set_cons_zero, List.set_cons_succ]
          refine wpT_takeP 15 (v := ?_) rfl (by kernel_rfl) (fun _ _ _ h => h) (by rfl) ?_ ?_ ?_
          rotate_left
          · (intro W; go_simp; first | done | with_reducible rfl)
          · (first | (intro _; with_reducible assumption) | (intro h0; cases h0))
          try simp only [Act.put, List.setIfInBounds_toArray, List.set_cons_zero, List.set_cons_succ]
          refine wpT_takeP 16 (v := ?_) rfl (by kernel_rfl) (fun _ _ _ h => h) (by rfl) ?_ ?_ ?_
          rotate_left
          · (intro W; go_simp; first | done | with_reducible rfl)
          · (first | (intro _; with_reducible assumption) | (intro h0; cases h0))
          try simp only [Act.put, List.setIfInBounds_toArray, List.set_cons_zero, List.set_cons_succ]
          refine wpT_takeP 17 (v := ?_) rfl (by kernel_rfl) (fun _ _ _ h => h) (by rfl) ?_ ?_ ?_
          rotate_left
          · (intro W; go_simp; first | done | with_reducible rfl)
          · (first | (intro _; with_reducible assumption) | (intro h0; cases h0))
          try simp only [Act.put, List.setIfInBounds_toArray, List.set_cons_zero, List.set_cons_succ]
          have ka := HS.frozen (p := ⟨w.heap.size + 1 + 1, 0, none⟩) (by simp <;> omega)
          have kb := HS.frozen (p := ⟨w.heap.size + 1 + 1, 1, none⟩) (by simp <;> omega)
          have kc := HS.frozen (p := ⟨w.heap.size + 1 + 1, 2, none⟩) (by simp <;> omega)
          have ma := HS.cell (p := ⟨w.heap.size + 1 + 1, 0, none⟩) (by simp <;> omega)
          have mb := HS.cell (p := ⟨w.heap.size + 1 + 1, 1, none⟩) (by simp <;> omega)
          have mc := HS.cell (p := ⟨w.heap.size + 1 + 1, 2, none⟩) (by simp <;> omega)
          rw [l4_0] at ka; rw [l4_1] at kb; rw [l4_2] at kc; rw [k4_0] at ma; rw [k4_1] at mb; rw [k4_2] at mc
          have hadr3 : w.heap.size + 1 + 1 < v3.heap.size := Nat.lt_of_lt_of_le (by omega) HS.size
          have hB3 := Below.trans hB0.out (HS.mono (Below.size hB0.out))
          obtain ⟨z0, ⟨z1, z2, z3⟩, z4, z5, z6⟩ := HZ
          refine wpT_one 19 (by kernel_rfl) rfl (fun K hK => ?_)
          go_simp
          refine hK.out _ _ ?_ ?_
          · (intro h0; cases h0; done)
          clear hK K
          try simp only [Act.put, List.setIfInBounds_toArray, List.set_cons_zero, List.set_cons_succ]
          refine wpT_takeP 20 (v := ?_) rfl (by kernel_rfl) (fun _ _ _ h => h) (by rfl) ?_ ?_ ?_
          rotate_left
          · (intro W; go_simp; first | done | with_reducible rfl)
          · (first | (intro _; with_reducible assumption) | (intro h0; cases h0))
          try simp only [Act.put, List.setIfInBounds_toArray, List.set_cons_zero, List.set_cons_succ]
          refine wpT_done (by kernel_rfl) ?_ _
          have hB := Below.trans hB0.out (HS.mono (Below.size hB0.out))
          go_wp2
          refine bodyPost_ret (v := .agg #[.int .i64 u0, .int .i64 u1, .int .i64 u2]) (by simp [results, Try.results30, go_sem, ka, kb, kc, ma, mb, mc, hadr3, Nat.ne_of_lt hadr3]) rfl ⟨rfl, ?_⟩
          go_grown
      · skip
        go_simp
        have hadr : w.heap.size + 1 + 1 < v1.heap.size := Nat.lt_of_lt_of_le (by omega) HS.size
        have hne1 : ¬ v1.heap.size = w.heap.size + 1 + 1 := by omega
        have hne2 : ¬ w.heap.size + 1 + 1 = v1.heap.size := by omega
        have HZ : Zc (v1.alloc (Obj.cells #[.int .i64 0, .int .i64 0, .int .i64 0] 27)) v1.heap.size := Zc.new (v1) 27
        have HS := ba_c HS (Nat.le_refl _) (Obj.cells #[.int .i64 0, .int .i64 0, .int .i64 0] 27)
        refine hK.out _ _ ?_ ?_
        · (intro _; with_reducible exact HS)
        clear hK K
        try simp only [Act.put, List.setIfInBounds_toArray, List.set_cons_zero, List.set_cons_succ]
        refine wpT_one 11 (by kernel_rfl) rfl (fun K hK => ?_)
        go_simp
        refine (dotF22 _ _ _ _ _ _ _ h h' _).mono ?_
        rintro e v2 ⟨rfl, hb⟩
        have HZ := Zc.below HZ hb HZ.1
        have HS := Below.trans HS (hb.mono HS.size)
        clear hb
        refine hK.out _ _ ?_ ?_
        · (intro _; with_reducible assumption)
        clear hK K
        try simp only [Act.put, List.setIfInBounds_toArray, List.set_cons_zero, List.set_cons_succ]
        refine wpT_takeP 12 (v := ?_) rfl (by kernel_rfl) (fun _ _ _ h => h) (by rfl) ?_ ?_ ?_
        rotate_left
        · (intro W; go_simp; first | done | with_reducible rfl)
        · (first | (intro _; with_reducible assumption) | (intro h0; cases h0))
        try simp only [Act.put, List.setIfInBounds_toArray, List.set_cons_zero, List.set_cons_succ]
        refine wpT_one 14 (by kernel_rfl) rfl (fun K hK => ?_)
        go_simp
        refine (plainF21e _ _ _ _ _ _ _ _ Hhu.out Hhq.out HP.out _).mono ?_
        rintro e v3 ⟨rfl, hb⟩
        have HZ := Zc.below HZ hb HZ.1
        have HS := Below.trans HS (hb.mono HS.size)
        clear hb
        refine hK.out _ _ ?_ ?_
        · (intro _; with_reducible assumption)
        clear hK K
        try simp only [Act.put, List.setIfInBounds_toArray, List.set_cons_zero, List.set_cons_succ]
        refine wpT_takeP 15 (v := ?_) rfl (by kernel_rfl) (fun _ _ _ h => h) (by rfl) ?_ ?_ ?_
        rotate_left
        · (intro W; go_simp; first | done | with_reducible rfl)
        · (first | (intro _; with_reducible assumption) | (intro h0; cases h0))
        try simp only [Act.put, List.setIfInBounds_toArray, List.set_cons_zero, List.set_cons_succ]
        refine wpT_takeP 16 (v := ?_) rfl (by kernel_rfl) (fun _ _ _ h => h) (by rfl) ?_ ?_ ?_
        rotate_left
        · (intro W; go_simp; first | done | with_reducible rfl)
        · (first | (intro _; with_reducible assumption) | (intro h0; cases h0))
        try simp only [Act.put, List.setIfInBounds_toArray, List.set_cons_zero, List.set_cons_succ]
        refine wpT_takeP 17 (v := ?_) rfl (by kernel_rfl) (fun _ _ _ h => h) (by rfl) ?_ ?_ ?_
        rotate_left
        · (intro W; go_simp; first | done | with_reducible rfl)
        · (first | (intro _; with_reducible assumption) | (intro h0; cases h0))
        try simp only [Act.put, List.setIfInBounds_toArray, List.set_cons_zero, List.set_cons_succ]
        have ka := HS.frozen (p := ⟨w.heap.size + 1 + 1, 0, none⟩) (by simp <;> omega)
        have kb := HS.frozen (p := ⟨w.heap.size + 1 + 1, 1, none⟩) (by simp <;> omega)
        have kc := HS.frozen (p := ⟨w.heap.size + 1 + 1, 2, none⟩) (by simp <;> omega)
        have ma := HS.cell (p := ⟨w.heap.size + 1 + 1, 0, none⟩) (by simp <;> omega)
        have mb := HS.cell (p := ⟨w.heap.size + 1 + 1, 1, none⟩) (by simp <;> omega)
        have mc := HS.cell (p := ⟨w.heap.size + 1 + 1, 2, none⟩) (by simp <;> omega)
        rw [l4_0] at ka; rw [l4_1] at kb; rw [l4_2] at kc; rw [k4_0] at ma; rw [k4_1] at mb; rw [k4_2] at mc
        have hadr3 : w.heap.size + 1 + 1 < v3.heap.size := Nat.lt_of_lt_of_le (by omega) HS.size
        have hB3 := Below.trans hB0.out (HS.mono (Below.size hB0.out))
        obtain ⟨z0, ⟨z1, z2, z3⟩, z4, z5, z6⟩ := HZ
        refine wpT_one 19 (by kernel_rfl) rfl (fun K hK => ?_)
        go_simp
        refine hK.out _ _ ?_ ?_
        · (intro h0; cases h0; done)
        clear hK K
        try simp only [Act.put, List.setIfInBounds_toArray, List.set_cons_zero, List.set_cons_succ]
        refine wpT_takeP 20 (v := ?_) rfl (by kernel_rfl) (fun _ _ _ h => h) (by rfl) ?_ ?_ ?_
        rotate_left
        · (intro W; go_simp; first | done | with_reducible rfl)
        · (first | (intro _; with_reducible assumption) | (intro h0; cases h0))
        try simp only [Act.put, List.setIfInBounds_toArray, List.set_cons_zero, List.set_cons_succ]
        refine wpT_done (by kernel_rfl) ?_ _
        have hB := Below.trans hB0.out (HS.mono (Below.size hB0.out))
        go_wp2
        refine bodyPost_ret (v := .agg #[.int .i64 u0, .int .i64 u1, .int .i64 u2]) (by simp [results, Try.results30, go_sem, ka, kb, kc, ma, mb, mc, hadr3, Nat.ne_of_lt hadr3]) rfl ⟨rfl, ?_⟩
        go_grown
    · skip
      go_simp
      have hadr : w.heap.size + 1 + 1 < v0.heap.size := Nat.lt_of_lt_of_le (by omega) HS.size
      have hne1 : ¬ v0.heap.size = w.heap.size + 1 + 1 := by omega
      have hne2 : ¬ w.heap.size + 1 + 1 = v0.heap.size := by omega
      have HZ : Zc (v0.alloc (Obj.cells #[.int .i64 0, .int .i64 0, .int .i64 0] 27)) v0.heap.size := Zc.new (v0) 27
      have HS := ba_c HS (Nat.le_refl _) (Obj.cells #[.int .i64 0, .int .i64 0, .int .i64 0] 27)
      refine hK.out _ _ ?_ ?_
      · (intro _; with_reducible exact HS)
      clear hK K
      try simp only [Act.put, List.setIfInBounds_toArray, List.set_cons_zero, List.set_cons_succ]
      refine wpT_one 7 (by kernel_rfl) rfl (fun K hK => ?_)
      go_simp
      refine (dotF22 _ _ _ _ _ _ _ h h' _).mono ?_
      rintro e v1 ⟨rfl, hb⟩
      have HZ := Zc.below HZ hb HZ.1
      have HS := Below.trans HS (hb.mono HS.size)
      clear hb
      refine hK.out _ _ ?_ ?_
      · (intro _; with_reducible assumption)
      clear hK K
      try simp only [Act.put, List.setIfInBounds_toArray, List.set_cons_zero, List.set_cons_succ]
      refine wpT_one 11 (by kernel_rfl) rfl (fun K hK => ?_)
      go_simp
      refine (dotF22 _ _ _ _ _ _ _ h h' _).mono ?_
      rintro e v2 ⟨rfl, hb⟩
      have HZ := Zc.below HZ hb HZ.1
      have HS := Below.trans HS (hb.mono HS.size)
      clear hb
      refine hK.out _ _ ?_ ?_
      · (intro _; with_reducible assumption)
      clear hK K
      try simp only [Act.put, List.setIfInBounds_toArray, List.set_cons_zero, List.set_cons_succ]
      refine wpT_takeP 12 (v := ?_) rfl (by kernel_rfl) (fun _ _ _ h => h) (by rfl) ?_ ?_ ?_
      rotate_left
      · (intro W; go_simp; first | done | with_reducible rfl)
      · (first | (intro _; with_reducible assumption) | (intro h0; cases h0))
      try simp only [Act.put, List.setIfInBounds_toArray, List.set_cons_zero, List.set_cons_succ]
      refine wpT_one 14 (by kernel_rfl) rfl (fun K hK => ?_)
      go_simp
      refine (plainF21e _ _ _ _ _ _ _ _ Hhu.out Hhq.out HP.out _).mono ?_
      rintro e v3 ⟨rfl, hb⟩
      have HZ := Zc.below HZ hb HZ.1
      have HS := Below.trans HS (hb.mono HS.size)
      clear hb
      refine hK.out _ _ ?_ ?_
      · (intro _; with_reducible assumption)
      clear hK K
      try simp only [Act.put, List.setIfInBounds_toArray, List.set_cons_zero, List.set_cons_succ]
      refine wpT_takeP 15 (v := ?_) rfl (by kernel_rfl) (fun _ _ _ h => h) (by rfl) ?_ ?_ ?_
      rotate_left
      · (intro W; go_simp; first | done | with_reducible rfl)
      · (first | (intro _; with_reducible assumption) | (intro h0; cases h0))
      try simp only [Act.put, List.setIfInBounds_toArray, List.set_cons_zero, List.set_cons_succ]
      refine wpT_takeP 16 (v := ?_) rfl (by kernel_rfl) (fun _ _ _ h => h) (by rfl) ?_ ?_ ?_
      rotate_left
      · (intro W; go_simp; first | done | with_reducible rfl)
      · (first | (intro _; with_reducible assumption) | (intro h0; cases h0))
      try simp only [Act.put, List.setIfInBounds_toArray, List.set_cons_zero, List.set_cons_succ]
      refine wpT_takeP 17 (v := ?_) rfl (by kernel_rfl) (fun _ _ _ h => h) (by rfl) ?_ ?_ ?_
      rotate_left
      · (intro W; go_simp; first | done | with_reducible rfl)
      · (first | (intro _; with_reducible assumption) | (intro h0; cases h0))
      try simp only [Act.put, List.setIfInBounds_toArray, List.set_cons_zero, List.set_cons_succ]
      have ka := HS.frozen (p := ⟨w.heap.size + 1 + 1, 0, none⟩) (by simp <;> omega)
      have kb := HS.frozen (p := ⟨w.heap.size + 1 + 1, 1, none⟩) (by simp <;> omega)
      have kc := HS.frozen (p := ⟨w.heap.size + 1 + 1, 2, none⟩) (by simp <;> omega)
      have ma := HS.cell (p := ⟨w.heap.size + 1 + 1, 0, none⟩) (by simp <;> omega)
      have mb := HS.cell (p := ⟨w.heap.size + 1 + 1, 1, none⟩) (by simp <;> omega)
      have mc := HS.cell (p := ⟨w.heap.size + 1 + 1, 2, none⟩) (by simp <;> omega)
      rw [l4_0] at ka; rw [l4_1] at kb; rw [l4_2] at kc; rw [k4_0] at ma; rw [k4_1] at mb; rw [k4_2] at mc
      have hadr3 : w.heap.size + 1 + 1 < v3.heap.size := Nat.lt_of_lt_of_le (by omega) HS.size
      have hB3 := Below.trans hB0.out (HS.mono (Below.size hB0.out))
      obtain ⟨z0, ⟨z1, z2, z3⟩, z4, z5, z6⟩ := HZ
      refine wpT_one 19 (by kernel_rfl) rfl (fun K hK => ?_)
      go_simp
      refine hK.out _ _ ?_ ?_
      · (intro h0; cases h0; done)
      clear hK K
      try simp only [Act.put, List.setIfInBounds_toArray, List.set_cons_zero, List.set_cons_succ]
      refine wpT_takeP 20 (v := ?_) rfl (by kernel_rfl) (fun _ _ _ h => h) (by rfl) ?_ ?_ ?_
      rotate_left
      · (intro W; go_simp; first | done | with_reducible rfl)
      · (first | (intro _; with_reducible assumption) | (intro h0; cases h0))
      try simp only [Act.put, List.setIfInBounds_toArray, List.set_cons_zero, List.set_cons_succ]
      refine wpT_done (by kernel_rfl) ?_ _
      have hB := Below.trans hB0.out (HS.mono (Below.size hB0.out))
      go_wp2
      refine bodyPost_ret (v := .agg #[.int .i64 u0, .int .i64 u1, .int .i64 u2]) (by simp [results, Try.results30, go_sem, ka, kb, kc, ma, mb, mc, hadr3, Nat.ne_of_lt hadr3]) rfl ⟨rfl, ?_⟩
      go_grown
  · skip
    go_simp
    have hadr : w.heap.size + 1 + 1 < W0.heap.size := Nat.lt_of_lt_of_le (by omega) HS.size
    have hne1 : ¬ W0.heap.size = w.heap.size + 1 + 1 := by omega
    have hne2 : ¬ w.heap.size + 1 + 1 = W0.heap.size := by omega
    have HZ : Zc (W0.alloc (Obj.cells #[.int .i64 0, .int .i64 0, .int .i64 0] 27)).drew W0.heap.size := Zc.new (W0) 27
    have HS : Below W0.heap.size W0 (W0.alloc (Obj.cells #[.int .i64 0, .int .i64 0, .int .i64 0] 27)).drew := Below.drew (ba_c (Below.refl _ _) (Nat.le_refl _) _)
    refine hK.out _ _ ?_ ?_
    · (intro _; with_reducible exact HS)
    clear hK K
    try simp only [Act.put, List.setIfInBounds_toArray, List.set_cons_zero, List.set_cons_succ]
    refine wpT_one 3 (by kernel_rfl) rfl (fun K hK => ?_)
    go_simp
    refine (dotF22 _ _ _ _ _ _ _ h h' _).mono ?_
    rintro e v0 ⟨rfl, hb⟩
    have HZ := Zc.below HZ hb HZ.1
    have HS := Below.trans HS (hb.mono HS.size)
    clear hb
    refine hK.out _ _ ?_ ?_
    · (intro _; with_reducible assumption)
    clear hK K
    try simp only [Act.put, List.setIfInBounds_toArray, List.set_cons_zero, List.set_cons_succ]
    refine wpT_one 7 (by kernel_rfl) rfl (fun K hK => ?_)
    go_simp
    refine (dotF22 _ _ _ _ _ _ _ h h' _).mono ?_
    rintro e v1 ⟨rfl, hb⟩
    have HZ := Zc.below HZ hb HZ.1
    have HS := Below.trans HS (hb.mono HS.size)
    clear hb
    refine hK.out _ _ ?_ ?_
    · (intro _; with_reducible assumption)
    clear hK K
    try simp only [Act.put, List.setIfInBounds_toArray, List.set_cons_zero, List.set_cons_succ]
    refine wpT_one 11 (by kernel_rfl) rfl (fun K hK => ?_)
    go_simp
    refine (dotF22 _ _ _ _ _ _ _ h h' _).mono ?_
    rintro e v2 ⟨rfl, hb⟩
    have HZ := Zc.below HZ hb HZ.1
    have HS := Below.trans HS (hb.mono HS.size)
    clear hb
    refine hK.out _ _ ?_ ?_
    · (intro _; with_reducible assumption)
    clear hK K
    try simp only [Act.put, List.setIfInBounds_toArray, List.set_cons_zero, List.set_cons_succ]
    refine wpT_takeP 12 (v := ?_) rfl (by kernel_rfl) (fun _ _ _ h => h) (by rfl) ?_ ?_ ?_
    rotate_left
    · (intro W; go_simp; first | done | with_reducible rfl)
    · (first | (intro _; with_reducible assumption) | (intro h0; cases h0))
    try simp only [Act.put, List.setIfInBounds_toArray, List.set_cons_zero, List.set_cons_succ]
    refine wpT_one 14 (by kernel_rfl) rfl (fun K hK => ?_)
    go_simp
    refine (plainF21e _ _ _ _ _ _ _ _ Hhu.out Hhq.out HP.out _).mono ?_
    rintro e v3 ⟨rfl, hb⟩
    have HZ := Zc.below HZ hb HZ.1
    have HS := Below.trans HS (hb.mono HS.size)
    clear hb
    refine hK.out _ _ ?_ ?_
    · (intro _; with_reducible assumption)
    clear hK K
    try simp only [Act.put, List.setIfInBounds_toArray, List.set_cons_zero, List.set_cons_succ]
    refine wpT_takeP 15 (v := ?_) rfl (by kernel_rfl) (fun _ _ _ h => h) (by rfl) ?_ ?_ ?_
    rotate_left
    · (intro W; go_simp; first | done | with_reducible rfl)
    · (first | (intro _; with_reducible assumption) | (intro h0; cases h0))
    try simp only [Act.put, List.setIfInBounds_toArray, List.set_cons_zero, List.set_cons_succ]
    refine wpT_takeP 16 (v := ?_) rfl (by kernel_rfl) (fun _ _ _ h => h) (by rfl) ?_ ?_ ?_
    rotate_left
    · (intro W; go_simp; first | done | with_reducible rfl)
    · (first | (intro _; with_reducible assumption) | (intro h0; cases h0))
    try simp only [Act.put, List.setIfInBounds_toArray, List.set_cons_zero, List.set_cons_succ]
    refine wpT_takeP 17 (v := ?_) rfl (by kernel_rfl) (fun _ _ _ h => h) (by rfl) ?_ ?_ ?_
    rotate_left
    · (intro W; go_simp; first | done | with_reducible rfl)
    · (first | (intro _; with_reducible assumption) | (intro h0; cases h0))
    try simp only [Act.put, List.setIfInBounds_toArray, List.set_cons_zero, List.set_cons_succ]
    have ka := HS.frozen (p := ⟨w.heap.size + 1 + 1, 0, none⟩) (by simp <;> omega)
    have kb := HS.frozen (p := ⟨w.heap.size + 1 + 1, 1, none⟩) (by simp <;> omega)
    have kc := HS.frozen (p := ⟨w.heap.size + 1 + 1, 2, none⟩) (by simp <;> omega)
    have ma := HS.cell (p := ⟨w.heap.size + 1 + 1, 0, none⟩) (by simp <;> omega)
    have mb := HS.cell (p := ⟨w.heap.size + 1 + 1, 1, none⟩) (by simp <;> omega)
    have mc := HS.cell (p := ⟨w.heap.size + 1 + 1, 2, none⟩) (by simp <;> omega)
    rw [l4_0] at ka; rw [l4_1] at kb; rw [l4_2] at kc; rw [k4_0] at ma; rw [k4_1] at mb; rw [k4_2] at mc
    have hadr3 : w.heap.size + 1 + 1 < v3.heap.size := Nat.lt_of_lt_of_le (by omega) HS.size
    have hB3 := Below.trans hB0.out (HS.mono (Below.size hB0.out))
    obtain ⟨z0, ⟨z1, z2, z3⟩, z4, z5, z6⟩ := HZ
    refine wpT_one 19 (by kernel_rfl) rfl (fun K hK => ?_)
    go_simp
    refine hK.out _ _ ?_ ?_
    · (intro h0; cases h0; done)
    clear hK K
    try simp only [Act.put, List.setIfInBounds_toArray, List.set_cons_zero, List.set_cons_succ]
    refine wpT_takeP 20 (v := ?_) rfl (by kernel_rfl) (fun _ _ _ h => h) (by rfl) ?_ ?_ ?_
    rotate_left
    · (intro W; go_simp; first | done | with_reducible rfl)
    · (first | (intro _; with_reducible assumption) | (intro h0; cases h0))
    try simp only [Act.put, List.setIfInBounds_toArray, List.set_cons_zero, List.set_cons_succ]
    refine wpT_done (by kernel_rfl) ?_ _
    have hB := Below.trans hB0.out (HS.mono (Below.size hB0.out))
    go_wp2
    refine bodyPost_ret (v := .agg #[.int .i64 u0, .int .i64 u1, .int .i64 u2]) (by simp [results, Try.results30, go_sem, ka, kb, kc, ma, mb, mc, hadr3, Nat.ne_of_lt hadr3]) rfl ⟨rfl, ?_⟩
    go_grown

end Go.Proofs.Ytfdbkocpljiehaa
