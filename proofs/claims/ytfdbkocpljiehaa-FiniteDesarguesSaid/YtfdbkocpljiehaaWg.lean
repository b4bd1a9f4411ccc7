/- Walks: det, plainMod, readW, apply of package finite. -/
import Derived.Test.YtfdbkocpljiehaaWf
import Derived.Test.YtfdbkocpljiehaaWt
import Derived.Deep.RegionHeld3
set_option linter.unusedSimpArgs false
set_option linter.unusedVariables false
namespace Go.Proofs.Ytfdbkocpljiehaa
open Go.RowKit

theorem mod42q {x p A : Int} (h : 2 ≤ p) (h' : p ≤ 13) (hA : Hid (x % p = A)) (w : World) :
    Calls Try.prog 42 #[.int .i64 x, .int .i64 p] w fun e w' => e = .returned (.int .i64 A) ∧ w = w' := by
  have := hA.out; subst this; exact mod42 x p h h' w
theorem ba_b {B : Nat} {a w : World} (h : Below B a w) (hs : B ≤ a.heap.size) (o : Obj) : Below B a (w.alloc o) := h.alloc (Nat.le_trans hs h.size) o

set_option maxRecDepth 100000 in
set_option maxHeartbeats 1000000 in
theorem plainMod46 (x y z p X Y Z : Int) (h : 2 ≤ p) (h' : p ≤ 13) (hX : Hid (x % p = X)) (hY : Hid (y % p = Y)) (hZ : Hid (z % p = Z)) (w : World) :
    Calls Try.prog 46 #[.agg #[.int .i64 x, .int .i64 y, .int .i64 z], .int .i64 p] w fun e w' =>
      e = .returned (.agg #[.int .i64 X, .int .i64 Y, .int .i64 Z]) ∧ Below w.heap.size w w' := by
  go_enter Try.func46, Try.ntmps46
  go_wp2_with fail
  refine wp_region_T (Below (w.heap.size + 1) ((w.alloc (.cells #[.int .i64 x, .int .i64 y, .int .i64 z] 27)).alloc (.cells #[.int .i64 0, .int .i64 0, .int .i64 0] 27))) 13 (by kernel_rfl) ?_ ?_
  · exact Below.drew (Below.refl _ _)
  intro HS
  refine wpT_takeP 0 (v := ?_) rfl (by kernel_rfl) (fun _ _ _ h => h) (by rfl) ?_ ?_ ?_
  rotate_left
  · (intro W; go_simp; first | done | with_reducible rfl)
  · (first | (intro _; with_reducible assumption) | (intro h0; cases h0))
  try simp only [Act.put, List.setIfInBounds_toArray, List.set_cons_zero, List.set_cons_succ]
  refine wpT_takeP 2 (v := ?_) rfl (by kernel_rfl) (fun _ _ _ h => h) (by rfl) ?_ ?_ ?_
  rotate_left
  · (intro W; go_simp; first | done | with_reducible rfl)
  · (first | (intro _; with_reducible assumption) | (intro h0; cases h0))
  try simp only [Act.put, List.setIfInBounds_toArray, List.set_cons_zero, List.set_cons_succ]
  refine wpT_takeP 4 (v := ?_) rfl (by kernel_rfl) (fun _ _ _ h => h) (by rfl) ?_ ?_ ?_
  rotate_left
  · (intro W; go_simp; first | done | with_reducible rfl)
  · (first | (intro _; with_reducible assumption) | (intro h0; cases h0))
  try simp only [Act.put, List.setIfInBounds_toArray, List.set_cons_zero, List.set_cons_succ]
  refine wpT_takeP 6 (v := ?_) rfl (by kernel_rfl) (fun _ _ _ h => h) (by rfl) ?_ ?_ ?_
  rotate_left
  · (intro W; go_simp; first | done | with_reducible rfl)
  · (first | (intro _; with_reducible assumption) | (intro h0; cases h0))
  try simp only [Act.put, List.setIfInBounds_toArray, List.set_cons_zero, List.set_cons_succ]
  refine wpT_takeP 8 (v := ?_) rfl (by kernel_rfl) (fun _ _ _ h => h) (by rfl) ?_ ?_ ?_
  rotate_left
  · (intro W; go_simp; first | done | with_reducible rfl)
  · (first | (intro _; with_reducible assumption) | (intro h0; cases h0))
  try simp only [Act.put, List.setIfInBounds_toArray, List.set_cons_zero, List.set_cons_succ]
  refine wpT_takeP 10 (v := ?_) rfl (by kernel_rfl) (fun _ _ _ h => h) (by rfl) ?_ ?_ ?_
  rotate_left
  · (intro W; go_simp; first | done | with_reducible rfl)
  · (first | (intro _; with_reducible assumption) | (intro h0; cases h0))
  try simp only [Act.put, List.setIfInBounds_toArray, List.set_cons_zero, List.set_cons_succ]
  refine wpT_take 1 30 (v := ?_) rfl (by kernel_rfl) (fun _ _ _ h => h) (by rfl) ?_ HS ?_
  rotate_left
  · (intro W hW; have hq0 := fun o => hW.cell (p := ⟨w.heap.size, o, none⟩) (by simp); go_simp; first | done | with_reducible rfl)
  try simp only [Act.put, List.setIfInBounds_toArray, List.set_cons_zero, List.set_cons_succ]
  refine wpT_take 5 30 (v := ?_) rfl (by kernel_rfl) (fun _ _ _ h => h) (by rfl) ?_ HS ?_
  rotate_left
  · (intro W hW; have hq0 := fun o => hW.cell (p := ⟨w.heap.size, o, none⟩) (by simp); go_simp; first | done | with_reducible rfl)
  try simp only [Act.put, List.setIfInBounds_toArray, List.set_cons_zero, List.set_cons_succ]
  refine wpT_take 9 30 (v := ?_) rfl (by kernel_rfl) (fun _ _ _ h => h) (by rfl) ?_ HS ?_
  rotate_left
  · (intro W hW; have hq0 := fun o => hW.cell (p := ⟨w.heap.size, o, none⟩) (by simp); go_simp; first | done | with_reducible rfl)
  try simp only [Act.put, List.setIfInBounds_toArray, List.set_cons_zero, List.set_cons_succ]
  refine wpT_one 3 (by kernel_rfl) rfl (fun K hK => ?_)
  go_simp
  refine (mod42q h h' hX _).mono ?_
  rintro e w' ⟨rfl, hw⟩
  subst hw
  refine hK.out _ _ ?_ ?_
  · (first | (intro _; with_reducible assumption) | (intro h0; cases h0))
  clear hK K
  try simp only [Act.put, List.setIfInBounds_toArray, List.set_cons_zero, List.set_cons_succ]
  refine wpT_one 7 (by kernel_rfl) rfl (fun K hK => ?_)
  go_simp
  refine (mod42q h h' hY _).mono ?_
  rintro e w' ⟨rfl, hw⟩
  subst hw
  refine hK.out _ _ ?_ ?_
  · (first | (intro _; with_reducible assumption) | (intro h0; cases h0))
  clear hK K
  try simp only [Act.put, List.setIfInBounds_toArray, List.set_cons_zero, List.set_cons_succ]
  refine wpT_one 11 (by kernel_rfl) rfl (fun K hK => ?_)
  go_simp
  refine (mod42q h h' hZ _).mono ?_
  rintro e w' ⟨rfl, hw⟩
  subst hw
  refine hK.out _ _ ?_ ?_
  · (first | (intro _; with_reducible assumption) | (intro h0; cases h0))
  clear hK K
  try simp only [Act.put, List.setIfInBounds_toArray, List.set_cons_zero, List.set_cons_succ]
  refine wpT_takeP 12 (v := ?_) rfl (by kernel_rfl) (fun _ _ _ h => h) (by rfl) ?_ ?_ ?_
  rotate_left
  · (intro W; go_simp; first | done | with_reducible rfl)
  · (first | (intro _; with_reducible assumption) | (intro h0; cases h0))
  try simp only [Act.put, List.setIfInBounds_toArray, List.set_cons_zero, List.set_cons_succ]
  refine wpT_one 13 (by kernel_rfl) rfl (fun K hK => ?_)
  go_simp
  refine hK.out _ _ ?_ ?_
  · (intro h0; cases h0)
  clear hK K
  try simp only [Act.put, List.setIfInBounds_toArray, List.set_cons_zero, List.set_cons_succ]
  refine wpT_done (by kernel_rfl) ?_ _
  go_wp2
  go_returns
  exact ⟨rfl, ba_b (ba_b (Below.drew (Below.refl _ _)) (Nat.le_refl _) _) (Nat.le_refl _) _⟩

set_option maxRecDepth 100000 in
set_option maxHeartbeats 2000000 in
theorem det45 (a0 a1 a2 a3 a4 a5 a6 a7 a8 p X Y Z : Int) (h : 2 ≤ p) (h' : p ≤ 13) (b0 : 0 ≤ a0 ∧ a0 ≤ 12) (b1 : 0 ≤ a1 ∧ a1 ≤ 12) (b2 : 0 ≤ a2 ∧ a2 ≤ 12) (b3 : 0 ≤ a3 ∧ a3 ≤ 12) (b4 : 0 ≤ a4 ∧ a4 ≤ 12) (b5 : 0 ≤ a5 ∧ a5 ≤ 12) (b6 : 0 ≤ a6 ∧ a6 ≤ 12) (b7 : 0 ≤ a7 ∧ a7 ≤ 12) (b8 : 0 ≤ a8 ∧ a8 ≤ 12)
    (hX : Hid ((a4 * a8 - a5 * a7) % p = X)) (hY : Hid ((a5 * a6 - a3 * a8) % p = Y)) (hZ : Hid ((a3 * a7 - a4 * a6) % p = Z)) (bX : 0 ≤ X ∧ X ≤ 12) (bY : 0 ≤ Y ∧ Y ≤ 12) (bZ : 0 ≤ Z ∧ Z ≤ 12) (w : World) :
    Calls Try.prog 45 #[.agg #[.int .i64 a0, .int .i64 a1, .int .i64 a2, .int .i64 a3, .int .i64 a4, .int .i64 a5, .int .i64 a6, .int .i64 a7, .int .i64 a8], .int .i64 p] w fun e w' =>
      e = .returned (.int .i64 ((a0 * X + a1 * Y + a2 * Z) % p)) ∧ Below w.heap.size w w' := by
  go_enter Try.func45, Try.ntmps45
  go_wp2_with fail
  refine wp_region_T (Below (w.heap.size + 1) (w.alloc (.cells #[.int .i64 a0, .int .i64 a1, .int .i64 a2, .int .i64 a3, .int .i64 a4, .int .i64 a5, .int .i64 a6, .int .i64 a7, .int .i64 a8] 29))) 25 (by kernel_rfl) ?_ ?_
  · exact Below.drew (Below.refl _ _)
  intro HS
  refine wpT_takeP 0 (v := ?_) rfl (by kernel_rfl) (fun _ _ _ h => h) (by rfl) ?_ ?_ ?_
  rotate_left
  · (intro W; go_simp; first | done | with_reducible rfl)
  · (first | (intro _; with_reducible assumption) | (intro h0; cases h0))
  try simp only [Act.put, List.setIfInBounds_toArray, List.set_cons_zero, List.set_cons_succ]
  refine wpT_takeP 2 (v := ?_) rfl (by kernel_rfl) (fun _ _ _ h => h) (by rfl) ?_ ?_ ?_
  rotate_left
  · (intro W; go_simp; first | done | with_reducible rfl)
  · (first | (intro _; with_reducible assumption) | (intro h0; cases h0))
  try simp only [Act.put, List.setIfInBounds_toArray, List.set_cons_zero, List.set_cons_succ]
  refine wpT_takeP 4 (v := ?_) rfl (by kernel_rfl) (fun _ _ _ h => h) (by rfl) ?_ ?_ ?_
  rotate_left
  · (intro W; go_simp; first | done | with_reducible rfl)
  · (first | (intro _; with_reducible assumption) | (intro h0; cases h0))
  try simp only [Act.put, List.setIfInBounds_toArray, List.set_cons_zero, List.set_cons_succ]
  refine wpT_takeP 7 (v := ?_) rfl (by kernel_rfl) (fun _ _ _ h => h) (by rfl) ?_ ?_ ?_
  rotate_left
  · (intro W; go_simp; first | done | with_reducible rfl)
  · (first | (intro _; with_reducible assumption) | (intro h0; cases h0))
  try simp only [Act.put, List.setIfInBounds_toArray, List.set_cons_zero, List.set_cons_succ]
  refine wpT_takeP 9 (v := ?_) rfl (by kernel_rfl) (fun _ _ _ h => h) (by rfl) ?_ ?_ ?_
  rotate_left
  · (intro W; go_simp; first | done | with_reducible rfl)
  · (first | (intro _; with_reducible assumption) | (intro h0; cases h0))
  try simp only [Act.put, List.setIfInBounds_toArray, List.set_cons_zero, List.set_cons_succ]
  refine wpT_takeP 11 (v := ?_) rfl (by kernel_rfl) (fun _ _ _ h => h) (by rfl) ?_ ?_ ?_
  rotate_left
  · (intro W; go_simp; first | done | with_reducible rfl)
  · (first | (intro _; with_reducible assumption) | (intro h0; cases h0))
  try simp only [Act.put, List.setIfInBounds_toArray, List.set_cons_zero, List.set_cons_succ]
  refine wpT_takeP 14 (v := ?_) rfl (by kernel_rfl) (fun _ _ _ h => h) (by rfl) ?_ ?_ ?_
  rotate_left
  · (intro W; go_simp; first | done | with_reducible rfl)
  · (first | (intro _; with_reducible assumption) | (intro h0; cases h0))
  try simp only [Act.put, List.setIfInBounds_toArray, List.set_cons_zero, List.set_cons_succ]
  refine wpT_takeP 16 (v := ?_) rfl (by kernel_rfl) (fun _ _ _ h => h) (by rfl) ?_ ?_ ?_
  rotate_left
  · (intro W; go_simp; first | done | with_reducible rfl)
  · (first | (intro _; with_reducible assumption) | (intro h0; cases h0))
  try simp only [Act.put, List.setIfInBounds_toArray, List.set_cons_zero, List.set_cons_succ]
  refine wpT_takeP 18 (v := ?_) rfl (by kernel_rfl) (fun _ _ _ h => h) (by rfl) ?_ ?_ ?_
  rotate_left
  · (intro W; go_simp; first | done | with_reducible rfl)
  · (first | (intro _; with_reducible assumption) | (intro h0; cases h0))
  try simp only [Act.put, List.setIfInBounds_toArray, List.set_cons_zero, List.set_cons_succ]
  refine wpT_takeP 22 (v := ?_) rfl (by kernel_rfl) (fun _ _ _ h => h) (by rfl) ?_ ?_ ?_
  rotate_left
  · (intro W; go_simp; first | done | with_reducible rfl)
  · (first | (intro _; with_reducible assumption) | (intro h0; cases h0))
  try simp only [Act.put, List.setIfInBounds_toArray, List.set_cons_zero, List.set_cons_succ]
  refine wpT_takeP 24 (v := ?_) rfl (by kernel_rfl) (fun _ _ _ h => h) (by rfl) ?_ ?_ ?_
  rotate_left
  · (intro W; go_simp; first | done | with_reducible rfl)
  · (first | (intro _; with_reducible assumption) | (intro h0; cases h0))
  try simp only [Act.put, List.setIfInBounds_toArray, List.set_cons_zero, List.set_cons_succ]
  refine wpT_take 1 30 (v := ?_) rfl (by kernel_rfl) (fun _ _ _ h => h) (by rfl) ?_ HS ?_
  rotate_left
  · (intro W hW; have hq0 := fun o => hW.cell (p := ⟨w.heap.size, o, none⟩) (by simp); go_simp; first | done | with_reducible rfl)
  try simp only [Act.put, List.setIfInBounds_toArray, List.set_cons_zero, List.set_cons_succ]
  refine wpT_take 3 30 (v := ?_) rfl (by kernel_rfl) (fun _ _ _ h => h) (by rfl) ?_ HS ?_
  rotate_left
  · (intro W hW; have hq0 := fun o => hW.cell (p := ⟨w.heap.size, o, none⟩) (by simp); go_simp; first | done | with_reducible rfl)
  try simp only [Act.put, List.setIfInBounds_toArray, List.set_cons_zero, List.set_cons_succ]
  refine wpT_take 5 30 (v := ?_) rfl (by kernel_rfl) (fun _ _ _ h => h) (by rfl) ?_ HS ?_
  rotate_left
  · (intro W hW; have hq0 := fun o => hW.cell (p := ⟨w.heap.size, o, none⟩) (by simp); go_simp; first | done | with_reducible rfl)
  try simp only [Act.put, List.setIfInBounds_toArray, List.set_cons_zero, List.set_cons_succ]
  refine wpT_take 8 30 (v := ?_) rfl (by kernel_rfl) (fun _ _ _ h => h) (by rfl) ?_ HS ?_
  rotate_left
  · (intro W hW; have hq0 := fun o => hW.cell (p := ⟨w.heap.size, o, none⟩) (by simp); go_simp; first | done | with_reducible rfl)
  try simp only [Act.put, List.setIfInBounds_toArray, List.set_cons_zero, List.set_cons_succ]
  refine wpT_take 10 30 (v := ?_) rfl (by kernel_rfl) (fun _ _ _ h => h) (by rfl) ?_ HS ?_
  rotate_left
  · (intro W hW; have hq0 := fun o => hW.cell (p := ⟨w.heap.size, o, none⟩) (by simp); go_simp; first | done | with_reducible rfl)
  try simp only [Act.put, List.setIfInBounds_toArray, List.set_cons_zero, List.set_cons_succ]
  refine wpT_take 12 30 (v := ?_) rfl (by kernel_rfl) (fun _ _ _ h => h) (by rfl) ?_ HS ?_
  rotate_left
  · (intro W hW; have hq0 := fun o => hW.cell (p := ⟨w.heap.size, o, none⟩) (by simp); go_simp; first | done | with_reducible rfl)
  try simp only [Act.put, List.setIfInBounds_toArray, List.set_cons_zero, List.set_cons_succ]
  refine wpT_take 15 30 (v := ?_) rfl (by kernel_rfl) (fun _ _ _ h => h) (by rfl) ?_ HS ?_
  rotate_left
  · (intro W hW; have hq0 := fun o => hW.cell (p := ⟨w.heap.size, o, none⟩) (by simp); go_simp; first | done | with_reducible rfl)
  try simp only [Act.put, List.setIfInBounds_toArray, List.set_cons_zero, List.set_cons_succ]
  refine wpT_take 17 30 (v := ?_) rfl (by kernel_rfl) (fun _ _ _ h => h) (by rfl) ?_ HS ?_
  rotate_left
  · (intro W hW; have hq0 := fun o => hW.cell (p := ⟨w.heap.size, o, none⟩) (by simp); go_simp; first | done | with_reducible rfl)
  try simp only [Act.put, List.setIfInBounds_toArray, List.set_cons_zero, List.set_cons_succ]
  refine wpT_take 19 30 (v := ?_) rfl (by kernel_rfl) (fun _ _ _ h => h) (by rfl) ?_ HS ?_
  rotate_left
  · (intro W hW; have hq0 := fun o => hW.cell (p := ⟨w.heap.size, o, none⟩) (by simp); go_simp; first | done | with_reducible rfl)
  try simp only [Act.put, List.setIfInBounds_toArray, List.set_cons_zero, List.set_cons_succ]
  refine wpT_takeP 6 (v := ?_) rfl (by kernel_rfl) (fun _ _ _ h => h) (by rfl) ?_ ?_ ?_
  rotate_left
  · (intro W; go_simp; first | done | with_reducible rfl)
  · (first | (intro _; with_reducible assumption) | (intro h0; cases h0))
  try simp only [Act.put, List.setIfInBounds_toArray, List.set_cons_zero, List.set_cons_succ]
  refine wpT_takeP 13 (v := ?_) rfl (by kernel_rfl) (fun _ _ _ h => h) (by rfl) ?_ ?_ ?_
  rotate_left
  · (intro W; go_simp; first | done | with_reducible rfl)
  · (first | (intro _; with_reducible assumption) | (intro h0; cases h0))
  try simp only [Act.put, List.setIfInBounds_toArray, List.set_cons_zero, List.set_cons_succ]
  refine wpT_takeP 20 (v := ?_) rfl (by kernel_rfl) (fun _ _ _ h => h) (by rfl) ?_ ?_ ?_
  rotate_left
  · (intro W; go_simp; first | done | with_reducible rfl)
  · (first | (intro _; with_reducible assumption) | (intro h0; cases h0))
  try simp only [Act.put, List.setIfInBounds_toArray, List.set_cons_zero, List.set_cons_succ]
  refine wpT_one 21 (by kernel_rfl) rfl (fun K hK => ?_)
  go_simp
  refine (cross37 _ _ _ _ _ _ (by omega) (by omega) (by omega) (by omega) (by omega) (by omega) _).mono ?_
  rintro e w1 ⟨rfl, hb1⟩
  replace HS := Below.trans HS (hb1.mono (by have := HS.size; simp at this ⊢ <;> omega))
  refine hK.out _ _ ?_ ?_
  · (first | (intro _; with_reducible assumption) | (intro h0; cases h0))
  clear hK K
  try simp only [Act.put, List.setIfInBounds_toArray, List.set_cons_zero, List.set_cons_succ]
  refine wpT_one 23 (by kernel_rfl) rfl (fun K hK => ?_)
  go_simp
  refine (plainMod46 _ _ _ _ _ _ _ h h' hX hY hZ _).mono ?_
  rintro e w2 ⟨rfl, hb2⟩
  replace HS := Below.trans HS (hb2.mono (by have := HS.size; simp at this ⊢ <;> omega))
  refine hK.out _ _ ?_ ?_
  · (first | (intro _; with_reducible assumption) | (intro h0; cases h0))
  clear hK K
  try simp only [Act.put, List.setIfInBounds_toArray, List.set_cons_zero, List.set_cons_succ]
  refine wpT_one 25 (by kernel_rfl) rfl (fun K hK => ?_)
  go_simp
  refine (dot40 _ _ _ _ _ _ _ h h' (by omega) (by omega) (by omega) (by omega) (by omega) (by omega) _).mono ?_
  rintro e w3 ⟨rfl, hb3⟩
  have HB := Below.trans HS (hb3.mono (by have := HS.size; simp at this ⊢ <;> omega))
  refine hK.out _ _ ?_ ?_
  · (first | (intro _; with_reducible assumption) | (intro h0; cases h0))
  clear hK K
  try simp only [Act.put, List.setIfInBounds_toArray, List.set_cons_zero, List.set_cons_succ]
  refine wpT_one 26 (by kernel_rfl) rfl (fun K hK => ?_)
  go_simp
  refine hK.out _ _ ?_ ?_
  · (intro h0; cases h0)
  clear hK K
  try simp only [Act.put, List.setIfInBounds_toArray, List.set_cons_zero, List.set_cons_succ]
  refine wpT_done (by kernel_rfl) ?_ _
  go_wp2
  go_ret
  exact ⟨rfl, (ba_b (Below.refl _ _) (Nat.le_refl _) _).trans (HB.mono (by omega))⟩

set_option maxRecDepth 100000 in
set_option maxHeartbeats 4000000 in
theorem readW38 (a0 a1 a2 a3 a4 a5 a6 a7 a8 A0 A1 A2 A3 A4 A5 A6 A7 A8 p X Y Z : Int) (h : 2 ≤ p) (h' : p ≤ 13) (h0 : Hid (a0 % p = A0)) (h1 : Hid (a1 % p = A1)) (h2 : Hid (a2 % p = A2)) (h3 : Hid (a3 % p = A3)) (h4 : Hid (a4 % p = A4)) (h5 : Hid (a5 % p = A5)) (h6 : Hid (a6 % p = A6)) (h7 : Hid (a7 % p = A7)) (h8 : Hid (a8 % p = A8)) (b0 : 0 ≤ A0 ∧ A0 ≤ 12) (b1 : 0 ≤ A1 ∧ A1 ≤ 12) (b2 : 0 ≤ A2 ∧ A2 ≤ 12) (b3 : 0 ≤ A3 ∧ A3 ≤ 12) (b4 : 0 ≤ A4 ∧ A4 ≤ 12) (b5 : 0 ≤ A5 ∧ A5 ≤ 12) (b6 : 0 ≤ A6 ∧ A6 ≤ 12) (b7 : 0 ≤ A7 ∧ A7 ≤ 12) (b8 : 0 ≤ A8 ∧ A8 ≤ 12)
    (hX : Hid ((A4 * A8 - A5 * A7) % p = X)) (hY : Hid ((A5 * A6 - A3 * A8) % p = Y)) (hZ : Hid ((A3 * A7 - A4 * A6) % p = Z)) (bX : 0 ≤ X ∧ X ≤ 12) (bY : 0 ≤ Y ∧ Y ≤ 12) (bZ : 0 ≤ Z ∧ Z ≤ 12) (w : World) :
    Calls Try.prog 38 #[.agg #[.int .i64 a0, .int .i64 a1, .int .i64 a2, .int .i64 a3, .int .i64 a4, .int .i64 a5, .int .i64 a6, .int .i64 a7, .int .i64 a8], .int .i64 p] w fun e w' =>
      e = .returned (.tuple #[.agg #[.int .i64 A0, .int .i64 A1, .int .i64 A2, .int .i64 A3, .int .i64 A4, .int .i64 A5, .int .i64 A6, .int .i64 A7, .int .i64 A8], .bool ((A0 * X + A1 * Y + A2 * Z) % p != 0)]) ∧ Below w.heap.size w w' := by
  go_enter Try.func38, Try.ntmps38
  go_wp2
  refine wp_loop_rounds 10 ?_
  repeat any_goals (rw [rounds_succ]; go_wp2_with (go_at_call 42; refine (mod42 _ _ (by omega) (by omega) _).mono ?_; rintro e w' ⟨rfl, rfl⟩))
  simp only [h0.out, h1.out, h2.out, h3.out, h4.out, h5.out, h6.out, h7.out, h8.out]
  refine wp_region_T (Below (w.heap.size + 1) ((w.alloc (.cells #[.int .i64 A0, .int .i64 A1, .int .i64 A2, .int .i64 A3, .int .i64 A4, .int .i64 A5, .int .i64 A6, .int .i64 A7, .int .i64 A8] 29)).alloc (.cells #[.int .i64 0, .int .i64 0, .int .i64 0, .int .i64 0, .int .i64 0, .int .i64 0, .int .i64 0, .int .i64 0, .int .i64 0] 29))) 5 (by kernel_rfl) ?_ ?_
  · exact Below.drew (Below.refl _ _)
  intro HS
  refine wpT_takeP 2 (v := ?_) rfl (by kernel_rfl) (fun _ _ _ h => h) (by rfl) ?_ ?_ ?_
  rotate_left
  · (intro W; go_simp; first | done | with_reducible rfl)
  · (first | (intro _; with_reducible assumption) | (intro h0; cases h0))
  try simp only [Act.put, List.setIfInBounds_toArray, List.set_cons_zero, List.set_cons_succ]
  refine wpT_take 0 30 (v := ?_) rfl (by kernel_rfl) (fun _ _ _ h => h) (by rfl) ?_ HS ?_
  rotate_left
  · (intro W hW; have hq0 := fun o => hW.cell (p := ⟨w.heap.size, o, none⟩) (by simp); go_simp; first | done | with_reducible rfl)
  try simp only [Act.put, List.setIfInBounds_toArray, List.set_cons_zero, List.set_cons_succ]
  refine wpT_take 1 30 (v := ?_) rfl (by kernel_rfl) (fun _ _ _ h => h) (by rfl) ?_ HS ?_
  rotate_left
  · (intro W hW; have hq0 := fun o => hW.cell (p := ⟨w.heap.size, o, none⟩) (by simp); go_simp; first | done | with_reducible rfl)
  try simp only [Act.put, List.setIfInBounds_toArray, List.set_cons_zero, List.set_cons_succ]
  refine wpT_one 3 (by kernel_rfl) rfl (fun K hK => ?_)
  go_simp
  refine (det45 _ _ _ _ _ _ _ _ _ _ _ _ _ h h' b0 b1 b2 b3 b4 b5 b6 b7 b8 hX hY hZ bX bY bZ _).mono ?_
  rintro e w1 ⟨rfl, hb1⟩
  obtain ⟨hc1, hf1⟩ := bcell (hb1.mono (show w.heap.size + 2 ≤ _ by simp))
  have hs1 : w.heap.size + 1 < w1.heap.size := by have := hb1.size; simp at this; omega
  replace HS := Below.trans HS (hb1.mono (by have := HS.size; simp at this ⊢ <;> omega))
  refine hK.out _ _ ?_ ?_
  · (first | (intro _; with_reducible assumption) | (intro h0; cases h0))
  clear hK K
  try simp only [Act.put, List.setIfInBounds_toArray, List.set_cons_zero, List.set_cons_succ]
  refine wpT_takeP 4 (v := ?_) rfl (by kernel_rfl) (fun _ _ _ h => h) (by rfl) ?_ ?_ ?_
  rotate_left
  · (intro W; go_simp; first | done | with_reducible rfl)
  · (first | (intro _; with_reducible assumption) | (intro h0; cases h0))
  try simp only [Act.put, List.setIfInBounds_toArray, List.set_cons_zero, List.set_cons_succ]
  refine wpT_one 5 (by kernel_rfl) rfl (fun K hK => ?_)
  go_simp
  refine hK.out _ _ ?_ ?_
  · (intro h0; cases h0)
  clear hK K
  try simp only [Act.put, List.setIfInBounds_toArray, List.set_cons_zero, List.set_cons_succ]
  refine wpT_one 6 (by kernel_rfl) rfl (fun K hK => ?_)
  go_simp
  refine hK.out _ _ ?_ ?_
  · (intro h0; cases h0)
  clear hK K
  try simp only [Act.put, List.setIfInBounds_toArray, List.set_cons_zero, List.set_cons_succ]
  refine wpT_done (by kernel_rfl) ?_ _
  go_wp2
  refine bodyPost_ret (v := .tuple #[.agg #[.int .i64 A0, .int .i64 A1, .int .i64 A2, .int .i64 A3, .int .i64 A4, .int .i64 A5, .int .i64 A6, .int .i64 A7, .int .i64 A8], .bool ((A0 * X + A1 * Y + A2 * Z) % p != 0)]) (by simp [results, Try.results38, go_sem, hc1, hf1, hs1]) rfl ⟨rfl, ?_⟩
  have hB := Below.trans (ba_b (ba_b (Below.refl w.heap.size w) (Nat.le_refl _) _) (Nat.le_refl _) _) (HS.mono (by omega))
  go_grown


end Go.Proofs.Ytfdbkocpljiehaa
