/- Walks: dotF, detF. -/
import Derived.Test.YtfdbkocpljiehaaWd
import Derived.Deep.QuietTactic
import Derived.BigQuiet
import Derived.Test.YtfdbkocpljiehaaWt
set_option linter.unusedSimpArgs false
set_option linter.unusedVariables false
namespace Go.Proofs.Ytfdbkocpljiehaa
open Go.RowKit

theorem em12' (a p : Int) (h : 2 ≤ p) (h' : p ≤ 13) : 0 ≤ a % p ∧ a % p ≤ 12 := by
  have := Int.emod_nonneg a (show p ≠ 0 by omega)
  have := Int.emod_lt_of_pos a (show 0 < p by omega)
  omega
theorem mb0 {a b : Int} (ha : 0 ≤ a ∧ a ≤ 12) (hb : 0 ≤ b ∧ b ≤ 12) : 0 ≤ a * b ∧ a * b ≤ 169 :=
  ⟨Int.mul_nonneg ha.1 hb.1, (mb (by omega) (by omega)).2⟩
theorem below_drewN' {B : Nat} {a w : World} (h : Below B a w) (n : Nat) : Below B a (w.drewN n) := ⟨h.os, h.tape, h.output, h.size, h.block⟩

/-- a quiet call behind an earlier quiet region -/
theorem quietB {P : Program} {f : FuncId} {args : Array Value} {w : World} {a n : Nat} {v : Value}
    (h : Calls P f args (w.drewN (a + n)) fun e w' => e = .returned v ∧ w' = w.drewN (a + n)) :
    Calls P f args (w.drewN (a + n)) fun e w'' => e = .returned v ∧ ∃ m, w'' = w.drewN (a + m) := by
  refine h.mono ?_
  rintro e w' ⟨he, hw⟩
  exact ⟨he, n, hw⟩

theorem mod13q {x p A : Int} (h : 2 ≤ p) (h' : p ≤ 13) (hA : x % p = A) (w : World) :
    Calls Try.prog 13 #[.int .i64 x, .int .i64 p] w fun e w' => e = .returned (.int .i64 A) ∧ w' = w := by
  subst hA; exact mod13s x p h h' w

set_option maxRecDepth 100000 in
set_option maxHeartbeats 1000000 in
theorem dotF22e (a b c x y z p A B C X Y Z : Int) (h : 2 ≤ p) (h' : p ≤ 13) (hA : Hid (a % p = A)) (hB : Hid (b % p = B)) (hC : Hid (c % p = C))
    (hX : Hid (x % p = X)) (hY : Hid (y % p = Y)) (hZ : Hid (z % p = Z)) (m1 : 0 ≤ A * X) (m2 : A * X ≤ 169) (m3 : 0 ≤ B * Y) (m4 : B * Y ≤ 169) (m5 : 0 ≤ C * Z) (m6 : C * Z ≤ 169) (w : World) :
    Calls Try.prog 22 #[.agg #[.int .i64 a, .int .i64 b, .int .i64 c], .agg #[.int .i64 x, .int .i64 y, .int .i64 z], .int .i64 p] w fun e w' =>
      e = .returned (.int .i64 ((A * X + B * Y + C * Z) % p)) ∧ Below w.heap.size w w' := by
  have e1 : IntKind.i64.wrap (A * X) = A * X := IntWalk.i64_in _ (by omega)
  have e2 : IntKind.i64.wrap (B * Y) = B * Y := IntWalk.i64_in _ (by omega)
  have e3 : IntKind.i64.wrap (C * Z) = C * Z := IntWalk.i64_in _ (by omega)
  have e4 : IntKind.i64.wrap (A * X + B * Y) = A * X + B * Y := IntWalk.i64_in _ (by omega)
  have e5 : IntKind.i64.wrap (A * X + B * Y + C * Z) = A * X + B * Y + C * Z := IntWalk.i64_in _ (by omega)
  go_enter Try.func22, Try.ntmps22
  go_wp2
  refine wp_loop_rounds 4 ?_
  rw [rounds_succ]
  go_wp2_with fail
  go_quiet ((first | (go_at_call_of 13 (Value.int .i64 a); exact Calls.quiet_of_same (mod13q h h' hA.out _)) | (go_at_call_of 13 (Value.int .i64 x); exact Calls.quiet_of_same (mod13q h h' hX.out _))))
  go_wp2_with fail
  rw [rounds_succ]
  go_wp2_with fail
  go_quiet ((first | (go_at_call_of 13 (Value.int .i64 b); exact quietB (mod13q h h' hB.out _)) | (go_at_call_of 13 (Value.int .i64 y); exact quietB (mod13q h h' hY.out _))))
  go_wp2_with fail
  rw [rounds_succ]
  go_wp2_with fail
  go_quiet ((first | (go_at_call_of 13 (Value.int .i64 c); exact quietB (mod13q h h' hC.out _)) | (go_at_call_of 13 (Value.int .i64 z); exact quietB (mod13q h h' hZ.out _))))
  go_wp2_with fail
  rw [rounds_succ]
  go_wp2
  go_ret
  exact ⟨rfl, below_drewN' (((Below.refl _ _).alloc (Nat.le_refl _) _).alloc (by simp) _) _⟩

theorem dotF22 (a b c x y z p : Int) (h : 2 ≤ p) (h' : p ≤ 13) (w : World) :
    Calls Try.prog 22 #[.agg #[.int .i64 a, .int .i64 b, .int .i64 c], .agg #[.int .i64 x, .int .i64 y, .int .i64 z], .int .i64 p] w fun e w' =>
      e = .returned (.int .i64 ((a % p * (x % p) + b % p * (y % p) + c % p * (z % p)) % p)) ∧ Below w.heap.size w w' := by
  obtain ⟨m1, m2⟩ := mb0 (em12' a p h h') (em12' x p h h')
  obtain ⟨m3, m4⟩ := mb0 (em12' b p h h') (em12' y p h h')
  obtain ⟨m5, m6⟩ := mb0 (em12' c p h h') (em12' z p h h')
  exact dotF22e a b c x y z p _ _ _ _ _ _ h h' rfl rfl rfl rfl rfl rfl m1 m2 m3 m4 m5 m6 w

theorem mb3 {a b : Int} (ha : -13 ≤ a ∧ a ≤ 13) (hb : -338 ≤ b ∧ b ≤ 338) : -4394 ≤ a * b ∧ a * b ≤ 4394 := by
  have h : (a * b).natAbs ≤ 13 * 338 := by
    rw [Int.natAbs_mul]
    exact Nat.mul_le_mul (by omega) (by omega)
  omega

theorem ba_below' {B : Nat} {a w : World} (h : Below B a w) (hs : B ≤ a.heap.size) (o : Obj) : Below B a (w.alloc o) := h.alloc (Nat.le_trans hs h.size) o
theorem det_unwrap {A B C X Y Z R S T : Int} (hA : 0 ≤ A ∧ A ≤ 12) (hB : 0 ≤ B ∧ B ≤ 12) (hC : 0 ≤ C ∧ C ≤ 12) (hX : 0 ≤ X ∧ X ≤ 12) (hY : 0 ≤ Y ∧ Y ≤ 12) (hZ : 0 ≤ Z ∧ Z ≤ 12)
    (hR : 0 ≤ R ∧ R ≤ 12) (hS : 0 ≤ S ∧ S ≤ 12) (hT : 0 ≤ T ∧ T ≤ 12) :
    wrap64 (wrap64 (wrap64 (A * wrap64 (wrap64 (Y * T) - wrap64 (Z * S))) - wrap64 (B * wrap64 (wrap64 (X * T) - wrap64 (Z * R)))) + wrap64 (C * wrap64 (wrap64 (X * S) - wrap64 (Y * R)))) = A * (Y * T - Z * S) - B * (X * T - Z * R) + C * (X * S - Y * R) := by
  have h1 := mb0 hY hT
  have h2 := mb0 hZ hS
  have h3 := mb0 hX hT
  have h4 := mb0 hZ hR
  have h5 := mb0 hX hS
  have h6 := mb0 hY hR
  have k1 := mbb (show -13 ≤ A ∧ A ≤ 13 by omega) (show -169 ≤ Y * T - Z * S ∧ Y * T - Z * S ≤ 169 by omega)
  have k2 := mbb (show -13 ≤ B ∧ B ≤ 13 by omega) (show -169 ≤ X * T - Z * R ∧ X * T - Z * R ≤ 169 by omega)
  have k3 := mbb (show -13 ≤ C ∧ C ≤ 13 by omega) (show -169 ≤ X * S - Y * R ∧ X * S - Y * R ≤ 169 by omega)
  rw [IntWalk.wrap64_in (Y * T) (by omega), IntWalk.wrap64_in (Z * S) (by omega), IntWalk.wrap64_in (X * T) (by omega), IntWalk.wrap64_in (Z * R) (by omega), IntWalk.wrap64_in (X * S) (by omega), IntWalk.wrap64_in (Y * R) (by omega)]
  rw [IntWalk.wrap64_in (Y * T - Z * S) (by omega), IntWalk.wrap64_in (X * T - Z * R) (by omega), IntWalk.wrap64_in (X * S - Y * R) (by omega)]
  rw [IntWalk.wrap64_in (A * (Y * T - Z * S)) (by omega), IntWalk.wrap64_in (B * (X * T - Z * R)) (by omega), IntWalk.wrap64_in (C * (X * S - Y * R)) (by omega)]
  rw [IntWalk.wrap64_in (A * (Y * T - Z * S) - B * (X * T - Z * R)) (by omega), IntWalk.wrap64_in _ (by omega)]

set_option maxRecDepth 100000 in
set_option maxHeartbeats 4000000 in
theorem detF16e (a b c x y z r s t p A B C X Y Z R S T : Int) (h : 2 ≤ p) (h' : p ≤ 13) (hA : Hid (a % p = A)) (hB : Hid (b % p = B)) (hC : Hid (c % p = C))
    (hX : Hid (x % p = X)) (hY : Hid (y % p = Y)) (hZ : Hid (z % p = Z)) (hR : Hid (r % p = R)) (hS : Hid (s % p = S)) (hT : Hid (t % p = T)) (HE : Hid (wrap64 (wrap64 (wrap64 (A * wrap64 (wrap64 (Y * T) - wrap64 (Z * S))) - wrap64 (B * wrap64 (wrap64 (X * T) - wrap64 (Z * R)))) + wrap64 (C * wrap64 (wrap64 (X * S) - wrap64 (Y * R)))) = A * (Y * T - Z * S) - B * (X * T - Z * R) + C * (X * S - Y * R))) (w : World) :
    Calls Try.prog 16 #[.agg #[.int .i64 a, .int .i64 b, .int .i64 c], .agg #[.int .i64 x, .int .i64 y, .int .i64 z], .agg #[.int .i64 r, .int .i64 s, .int .i64 t], .int .i64 p] w fun e w' =>
      e = .returned (.int .i64 ((A * (Y * T - Z * S) - B * (X * T - Z * R) + C * (X * S - Y * R)) % p)) ∧ Below w.heap.size w w' := by
  go_enter Try.func16, Try.ntmps16
  go_wp2
  refine wp_loop_rounds 4 ?_
  rw [rounds_succ]
  go_wp2_with fail
  refine wp_region_T (fun w' => w'.cell? ⟨w.heap.size, 0, none⟩ = some (.int .i64 a) ∧ w'.cell? ⟨w.heap.size + 1, 0, none⟩ = some (.int .i64 x) ∧ w'.cell? ⟨w.heap.size + 1 + 1, 0, none⟩ = some (.int .i64 r)) 17 (by kernel_rfl) ?_ ?_
  · simp [go_sem]
  intro HS
  refine wpT_takeP 0 (v := ?_) rfl (by kernel_rfl) (fun _ _ _ h => h) (by rfl) ?_ ?_ ?_
  rotate_left
  · (intro W; go_simp; first | done | with_reducible rfl)
  · (intro _; with_reducible assumption)
  try simp only [Act.put, List.setIfInBounds_toArray, List.set_cons_zero, List.set_cons_succ]
  refine wpT_takeP 1 (v := ?_) rfl (by kernel_rfl) (fun _ _ _ h => h) (by rfl) ?_ ?_ ?_
  rotate_left
  · (intro W; go_simp; first | done | with_reducible rfl)
  · (intro _; with_reducible assumption)
  try simp only [Act.put, List.setIfInBounds_toArray, List.set_cons_zero, List.set_cons_succ]
  refine wpT_takeP 2 (v := ?_) rfl (by kernel_rfl) (fun _ _ _ h => h) (by rfl) ?_ ?_ ?_
  rotate_left
  · (intro W; go_simp; first | done | with_reducible rfl)
  · (intro _; with_reducible assumption)
  try simp only [Act.put, List.setIfInBounds_toArray, List.set_cons_zero, List.set_cons_succ]
  refine wpT_takeP 3 (v := ?_) rfl (by kernel_rfl) (fun _ _ _ h => h) (by rfl) ?_ ?_ ?_
  rotate_left
  · (intro W; go_simp; first | done | with_reducible rfl)
  · (intro _; with_reducible assumption)
  try simp only [Act.put, List.setIfInBounds_toArray, List.set_cons_zero, List.set_cons_succ]
  refine wpT_takeP 4 (v := ?_) rfl (by kernel_rfl) (fun _ _ _ h => h) (by rfl) ?_ ?_ ?_
  rotate_left
  · (intro W; go_simp; first | done | with_reducible rfl)
  · (intro _; with_reducible assumption)
  try simp only [Act.put, List.setIfInBounds_toArray, List.set_cons_zero, List.set_cons_succ]
  refine wpT_takeP 6 (v := ?_) rfl (by kernel_rfl) (fun _ _ _ h => h) (by rfl) ?_ ?_ ?_
  rotate_left
  · (intro W; go_simp; first | done | with_reducible rfl)
  · (intro _; with_reducible assumption)
  try simp only [Act.put, List.setIfInBounds_toArray, List.set_cons_zero, List.set_cons_succ]
  refine wpT_takeP 8 (v := ?_) rfl (by kernel_rfl) (fun _ _ _ h => h) (by rfl) ?_ ?_ ?_
  rotate_left
  · (intro W; go_simp; first | done | with_reducible rfl)
  · (intro _; with_reducible assumption)
  try simp only [Act.put, List.setIfInBounds_toArray, List.set_cons_zero, List.set_cons_succ]
  refine wpT_takeP 9 (v := ?_) rfl (by kernel_rfl) (fun _ _ _ h => h) (by rfl) ?_ ?_ ?_
  rotate_left
  · (intro W; go_simp; first | done | with_reducible rfl)
  · (intro _; with_reducible assumption)
  try simp only [Act.put, List.setIfInBounds_toArray, List.set_cons_zero, List.set_cons_succ]
  refine wpT_takeP 11 (v := ?_) rfl (by kernel_rfl) (fun _ _ _ h => h) (by rfl) ?_ ?_ ?_
  rotate_left
  · (intro W; go_simp; first | done | with_reducible rfl)
  · (intro _; with_reducible assumption)
  try simp only [Act.put, List.setIfInBounds_toArray, List.set_cons_zero, List.set_cons_succ]
  refine wpT_takeP 13 (v := ?_) rfl (by kernel_rfl) (fun _ _ _ h => h) (by rfl) ?_ ?_ ?_
  rotate_left
  · (intro W; go_simp; first | done | with_reducible rfl)
  · (intro _; with_reducible assumption)
  try simp only [Act.put, List.setIfInBounds_toArray, List.set_cons_zero, List.set_cons_succ]
  refine wpT_takeP 14 (v := ?_) rfl (by kernel_rfl) (fun _ _ _ h => h) (by rfl) ?_ ?_ ?_
  rotate_left
  · (intro W; go_simp; first | done | with_reducible rfl)
  · (intro _; with_reducible assumption)
  try simp only [Act.put, List.setIfInBounds_toArray, List.set_cons_zero, List.set_cons_succ]
  refine wpT_takeP 16 (v := ?_) rfl (by kernel_rfl) (fun _ _ _ h => h) (by rfl) ?_ ?_ ?_
  rotate_left
  · (intro W; go_simp; first | done | with_reducible rfl)
  · (intro _; with_reducible assumption)
  try simp only [Act.put, List.setIfInBounds_toArray, List.set_cons_zero, List.set_cons_succ]
  refine wpT_take 5 20 (v := ?_) rfl (by kernel_rfl) (fun _ _ _ h => h) (by rfl) ?_ HS ?_
  rotate_left
  · (intro W hW; (try dsimp only at hW); go_split_ands; go_simp; first | done | with_reducible rfl)
  try simp only [Act.put, List.setIfInBounds_toArray, List.set_cons_zero, List.set_cons_succ]
  refine wpT_take 10 20 (v := ?_) rfl (by kernel_rfl) (fun _ _ _ h => h) (by rfl) ?_ HS ?_
  rotate_left
  · (intro W hW; (try dsimp only at hW); go_split_ands; go_simp; first | done | with_reducible rfl)
  try simp only [Act.put, List.setIfInBounds_toArray, List.set_cons_zero, List.set_cons_succ]
  refine wpT_take 15 20 (v := ?_) rfl (by kernel_rfl) (fun _ _ _ h => h) (by rfl) ?_ HS ?_
  rotate_left
  · (intro W hW; (try dsimp only at hW); go_split_ands; go_simp; first | done | with_reducible rfl)
  try simp only [Act.put, List.setIfInBounds_toArray, List.set_cons_zero, List.set_cons_succ]
  refine wpT_one 7 (by kernel_rfl) rfl (fun K hK => ?_)
  go_simp
  refine (mod13q h h' hA.out _).mono ?_
  rintro e w' ⟨rfl, hw⟩; subst hw
  refine hK.out _ _ ?_ ?_
  · (first | (intro _; with_reducible assumption) | (intro h0; cases h0))
  clear hK K
  try simp only [Act.put, List.setIfInBounds_toArray, List.set_cons_zero, List.set_cons_succ]
  refine wpT_takeP 18 (v := ?_) rfl (by kernel_rfl) (fun _ _ _ h => h) (by rfl) ?_ ?_ ?_
  rotate_left
  · (intro W; go_simp; first | done | with_reducible rfl)
  · (intro _; with_reducible assumption)
  try simp only [Act.put, List.setIfInBounds_toArray, List.set_cons_zero, List.set_cons_succ]
  refine wpT_one 12 (by kernel_rfl) rfl (fun K hK => ?_)
  go_simp
  refine (mod13q h h' hX.out _).mono ?_
  rintro e w' ⟨rfl, hw⟩; subst hw
  refine hK.out _ _ ?_ ?_
  · (first | (intro _; with_reducible assumption) | (intro h0; cases h0))
  clear hK K
  try simp only [Act.put, List.setIfInBounds_toArray, List.set_cons_zero, List.set_cons_succ]
  refine wpT_one 17 (by kernel_rfl) rfl (fun K hK => ?_)
  go_simp
  refine (mod13q h h' hR.out _).mono ?_
  rintro e w' ⟨rfl, hw⟩; subst hw
  refine hK.out _ _ ?_ ?_
  · (first | (intro _; with_reducible assumption) | (intro h0; cases h0))
  clear hK K
  try simp only [Act.put, List.setIfInBounds_toArray, List.set_cons_zero, List.set_cons_succ]
  refine wpT_one 19 (by kernel_rfl) rfl (fun K hK => ?_)
  go_simp
  refine hK.out _ _ ?_ ?_
  · (intro h0; cases h0)
  clear hK K
  try simp only [Act.put, List.setIfInBounds_toArray, List.set_cons_zero, List.set_cons_succ]
  refine wpT_takeP 20 (v := ?_) rfl (by kernel_rfl) (fun _ _ _ h => h) (by rfl) ?_ ?_ ?_
  rotate_left
  · (intro W; go_simp; first | done | with_reducible rfl)
  · (intro h0; cases h0)
  try simp only [Act.put, List.setIfInBounds_toArray, List.set_cons_zero, List.set_cons_succ]
  refine wpT_one 21 (by kernel_rfl) rfl (fun K hK => ?_)
  go_simp
  refine hK.out _ _ ?_ ?_
  · (intro h0; cases h0)
  clear hK K
  try simp only [Act.put, List.setIfInBounds_toArray, List.set_cons_zero, List.set_cons_succ]
  refine wpT_takeP 22 (v := ?_) rfl (by kernel_rfl) (fun _ _ _ h => h) (by rfl) ?_ ?_ ?_
  rotate_left
  · (intro W; go_simp; first | done | with_reducible rfl)
  · (intro h0; cases h0)
  try simp only [Act.put, List.setIfInBounds_toArray, List.set_cons_zero, List.set_cons_succ]
  refine wpT_one 23 (by kernel_rfl) rfl (fun K hK => ?_)
  go_simp
  refine hK.out _ _ ?_ ?_
  · (intro h0; cases h0)
  clear hK K
  try simp only [Act.put, List.setIfInBounds_toArray, List.set_cons_zero, List.set_cons_succ]
  refine wpT_done (by kernel_rfl) ?_ _
  go_wp2_with fail
  rw [rounds_succ]
  go_wp2_with fail
  refine wp_region_T (fun w' => w'.cell? ⟨w.heap.size, 1, none⟩ = some (.int .i64 b) ∧ w'.cell? ⟨w.heap.size + 1, 1, none⟩ = some (.int .i64 y) ∧ w'.cell? ⟨w.heap.size + 1 + 1, 1, none⟩ = some (.int .i64 s)) 17 (by kernel_rfl) ?_ ?_
  · simp [go_sem]
  intro HS
  refine wpT_takeP 0 (v := ?_) rfl (by kernel_rfl) (fun _ _ _ h => h) (by rfl) ?_ ?_ ?_
  rotate_left
  · (intro W; go_simp; first | done | with_reducible rfl)
  · (intro _; with_reducible assumption)
  try simp only [Act.put, List.setIfInBounds_toArray, List.set_cons_zero, List.set_cons_succ]
  refine wpT_takeP 1 (v := ?_) rfl (by kernel_rfl) (fun _ _ _ h => h) (by rfl) ?_ ?_ ?_
  rotate_left
  · (intro W; go_simp; first | done | with_reducible rfl)
  · (intro _; with_reducible assumption)
  try simp only [Act.put, List.setIfInBounds_toArray, List.set_cons_zero, List.set_cons_succ]
  refine wpT_takeP 2 (v := ?_) rfl (by kernel_rfl) (fun _ _ _ h => h) (by rfl) ?_ ?_ ?_
  rotate_left
  · (intro W; go_simp; first | done | with_reducible rfl)
  · (intro _; with_reducible assumption)
  try simp only [Act.put, List.setIfInBounds_toArray, List.set_cons_zero, List.set_cons_succ]
  refine wpT_takeP 3 (v := ?_) rfl (by kernel_rfl) (fun _ _ _ h => h) (by rfl) ?_ ?_ ?_
  rotate_left
  · (intro W; go_simp; first | done | with_reducible rfl)
  · (intro _; with_reducible assumption)
  try simp only [Act.put, List.setIfInBounds_toArray, List.set_cons_zero, List.set_cons_succ]
  refine wpT_takeP 4 (v := ?_) rfl (by kernel_rfl) (fun _ _ _ h => h) (by rfl) ?_ ?_ ?_
  rotate_left
  · (intro W; go_simp; first | done | with_reducible rfl)
  · (intro _; with_reducible assumption)
  try simp only [Act.put, List.setIfInBounds_toArray, List.set_cons_zero, List.set_cons_succ]
  refine wpT_takeP 6 (v := ?_) rfl (by kernel_rfl) (fun _ _ _ h => h) (by rfl) ?_ ?_ ?_
  rotate_left
  · (intro W; go_simp; first | done | with_reducible rfl)
  · (intro _; with_reducible assumption)
  try simp only [Act.put, List.setIfInBounds_toArray, List.set_cons_zero, List.set_cons_succ]
  refine wpT_takeP 8 (v := ?_) rfl (by kernel_rfl) (fun _ _ _ h => h) (by rfl) ?_ ?_ ?_
  rotate_left
  · (intro W; go_simp; first | done | with_reducible rfl)
  · (intro _; with_reducible assumption)
  try simp only [Act.put, List.setIfInBounds_toArray, List.set_cons_zero, List.set_cons_succ]
  refine wpT_takeP 9 (v := ?_) rfl (by kernel_rfl) (fun _ _ _ h => h) (by rfl) ?_ ?_ ?_
  rotate_left
  · (intro W; go_simp; first | done | with_reducible rfl)
  · (intro _; with_reducible assumption)
  try simp only [Act.put, List.setIfInBounds_toArray, List.set_cons_zero, List.set_cons_succ]
  refine wpT_takeP 11 (v := ?_) rfl (by kernel_rfl) (fun _ _ _ h => h) (by rfl) ?_ ?_ ?_
  rotate_left
  · (intro W; go_simp; first | done | with_reducible rfl)
  · (intro _; with_reducible assumption)
  try simp only [Act.put, List.setIfInBounds_toArray, List.set_cons_zero, List.set_cons_succ]
  refine wpT_takeP 13 (v := ?_) rfl (by kernel_rfl) (fun _ _ _ h => h) (by rfl) ?_ ?_ ?_
  rotate_left
  · (intro W; go_simp; first | done | with_reducible rfl)
  · (intro _; with_reducible assumption)
  try simp only [Act.put, List.setIfInBounds_toArray, List.set_cons_zero, List.set_cons_succ]
  refine wpT_takeP 14 (v := ?_) rfl (by kernel_rfl) (fun _ _ _ h => h) (by rfl) ?_ ?_ ?_
  rotate_left
  · (intro W; go_simp; first | done | with_reducible rfl)
  · (intro _; with_reducible assumption)
  try simp only [Act.put, List.setIfInBounds_toArray, List.set_cons_zero, List.set_cons_succ]
  refine wpT_takeP 16 (v := ?_) rfl (by kernel_rfl) (fun _ _ _ h => h) (by rfl) ?_ ?_ ?_
  rotate_left
  · (intro W; go_simp; first | done | with_reducible rfl)
  · (intro _; with_reducible assumption)
  try simp only [Act.put, List.setIfInBounds_toArray, List.set_cons_zero, List.set_cons_succ]
  refine wpT_take 5 20 (v := ?_) rfl (by kernel_rfl) (fun _ _ _ h => h) (by rfl) ?_ HS ?_
  rotate_left
  · (intro W hW; (try dsimp only at hW); go_split_ands; go_simp; first | done | with_reducible rfl)
  try simp only [Act.put, List.setIfInBounds_toArray, List.set_cons_zero, List.set_cons_succ]
  refine wpT_take 10 20 (v := ?_) rfl (by kernel_rfl) (fun _ _ _ h => h) (by rfl) ?_ HS ?_
  rotate_left
  · (intro W hW; (try dsimp only at hW); go_split_ands; go_simp; first | done | with_reducible rfl)
  try simp only [Act.put, List.setIfInBounds_toArray, List.set_cons_zero, List.set_cons_succ]
  refine wpT_take 15 20 (v := ?_) rfl (by kernel_rfl) (fun _ _ _ h => h) (by rfl) ?_ HS ?_
  rotate_left
  · (intro W hW; (try dsimp only at hW); go_split_ands; go_simp; first | done | with_reducible rfl)
  try simp only [Act.put, List.setIfInBounds_toArray, List.set_cons_zero, List.set_cons_succ]
  refine wpT_one 7 (by kernel_rfl) rfl (fun K hK => ?_)
  go_simp
  refine (mod13q h h' hB.out _).mono ?_
  rintro e w' ⟨rfl, hw⟩; subst hw
  refine hK.out _ _ ?_ ?_
  · (first | (intro _; with_reducible assumption) | (intro h0; cases h0))
  clear hK K
  try simp only [Act.put, List.setIfInBounds_toArray, List.set_cons_zero, List.set_cons_succ]
  refine wpT_takeP 18 (v := ?_) rfl (by kernel_rfl) (fun _ _ _ h => h) (by rfl) ?_ ?_ ?_
  rotate_left
  · (intro W; go_simp; first | done | with_reducible rfl)
  · (intro _; with_reducible assumption)
  try simp only [Act.put, List.setIfInBounds_toArray, List.set_cons_zero, List.set_cons_succ]
  refine wpT_one 12 (by kernel_rfl) rfl (fun K hK => ?_)
  go_simp
  refine (mod13q h h' hY.out _).mono ?_
  rintro e w' ⟨rfl, hw⟩; subst hw
  refine hK.out _ _ ?_ ?_
  · (first | (intro _; with_reducible assumption) | (intro h0; cases h0))
  clear hK K
  try simp only [Act.put, List.setIfInBounds_toArray, List.set_cons_zero, List.set_cons_succ]
  refine wpT_one 17 (by kernel_rfl) rfl (fun K hK => ?_)
  go_simp
  refine (mod13q h h' hS.out _).mono ?_
  rintro e w' ⟨rfl, hw⟩; subst hw
  refine hK.out _ _ ?_ ?_
  · (first | (intro _; with_reducible assumption) | (intro h0; cases h0))
  clear hK K
  try simp only [Act.put, List.setIfInBounds_toArray, List.set_cons_zero, List.set_cons_succ]
  refine wpT_one 19 (by kernel_rfl) rfl (fun K hK => ?_)
  go_simp
  refine hK.out _ _ ?_ ?_
  · (intro h0; cases h0)
  clear hK K
  try simp only [Act.put, List.setIfInBounds_toArray, List.set_cons_zero, List.set_cons_succ]
  refine wpT_takeP 20 (v := ?_) rfl (by kernel_rfl) (fun _ _ _ h => h) (by rfl) ?_ ?_ ?_
  rotate_left
  · (intro W; go_simp; first | done | with_reducible rfl)
  · (intro h0; cases h0)
  try simp only [Act.put, List.setIfInBounds_toArray, List.set_cons_zero, List.set_cons_succ]
  refine wpT_one 21 (by kernel_rfl) rfl (fun K hK => ?_)
  go_simp
  refine hK.out _ _ ?_ ?_
  · (intro h0; cases h0)
  clear hK K
  try simp only [Act.put, List.setIfInBounds_toArray, List.set_cons_zero, List.set_cons_succ]
  refine wpT_takeP 22 (v := ?_) rfl (by kernel_rfl) (fun _ _ _ h => h) (by rfl) ?_ ?_ ?_
  rotate_left
  · (intro W; go_simp; first | done | with_reducible rfl)
  · (intro h0; cases h0)
  try simp only [Act.put, List.setIfInBounds_toArray, List.set_cons_zero, List.set_cons_succ]
  refine wpT_one 23 (by kernel_rfl) rfl (fun K hK => ?_)
  go_simp
  refine hK.out _ _ ?_ ?_
  · (intro h0; cases h0)
  clear hK K
  try simp only [Act.put, List.setIfInBounds_toArray, List.set_cons_zero, List.set_cons_succ]
  refine wpT_done (by kernel_rfl) ?_ _
  go_wp2_with fail
  rw [rounds_succ]
  go_wp2_with fail
  refine wp_region_T (fun w' => w'.cell? ⟨w.heap.size, 2, none⟩ = some (.int .i64 c) ∧ w'.cell? ⟨w.heap.size + 1, 2, none⟩ = some (.int .i64 z) ∧ w'.cell? ⟨w.heap.size + 1 + 1, 2, none⟩ = some (.int .i64 t)) 17 (by kernel_rfl) ?_ ?_
  · simp [go_sem]
  intro HS
  refine wpT_takeP 0 (v := ?_) rfl (by kernel_rfl) (fun _ _ _ h => h) (by rfl) ?_ ?_ ?_
  rotate_left
  · (intro W; go_simp; first | done | with_reducible rfl)
  · (intro _; with_reducible assumption)
  try simp only [Act.put, List.setIfInBounds_toArray, List.set_cons_zero, List.set_cons_succ]
  refine wpT_takeP 1 (v := ?_) rfl (by kernel_rfl) (fun _ _ _ h => h) (by rfl) ?_ ?_ ?_
  rotate_left
  · (intro W; go_simp; first | done | with_reducible rfl)
  · (intro _; with_reducible assumption)
  try simp only [Act.put, List.setIfInBounds_toArray, List.set_cons_zero, List.set_cons_succ]
  refine wpT_takeP 2 (v := ?_) rfl (by kernel_rfl) (fun _ _ _ h => h) (by rfl) ?_ ?_ ?_
  rotate_left
  · (intro W; go_simp; first | done | with_reducible rfl)
  · (intro _; with_reducible assumption)
  try simp only [Act.put, List.setIfInBounds_toArray, List.set_cons_zero, List.set_cons_succ]
  refine wpT_takeP 3 (v := ?_) rfl (by kernel_rfl) (fun _ _ _ h => h) (by rfl) ?_ ?_ ?_
  rotate_left
  · (intro W; go_simp; first | done | with_reducible rfl)
  · (intro _; with_reducible assumption)
  try simp only [Act.put, List.setIfInBounds_toArray, List.set_cons_zero, List.set_cons_succ]
  refine wpT_takeP 4 (v := ?_) rfl (by kernel_rfl) (fun _ _ _ h => h) (by rfl) ?_ ?_ ?_
  rotate_left
  · (intro W; go_simp; first | done | with_reducible rfl)
  · (intro _; with_reducible assumption)
  try simp only [Act.put, List.setIfInBounds_toArray, List.set_cons_zero, List.set_cons_succ]
  refine wpT_takeP 6 (v := ?_) rfl (by kernel_rfl) (fun _ _ _ h => h) (by rfl) ?_ ?_ ?_
  rotate_left
  · (intro W; go_simp; first | done | with_reducible rfl)
  · (intro _; with_reducible assumption)
  try simp only [Act.put, List.setIfInBounds_toArray, List.set_cons_zero, List.set_cons_succ]
  refine wpT_takeP 8 (v := ?_) rfl (by kernel_rfl) (fun _ _ _ h => h) (by rfl) ?_ ?_ ?_
  rotate_left
  · (intro W; go_simp; first | done | with_reducible rfl)
  · (intro _; with_reducible assumption)
  try simp only [Act.put, List.setIfInBounds_toArray, List.set_cons_zero, List.set_cons_succ]
  refine wpT_takeP 9 (v := ?_) rfl (by kernel_rfl) (fun _ _ _ h => h) (by rfl) ?_ ?_ ?_
  rotate_left
  · (intro W; go_simp; first | done | with_reducible rfl)
  · (intro _; with_reducible assumption)
  try simp only [Act.put, List.setIfInBounds_toArray, List.set_cons_zero, List.set_cons_succ]
  refine wpT_takeP 11 (v := ?_) rfl (by kernel_rfl) (fun _ _ _ h => h) (by rfl) ?_ ?_ ?_
  rotate_left
  · (intro W; go_simp; first | done | with_reducible rfl)
  · (intro _; with_reducible assumption)
  try simp only [Act.put, List.setIfInBounds_toArray, List.set_cons_zero, List.set_cons_succ]
  refine wpT_takeP 13 (v := ?_) rfl (by kernel_rfl) (fun _ _ _ h => h) (by rfl) ?_ ?_ ?_
  rotate_left
  · (intro W; go_simp; first | done | with_reducible rfl)
  · (intro _; with_reducible assumption)
  try simp only [Act.put, List.setIfInBounds_toArray, List.set_cons_zero, List.set_cons_succ]
  refine wpT_takeP 14 (v := ?_) rfl (by kernel_rfl) (fun _ _ _ h => h) (by rfl) ?_ ?_ ?_
  rotate_left
  · (intro W; go_simp; first | done | with_reducible rfl)
  · (intro _; with_reducible assumption)
  try simp only [Act.put, List.setIfInBounds_toArray, List.set_cons_zero, List.set_cons_succ]
  refine wpT_takeP 16 (v := ?_) rfl (by kernel_rfl) (fun _ _ _ h => h) (by rfl) ?_ ?_ ?_
  rotate_left
  · (intro W; go_simp; first | done | with_reducible rfl)
  · (intro _; with_reducible assumption)
  try simp only [Act.put, List.setIfInBounds_toArray, List.set_cons_zero, List.set_cons_succ]
  refine wpT_take 5 20 (v := ?_) rfl (by kernel_rfl) (fun _ _ _ h => h) (by rfl) ?_ HS ?_
  rotate_left
  · (intro W hW; (try dsimp only at hW); go_split_ands; go_simp; first | done | with_reducible rfl)
  try simp only [Act.put, List.setIfInBounds_toArray, List.set_cons_zero, List.set_cons_succ]
  refine wpT_take 10 20 (v := ?_) rfl (by kernel_rfl) (fun _ _ _ h => h) (by rfl) ?_ HS ?_
  rotate_left
  · (intro W hW; (try dsimp only at hW); go_split_ands; go_simp; first | done | with_reducible rfl)
  try simp only [Act.put, List.setIfInBounds_toArray, List.set_cons_zero, List.set_cons_succ]
  refine wpT_take 15 20 (v := ?_) rfl (by kernel_rfl) (fun _ _ _ h => h) (by rfl) ?_ HS ?_
  rotate_left
  · (intro W hW; (try dsimp only at hW); go_split_ands; go_simp; first | done | with_reducible rfl)
  try simp only [Act.put, List.setIfInBounds_toArray, List.set_cons_zero, List.set_cons_succ]
  refine wpT_one 7 (by kernel_rfl) rfl (fun K hK => ?_)
  go_simp
  refine (mod13q h h' hC.out _).mono ?_
  rintro e w' ⟨rfl, hw⟩; subst hw
  refine hK.out _ _ ?_ ?_
  · (first | (intro _; with_reducible assumption) | (intro h0; cases h0))
  clear hK K
  try simp only [Act.put, List.setIfInBounds_toArray, List.set_cons_zero, List.set_cons_succ]
  refine wpT_takeP 18 (v := ?_) rfl (by kernel_rfl) (fun _ _ _ h => h) (by rfl) ?_ ?_ ?_
  rotate_left
  · (intro W; go_simp; first | done | with_reducible rfl)
  · (intro _; with_reducible assumption)
  try simp only [Act.put, List.setIfInBounds_toArray, List.set_cons_zero, List.set_cons_succ]
  refine wpT_one 12 (by kernel_rfl) rfl (fun K hK => ?_)
  go_simp
  refine (mod13q h h' hZ.out _).mono ?_
  rintro e w' ⟨rfl, hw⟩; subst hw
  refine hK.out _ _ ?_ ?_
  · (first | (intro _; with_reducible assumption) | (intro h0; cases h0))
  clear hK K
  try simp only [Act.put, List.setIfInBounds_toArray, List.set_cons_zero, List.set_cons_succ]
  refine wpT_one 17 (by kernel_rfl) rfl (fun K hK => ?_)
  go_simp
  refine (mod13q h h' hT.out _).mono ?_
  rintro e w' ⟨rfl, hw⟩; subst hw
  refine hK.out _ _ ?_ ?_
  · (first | (intro _; with_reducible assumption) | (intro h0; cases h0))
  clear hK K
  try simp only [Act.put, List.setIfInBounds_toArray, List.set_cons_zero, List.set_cons_succ]
  refine wpT_one 19 (by kernel_rfl) rfl (fun K hK => ?_)
  go_simp
  refine hK.out _ _ ?_ ?_
  · (intro h0; cases h0)
  clear hK K
  try simp only [Act.put, List.setIfInBounds_toArray, List.set_cons_zero, List.set_cons_succ]
  refine wpT_takeP 20 (v := ?_) rfl (by kernel_rfl) (fun _ _ _ h => h) (by rfl) ?_ ?_ ?_
  rotate_left
  · (intro W; go_simp; first | done | with_reducible rfl)
  · (intro h0; cases h0)
  try simp only [Act.put, List.setIfInBounds_toArray, List.set_cons_zero, List.set_cons_succ]
  refine wpT_one 21 (by kernel_rfl) rfl (fun K hK => ?_)
  go_simp
  refine hK.out _ _ ?_ ?_
  · (intro h0; cases h0)
  clear hK K
  try simp only [Act.put, List.setIfInBounds_toArray, List.set_cons_zero, List.set_cons_succ]
  refine wpT_takeP 22 (v := ?_) rfl (by kernel_rfl) (fun _ _ _ h => h) (by rfl) ?_ ?_ ?_
  rotate_left
  · (intro W; go_simp; first | done | with_reducible rfl)
  · (intro h0; cases h0)
  try simp only [Act.put, List.setIfInBounds_toArray, List.set_cons_zero, List.set_cons_succ]
  refine wpT_one 23 (by kernel_rfl) rfl (fun K hK => ?_)
  go_simp
  refine hK.out _ _ ?_ ?_
  · (intro h0; cases h0)
  clear hK K
  try simp only [Act.put, List.setIfInBounds_toArray, List.set_cons_zero, List.set_cons_succ]
  refine wpT_done (by kernel_rfl) ?_ _
  go_wp2_with fail
  rw [rounds_succ]
  go_wp2_with fail
  simp only [HE.out]
  refine (mod13 _ _ h h' _).mono ?_
  rintro e w1 ⟨rfl, rfl⟩
  go_wp2
  go_ret
  exact ⟨rfl, by repeat (first | exact Below.refl _ _ | refine Below.drew ?_ | refine ba_below' ?_ (Nat.le_refl _) _)⟩

theorem detF16 (a b c x y z r s t p : Int) (h : 2 ≤ p) (h' : p ≤ 13) (w : World) :
    Calls Try.prog 16 #[.agg #[.int .i64 a, .int .i64 b, .int .i64 c], .agg #[.int .i64 x, .int .i64 y, .int .i64 z], .agg #[.int .i64 r, .int .i64 s, .int .i64 t], .int .i64 p] w fun e w' =>
      e = .returned (.int .i64 ((a % p * (y % p * (t % p) - z % p * (s % p)) - b % p * (x % p * (t % p) - z % p * (r % p)) + c % p * (x % p * (s % p) - y % p * (r % p))) % p)) ∧ Below w.heap.size w w' :=
  detF16e a b c x y z r s t p _ _ _ _ _ _ _ _ _ h h' rfl rfl rfl rfl rfl rfl rfl rfl rfl
    (det_unwrap (em12' a p h h') (em12' b p h h') (em12' c p h h') (em12' x p h h') (em12' y p h h') (em12' z p h h') (em12' r p h h') (em12' s p h h') (em12' t p h h')) w
end Go.Proofs.Ytfdbkocpljiehaa
