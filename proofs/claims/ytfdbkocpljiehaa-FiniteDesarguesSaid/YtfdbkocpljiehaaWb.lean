/- Walks: cross, dot, plain, prime. -/
import Derived.Test.YtfdbkocpljiehaaWa
import Derived.LoopN
import Derived.Handy
namespace Go.Proofs.Ytfdbkocpljiehaa
open Go.RowKit

/-- a product's bounds -/
theorem mb {a b : Int} (ha : -13 ≤ a ∧ a ≤ 13) (hb : -13 ≤ b ∧ b ≤ 13) : -169 ≤ a * b ∧ a * b ≤ 169 := by
  have h : (a * b).natAbs ≤ 13 * 13 := by
    rw [Int.natAbs_mul]
    exact Nat.mul_le_mul (by omega) (by omega)
  omega

theorem mbb {a b : Int} (ha : -13 ≤ a ∧ a ≤ 13) (hb : -169 ≤ b ∧ b ≤ 169) : -2197 ≤ a * b ∧ a * b ≤ 2197 := by
  have h : (a * b).natAbs ≤ 13 * 169 := by
    rw [Int.natAbs_mul]
    exact Nat.mul_le_mul (by omega) (by omega)
  omega

set_option maxHeartbeats 1000000 in
theorem cross37 (a b c x y z : Int) (ha : -13 ≤ a ∧ a ≤ 13) (hb : -13 ≤ b ∧ b ≤ 13) (hc : -13 ≤ c ∧ c ≤ 13) (hx : -13 ≤ x ∧ x ≤ 13) (hy : -13 ≤ y ∧ y ≤ 13) (hz : -13 ≤ z ∧ z ≤ 13) (w : World) :
    Calls Try.prog 37 #[.agg #[.int .i64 a, .int .i64 b, .int .i64 c], .agg #[.int .i64 x, .int .i64 y, .int .i64 z]] w fun e w' =>
      e = .returned (.agg #[.int .i64 (b * z - c * y), .int .i64 (c * x - a * z), .int .i64 (a * y - b * x)]) ∧ Below w.heap.size w w' := by
  obtain ⟨m1, m2⟩ := mb hb hz
  obtain ⟨m3, m4⟩ := mb hc hy
  obtain ⟨m5, m6⟩ := mb hc hx
  obtain ⟨m7, m8⟩ := mb ha hz
  obtain ⟨m9, m10⟩ := mb ha hy
  obtain ⟨m11, m12⟩ := mb hb hx
  go_enter Try.func37, Try.ntmps37
  go_wp2
  go_returns
  exact ⟨rfl, by go_grown⟩

set_option maxHeartbeats 1000000 in
theorem prime35_yes (p : Int) (h : isP p = true) (w : World) :
    Calls Try.prog 35 #[.int .i64 p] w fun e w' => e = .returned (.bool true) ∧ w = w' := by
  unfold isP at h
  have hp : p = 2 ∨ p = 3 ∨ p = 5 ∨ p = 7 ∨ p = 11 ∨ p = 13 := by simpa [or_assoc] using h
  clear h
  rcases hp with rfl | rfl | rfl | rfl | rfl | rfl
  all_goals
    go_enter Try.func35, Try.ntmps35
    go_wp2
    go_ret
    exact ⟨rfl, rfl⟩

set_option maxHeartbeats 1000000 in
theorem prime35_no (p : Int) (h : isP p = false) (w : World) :
    Calls Try.prog 35 #[.int .i64 p] w fun e w' => e = .returned (.bool false) ∧ w = w' := by
  unfold isP at h
  simp only [Bool.or_eq_false_iff] at h
  obtain ⟨⟨⟨⟨⟨h1, h2⟩, h3⟩, h4⟩, h5⟩, h6⟩ := h
  go_enter Try.func35, Try.ntmps35
  go_wp2
  go_ret
  exact ⟨rfl, rfl⟩

set_option maxHeartbeats 1000000 in
theorem dot40 (a b c x y z p : Int) (h : 2 ≤ p) (h' : p ≤ 13) (ha : -13 ≤ a ∧ a ≤ 13) (hb : -13 ≤ b ∧ b ≤ 13) (hc : -13 ≤ c ∧ c ≤ 13) (hx : -169 ≤ x ∧ x ≤ 169) (hy : -169 ≤ y ∧ y ≤ 169) (hz : -169 ≤ z ∧ z ≤ 169) (w : World) :
    Calls Try.prog 40 #[.agg #[.int .i64 a, .int .i64 b, .int .i64 c], .agg #[.int .i64 x, .int .i64 y, .int .i64 z], .int .i64 p] w fun e w' =>
      e = .returned (.int .i64 ((a * x + b * y + c * z) % p)) ∧ Below w.heap.size w w' := by
  obtain ⟨m1, m2⟩ := mbb ha hx
  obtain ⟨m3, m4⟩ := mbb hb hy
  obtain ⟨m5, m6⟩ := mbb hc hz
  go_enter Try.func40, Try.ntmps40
  go_wp2_with (go_at_call 42; refine (mod42 _ _ (by omega) (by omega) _).mono ?_; rintro e w' ⟨rfl, rfl⟩)
  go_ret
  exact ⟨rfl, by go_grown⟩

end Go.Proofs.Ytfdbkocpljiehaa
