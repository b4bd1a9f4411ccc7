/- Walks: plainF whole, isPrime, counted. -/
import Derived.Test.YtfdbkocpljiehaaWd
import Derived.Test.YtfdbkocpljiehaaWj
import Derived.Test.YtfdbkocpljiehaaWo
import Derived.Test.YtfdbkocpljiehaaMa
set_option linter.unusedSimpArgs false
set_option linter.unusedVariables false
namespace Go.Proofs.Ytfdbkocpljiehaa
open Go.RowKit

theorem plainF21e (a b c p u0 u1 u2 : Int) (z : Bool) (hu : pl p a b c = (u0, u1, u2)) (hz : zz p a b c = z) (hp : isP p = true) (w : World) :
    Calls Try.prog 21 #[.agg #[.int .i64 a, .int .i64 b, .int .i64 c], .int .i64 p] w fun e w' =>
      e = .returned (.tuple #[.agg #[.int .i64 u0, .int .i64 u1, .int .i64 u2], .bool (!z)]) ∧ Below w.heap.size w w' := by
  obtain ⟨h, h'⟩ := isP_bd hp
  have z0 : ∀ k : Int, (0 : Int) * k % p = 0 := fun k => by rw [Int.zero_mul, Int.zero_emod]
  by_cases ha : a % p = 0
  · by_cases hb : b % p = 0
    · by_cases hc : c % p = 0
      · have e : pl p a b c = (0, 0, 0) := pl_zero (by simp [zz, ha, hb, hc])
        have e2 : zz p a b c = true := by simp [zz, ha, hb, hc]
        rw [e] at hu; rw [e2] at hz; cases hu; subst hz
        exact plainF21_z a b c p h h' ha hb hc w
      · have bc := em_bd (by omega) c (p := p)
        have o := ov_ok hp (show 0 < c % p by omega) bc.2
        have e2 : zz p a b c = false := by simp [zz, ha, hb, hc]
        have e : pl p a b c = (0, 0, c % p * ov p (c % p) % p) := by
          unfold pl; rw [if_neg (by simp [ha]), if_neg (by simp [hb]), if_pos hc, ha, hb]; dsimp only; rw [z0]
        rw [e] at hu; rw [e2] at hz; cases hu; subst hz
        exact plainF21_c a b c p h h' ha hb o.1 w fun k h1 h2 => by simpa using o.2.2.2 k h1 h2
    · have bb := em_bd (by omega) b (p := p)
      have o := ov_ok hp (show 0 < b % p by omega) bb.2
      have e2 : zz p a b c = false := by simp [zz, ha, hb]
      have e : pl p a b c = (0, b % p * ov p (b % p) % p, c % p * ov p (b % p) % p) := by
        unfold pl; rw [if_neg (by simp [ha]), if_pos hb, ha]; dsimp only; rw [z0]
      rw [e] at hu; rw [e2] at hz; cases hu; subst hz
      exact plainF21_b a b c p h h' ha o.1 w fun k h1 h2 => by simpa using o.2.2.2 k h1 h2
  · have ba := em_bd (by omega) a (p := p)
    have o := ov_ok hp (show 0 < a % p by omega) ba.2
    have e2 : zz p a b c = false := by simp [zz, ha]
    have e : pl p a b c = (a % p * ov p (a % p) % p, b % p * ov p (a % p) % p, c % p * ov p (a % p) % p) := by
      unfold pl; rw [if_pos ha]
    rw [e] at hu; rw [e2] at hz; cases hu; subst hz
    exact plainF21_a a b c p h h' o.1 w fun k h1 h2 => by simpa using o.2.2.2 k h1 h2

set_option maxRecDepth 100000 in
set_option maxHeartbeats 2000000 in
theorem isPrime15_yes (p : Int) (h : isP p = true) (w : World) :
    Calls Try.prog 15 #[.int .i64 p] w fun e w' => e = .returned (.bool true) ∧ Below w.heap.size w w' := by
  rcases isP_cases h with rfl | rfl | rfl | rfl | rfl | rfl
  all_goals
    clear h
    go_enter Try.func15, Try.ntmps15
    go_wp2
    refine wp_loop_rounds 7 ?_
    repeat any_goals (rw [rounds_succ]; go_wp2)
    go_ret
    exact ⟨rfl, by go_grown⟩

set_option maxRecDepth 100000 in
set_option maxHeartbeats 2000000 in
theorem isPrime15_no (p : Int) (h : isP p = false) (w : World) :
    Calls Try.prog 15 #[.int .i64 p] w fun e w' => e = .returned (.bool false) ∧ Below w.heap.size w w' := by
  unfold isP at h
  simp only [Bool.or_eq_false_iff] at h
  obtain ⟨⟨⟨⟨⟨h1, h2⟩, h3⟩, h4⟩, h5⟩, h6⟩ := h
  go_enter Try.func15, Try.ntmps15
  go_wp2
  refine wp_loop_rounds 7 ?_
  repeat any_goals (rw [rounds_succ]; go_wp2)
  go_ret
  exact ⟨rfl, by go_grown⟩

end Go.Proofs.Ytfdbkocpljiehaa
