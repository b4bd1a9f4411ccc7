/- Walks: plain. -/
import Derived.Test.YtfdbkocpljiehaaWb
namespace Go.Proofs.Ytfdbkocpljiehaa
open Go.RowKit

@[go_sem] theorem ix0 (x y z : Int) (w : World) : (Instr.index 27 (.agg #[.int .i64 x, .int .i64 y, .int .i64 z]) (.int .i64 0)).run Try.prog w = .ok (.int .i64 x) w := by kernel_rfl
@[go_sem] theorem ix1 (x y z : Int) (w : World) : (Instr.index 27 (.agg #[.int .i64 x, .int .i64 y, .int .i64 z]) (.int .i64 1)).run Try.prog w = .ok (.int .i64 y) w := by kernel_rfl
@[go_sem] theorem ix2 (x y z : Int) (w : World) : (Instr.index 27 (.agg #[.int .i64 x, .int .i64 y, .int .i64 z]) (.int .i64 2)).run Try.prog w = .ok (.int .i64 z) w := by kernel_rfl

set_option maxRecDepth 100000 in
set_option maxHeartbeats 1000000 in
theorem plain36_no (a b c p : Int) (h : 2 ≤ p) (h' : p ≤ 13) (ha : (a % p != 0) = false) (hb : (b % p != 0) = false) (hc : (c % p != 0) = false) (w : World) :
    Calls Try.prog 36 #[.agg #[.int .i64 a, .int .i64 b, .int .i64 c], .int .i64 p] w fun e w' =>
      e = .returned (.tuple #[.agg #[.int .i64 (a % p), .int .i64 (b % p), .int .i64 (c % p)], .bool false]) ∧ Below w.heap.size w w' := by
  go_enter Try.func36, Try.ntmps36
  go_wp2
  refine wp_loop_rounds 4 ?_
  repeat any_goals (rw [rounds_succ]; go_wp2_with (go_at_call 42; refine (mod42 _ _ (by omega) (by omega) _).mono ?_; rintro e w' ⟨rfl, rfl⟩))
  refine wp_loop_rounds 4 ?_
  repeat any_goals (rw [rounds_succ]; go_wp2)
  go_returns
  exact ⟨rfl, by go_grown⟩

theorem fi_bd (p x : Int) : ∀ (f : Nat) (k : Int), 0 ≤ k → k + f ≤ p → 0 ≤ fi p x f k ∧ fi p x f k < p ∨ fi p x f k = 0
  | 0, _, _, _ => .inr rfl
  | f + 1, k, h0, h => by
    unfold fi
    split
    · exact .inl ⟨h0, by omega⟩
    · exact fi_bd p x f (k + 1) (by omega) (by omega)
theorem ov_bd (p x : Int) (h : 2 ≤ p) (h' : p ≤ 13) : -13 ≤ ov p x ∧ ov p x ≤ 13 := by
  have := fi_bd p x (p - 1).toNat 1 (by omega) (by omega)
  unfold ov; omega
theorem em13 (a p : Int) (h : 2 ≤ p) (h' : p ≤ 13) : -13 ≤ a % p ∧ a % p ≤ 13 := by
  have := Int.emod_nonneg a (show p ≠ 0 by omega)
  have := Int.emod_lt_of_pos a (show 0 < p by omega)
  omega

set_option maxRecDepth 100000 in
set_option maxHeartbeats 1000000 in
theorem plain36_a (a b c p : Int) (h : 2 ≤ p) (h' : p ≤ 13) (ha : (a % p != 0) = true) (w : World) :
    Calls Try.prog 36 #[.agg #[.int .i64 a, .int .i64 b, .int .i64 c], .int .i64 p] w fun e w' =>
      e = .returned (.tuple #[.agg #[.int .i64 (a % p * ov p (a % p) % p), .int .i64 (b % p * ov p (a % p) % p), .int .i64 (c % p * ov p (a % p) % p)], .bool true]) ∧ Below w.heap.size w w' := by
  have ba := em13 a p h h'
  have bb := em13 b p h h'
  have bc := em13 c p h h'
  have bk := ov_bd p (a % p) h h'
  obtain ⟨m1, m2⟩ := mb ba bk
  obtain ⟨m3, m4⟩ := mb bb bk
  obtain ⟨m5, m6⟩ := mb bc bk
  have n1 : 0 ≤ a % p := Int.emod_nonneg _ (by omega)
  have n3 : a % p ≤ 12 := by have := Int.emod_lt_of_pos a (show 0 < p by omega); omega
  clear ba bb bc bk
  go_enter Try.func36, Try.ntmps36
  go_wp2
  refine wp_loop_rounds 4 ?_
  repeat any_goals (rw [rounds_succ]; go_wp2_with (go_at_call 42; refine (mod42 _ _ (by omega) (by omega) _).mono ?_; rintro e w' ⟨rfl, rfl⟩))
  refine wp_loop_rounds 4 ?_
  repeat any_goals (rw [rounds_succ]; go_wp2_with (go_at_call 44; refine (over44 _ _ (by omega) (by omega) (by omega) (by omega) _).mono ?_; rintro e w' ⟨rfl, rfl⟩))
  refine wp_loop_rounds 4 ?_
  repeat any_goals (rw [rounds_succ]; go_wp2_with (go_at_call 42; refine (mod42 _ _ (by omega) (by omega) _).mono ?_; rintro e w' ⟨rfl, rfl⟩))
  go_returns
  exact ⟨rfl, by go_grown⟩

set_option maxRecDepth 100000 in
set_option maxHeartbeats 1000000 in
theorem plain36_b (a b c p : Int) (h : 2 ≤ p) (h' : p ≤ 13) (ha : (a % p != 0) = false) (hb : (b % p != 0) = true) (w : World) :
    Calls Try.prog 36 #[.agg #[.int .i64 a, .int .i64 b, .int .i64 c], .int .i64 p] w fun e w' =>
      e = .returned (.tuple #[.agg #[.int .i64 (a % p * ov p (b % p) % p), .int .i64 (b % p * ov p (b % p) % p), .int .i64 (c % p * ov p (b % p) % p)], .bool true]) ∧ Below w.heap.size w w' := by
  have ba := em13 a p h h'
  have bb := em13 b p h h'
  have bc := em13 c p h h'
  have bk := ov_bd p (b % p) h h'
  obtain ⟨m1, m2⟩ := mb ba bk
  obtain ⟨m3, m4⟩ := mb bb bk
  obtain ⟨m5, m6⟩ := mb bc bk
  have n1 : 0 ≤ b % p := Int.emod_nonneg _ (by omega)
  have n3 : b % p ≤ 12 := by have := Int.emod_lt_of_pos b (show 0 < p by omega); omega
  clear ba bb bc bk
  go_enter Try.func36, Try.ntmps36
  go_wp2
  refine wp_loop_rounds 4 ?_
  repeat any_goals (rw [rounds_succ]; go_wp2_with (go_at_call 42; refine (mod42 _ _ (by omega) (by omega) _).mono ?_; rintro e w' ⟨rfl, rfl⟩))
  refine wp_loop_rounds 4 ?_
  repeat any_goals (rw [rounds_succ]; go_wp2_with (go_at_call 44; refine (over44 _ _ (by omega) (by omega) (by omega) (by omega) _).mono ?_; rintro e w' ⟨rfl, rfl⟩))
  refine wp_loop_rounds 4 ?_
  repeat any_goals (rw [rounds_succ]; go_wp2_with (go_at_call 42; refine (mod42 _ _ (by omega) (by omega) _).mono ?_; rintro e w' ⟨rfl, rfl⟩))
  go_returns
  exact ⟨rfl, by go_grown⟩

set_option maxRecDepth 100000 in
set_option maxHeartbeats 1000000 in
theorem plain36_c (a b c p : Int) (h : 2 ≤ p) (h' : p ≤ 13) (ha : (a % p != 0) = false) (hb : (b % p != 0) = false) (hc : (c % p != 0) = true) (w : World) :
    Calls Try.prog 36 #[.agg #[.int .i64 a, .int .i64 b, .int .i64 c], .int .i64 p] w fun e w' =>
      e = .returned (.tuple #[.agg #[.int .i64 (a % p * ov p (c % p) % p), .int .i64 (b % p * ov p (c % p) % p), .int .i64 (c % p * ov p (c % p) % p)], .bool true]) ∧ Below w.heap.size w w' := by
  have ba := em13 a p h h'
  have bb := em13 b p h h'
  have bc := em13 c p h h'
  have bk := ov_bd p (c % p) h h'
  obtain ⟨m1, m2⟩ := mb ba bk
  obtain ⟨m3, m4⟩ := mb bb bk
  obtain ⟨m5, m6⟩ := mb bc bk
  have n1 : 0 ≤ c % p := Int.emod_nonneg _ (by omega)
  have n3 : c % p ≤ 12 := by have := Int.emod_lt_of_pos c (show 0 < p by omega); omega
  clear ba bb bc bk
  go_enter Try.func36, Try.ntmps36
  go_wp2
  refine wp_loop_rounds 4 ?_
  repeat any_goals (rw [rounds_succ]; go_wp2_with (go_at_call 42; refine (mod42 _ _ (by omega) (by omega) _).mono ?_; rintro e w' ⟨rfl, rfl⟩))
  refine wp_loop_rounds 4 ?_
  repeat any_goals (rw [rounds_succ]; go_wp2_with (go_at_call 44; refine (over44 _ _ (by omega) (by omega) (by omega) (by omega) _).mono ?_; rintro e w' ⟨rfl, rfl⟩))
  refine wp_loop_rounds 4 ?_
  repeat any_goals (rw [rounds_succ]; go_wp2_with (go_at_call 42; refine (mod42 _ _ (by omega) (by omega) _).mono ?_; rintro e w' ⟨rfl, rfl⟩))
  go_returns
  exact ⟨rfl, by go_grown⟩

theorem plain36_yes (a b c p : Int) (h : 2 ≤ p) (h' : p ≤ 13) (hz : zz p a b c = false) (w : World) :
    Calls Try.prog 36 #[.agg #[.int .i64 a, .int .i64 b, .int .i64 c], .int .i64 p] w fun e w' =>
      e = .returned (.tuple #[.agg #[.int .i64 (pl p a b c).1, .int .i64 (pl p a b c).2.1, .int .i64 (pl p a b c).2.2], .bool true]) ∧ Below w.heap.size w w' := by
  by_cases ha : a % p = 0
  · by_cases hb : b % p = 0
    · have hc : ¬ c % p = 0 := fun hc => by simp [zz, ha, hb, hc] at hz
      have e : pl p a b c = (a % p * ov p (c % p) % p, b % p * ov p (c % p) % p, c % p * ov p (c % p) % p) := by
        unfold pl; rw [if_neg (by simp [ha]), if_neg (by simp [hb]), if_pos hc]
      rw [e]
      exact plain36_c a b c p h h' (by simp [ha]) (by simp [hb]) (by simp [hc]) w
    · have e : pl p a b c = (a % p * ov p (b % p) % p, b % p * ov p (b % p) % p, c % p * ov p (b % p) % p) := by
        unfold pl; rw [if_neg (by simp [ha]), if_pos hb]
      rw [e]
      exact plain36_b a b c p h h' (by simp [ha]) (by simp [hb]) w
  · have e : pl p a b c = (a % p * ov p (a % p) % p, b % p * ov p (a % p) % p, c % p * ov p (a % p) % p) := by
      unfold pl; rw [if_pos ha]
    rw [e]
    exact plain36_a a b c p h h' (by simp [ha]) w
theorem plain36_zero (a b c p : Int) (h : 2 ≤ p) (h' : p ≤ 13) (hz : zz p a b c = true) (w : World) :
    Calls Try.prog 36 #[.agg #[.int .i64 a, .int .i64 b, .int .i64 c], .int .i64 p] w fun e w' =>
      e = .returned (.tuple #[.agg #[.int .i64 0, .int .i64 0, .int .i64 0], .bool false]) ∧ Below w.heap.size w w' := by
  simp only [zz, Bool.and_eq_true, beq_iff_eq] at hz
  obtain ⟨⟨ha, hb⟩, hc⟩ := hz
  have := plain36_no a b c p h h' (by simp [ha]) (by simp [hb]) (by simp [hc]) w
  rw [ha, hb, hc] at this
  exact this

end Go.Proofs.Ytfdbkocpljiehaa
