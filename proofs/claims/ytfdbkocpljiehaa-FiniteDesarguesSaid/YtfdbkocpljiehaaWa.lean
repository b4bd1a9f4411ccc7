/- Walks of the small functions. -/
import Derived.Test.YtfdbkocpljiehaaProg
import Derived.Test.YtfdbkocpljiehaaDefs
import Derived.WalkKit
import Derived.WalkSpells
import Derived.WalkLawsBesides
import Derived.Lib.Hide
import Derived.Outline
namespace Go.Proofs.Ytfdbkocpljiehaa
open Go.RowKit

theorem ret_int {k : IntKind} {a b : Int} (h : a = b) : Ending.returned (.int k a) = .returned (.int k b) := by rw [h]

theorem tmod_bd (x p : Int) (h : 1 ≤ p) : -p < x.tmod p ∧ x.tmod p < p := by
  have h1 := Int.tmod_lt_of_pos x (show 0 < p by omega)
  have h2 := Int.lt_tmod_of_pos x (show 0 < p by omega)
  omega
theorem tmod_emod (x p : Int) (h : 1 ≤ p) : (x.tmod p + p) % p = x % p := by
  rw [Int.add_emod_right, Int.tmod_eq_emod]
  split
  · simp
  · rw [Int.sub_emod]
    have : ((p.natAbs : Int)) = p := by omega
    rw [this]; simp

set_option maxHeartbeats 400000 in
theorem mod42 (x p : Int) (h : 2 ≤ p) (h' : p ≤ 13) (w : World) :
    Calls Try.prog 42 #[.int .i64 x, .int .i64 p] w fun e w' => e = .returned (.int .i64 (x % p)) ∧ w = w' := by
  have hb := tmod_bd x p (by omega)
  go_enter Try.func42, Try.ntmps42
  go_wp2
  go_ret
  exact ⟨ret_int (tmod_emod x p (by omega)), rfl⟩

set_option maxHeartbeats 400000 in
theorem mod13 (x p : Int) (h : 2 ≤ p) (h' : p ≤ 13) (w : World) :
    Calls Try.prog 13 #[.int .i64 x, .int .i64 p] w fun e w' => e = .returned (.int .i64 (x % p)) ∧ w = w' := by
  have hb := tmod_bd x p (by omega)
  go_enter Try.func13, Try.ntmps13
  go_wp2
  go_ret
  exact ⟨ret_int (tmod_emod x p (by omega)), rfl⟩

/-- what 'mod' gives at whatever modulus (it may wrap) -/
def modw (x p : Int) : Int := (wrap64 (x.tmod p + p)).tmod p
set_option maxHeartbeats 400000 in
theorem mod13_any (x p : Int) (h : 1 ≤ p) (w : World) :
    Calls Try.prog 13 #[.int .i64 x, .int .i64 p] w fun e w' => e = .returned (.int .i64 (modw x p)) ∧ w = w' := by
  have hb := tmod_bd x p (by omega)
  go_enter Try.func13, Try.ntmps13
  go_wp2
  go_ret
  exact ⟨rfl, rfl⟩

set_option maxHeartbeats 400000 in
theorem over44 (x p : Int) (h : 2 ≤ p) (h' : p ≤ 13) (hx : 0 ≤ x) (hx' : x ≤ 12) (w : World) :
    Calls Try.prog 44 #[.int .i64 x, .int .i64 p] w fun e w' => e = .returned (.int .i64 (ov p x)) ∧ w = w' := by
  have H0 : Hid (ov p x = ov p x) := rfl
  go_enter Try.func44, Try.ntmps44
  go_wp2
  go_loop [5] (fun i => ∃ k : Int, 1 ≤ k ∧ k ≤ p ∧ i = .int .i64 k ∧ Hid (ov p x = fi p x (p - k).toNat k)) (fun i => (p - intOf i).toNat)
  case atStart => exact ⟨1, by omega, by omega, rfl, rfl⟩
  case round =>
    obtain ⟨k, hk1, hk2, rfl, hk⟩ := hrel
    by_cases hlt : k < p
    · have hb1 : x * k ≤ 12 * k := Int.mul_le_mul_of_nonneg_right hx' (by omega)
      have hb2 : 0 ≤ x * k := Int.mul_nonneg hx (by omega)
      have hf : (p - k).toNat = (p - (k + 1)).toNat + 1 := by omega
      by_cases h1 : (x * k) % p = 1
      · have H1 := Lib.hid h1
        have h2 : (x * k % p == 1) = true := by simp [h1]
        clear h1
        go_wp2_with (go_at_call 42; refine (mod42 _ _ (by omega) (by omega) _).mono ?_; rintro e w' ⟨rfl, rfl⟩)
        go_ret
        exact ⟨ret_int (by rw [hk.out, hf, fi, if_pos H1.out]), rfl⟩
      · have H1 := Lib.hid h1
        have h2 : (x * k % p == 1) = false := by simp [h1]
        clear h1
        go_wp2_with (go_at_call 42; refine (mod42 _ _ (by omega) (by omega) _).mono ?_; rintro e w' ⟨rfl, rfl⟩)
        go_round
        case rel => exact ⟨k + 1, by omega, by omega, rfl, by rw [hk.out, hf, fi, if_neg H1.out]; rfl⟩
        case measure => simp [intOf]; omega
    · go_wp2
      go_ret
      exact ⟨ret_int (by rw [hk.out, show (p - k).toNat = 0 by omega]; rfl), rfl⟩

end Go.Proofs.Ytfdbkocpljiehaa
