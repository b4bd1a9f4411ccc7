/- Plain law: integers modulo one of six primes, as a ring; plain forms. No Go in sight. -/
import Derived.Test.YtfdbkocpljiehaaDefs
set_option linter.unusedSimpArgs false
set_option linter.unusedVariables false
namespace Go.Proofs.Ytfdbkocpljiehaa

/-- an integer modulo n -/
def cF (n : Nat) [NeZero n] (x : Int) : Fin n := ⟨(x % n).toNat, by
  have hn : n ≠ 0 := NeZero.ne n
  have h1 := Int.emod_nonneg x (show (n:Int) ≠ 0 by omega)
  have h2 := Int.emod_lt_of_pos x (show (0:Int) < n by omega)
  omega⟩
section
variable {n : Nat} [NeZero n]
theorem cF_eq {x y : Int} : cF n x = cF n y ↔ x % n = y % n := by
  have hn : n ≠ 0 := NeZero.ne n
  have h1 := Int.emod_nonneg x (show (n:Int) ≠ 0 by omega)
  have h2 := Int.emod_nonneg y (show (n:Int) ≠ 0 by omega)
  unfold cF
  rw [Fin.mk.injEq]
  omega
theorem cF_val (x : Int) : ((cF n x).val : Int) = x % n := by
  have hn : n ≠ 0 := NeZero.ne n
  have h1 := Int.emod_nonneg x (show (n:Int) ≠ 0 by omega)
  unfold cF; simp; omega
theorem cF_add (x y : Int) : cF n (x + y) = cF n x + cF n y := by
  apply Fin.ext
  have := cF_val (n := n) (x + y)
  have e : ((cF n x + cF n y).val : Int) = (x + y) % n := by
    rw [Fin.val_add]; push_cast; rw [cF_val, cF_val, Int.add_emod]; simp
  omega
theorem cF_mul (x y : Int) : cF n (x * y) = cF n x * cF n y := by
  apply Fin.ext
  have := cF_val (n := n) (x * y)
  have e : ((cF n x * cF n y).val : Int) = (x * y) % n := by
    rw [Fin.val_mul]; push_cast; rw [cF_val, cF_val, ← Int.mul_emod]
  omega
theorem cF_zero : cF n 0 = 0 := by apply Fin.ext; simp [cF]
theorem cF_sub (x y : Int) : cF n (x - y) = cF n x - cF n y := by
  have h := cF_add (n := n) (x - y) y
  rw [Int.sub_add_cancel] at h
  rw [h]; grind
theorem cF_mod (x : Int) : cF n (x % n) = cF n x := by rw [cF_eq]; simp
theorem cF_iff0 {x : Int} : cF n x = 0 ↔ x % n = 0 := by
  rw [← cF_zero, cF_eq]; simp
theorem cF_of {x y : Int} (h : x % n = y) : cF n y = cF n x := by rw [← h, cF_mod]
end

/-! ### Six primes -/
theorem isP_cases {p : Int} (h : isP p = true) : p = 2 ∨ p = 3 ∨ p = 5 ∨ p = 7 ∨ p = 11 ∨ p = 13 := by simpa [isP, or_assoc] using h

/-- inverses, looked up -/
def invOK (p : Nat) : Bool := (List.range p).all fun x => x == 0 ||
  ((1 ≤ ov p x && ov p x < p) && (((x : Int) * ov p x) % p == 1) && (List.range p).all fun k => k == 0 || ((x : Int) * k) % p != 0)
theorem inv_all : ([2, 3, 5, 7, 11, 13].all fun p => invOK p) = true := by decide +kernel

theorem ov_ok {p x : Int} (h : isP p = true) (h0 : 0 < x) (h1 : x < p) : 1 ≤ ov p x ∧ ov p x < p ∧ x * ov p x % p = 1 ∧ ∀ k : Int, 1 ≤ k → k < p → x * k % p ≠ 0 := by
  have hp : invOK p.toNat = true := by
    have := List.all_eq_true.1 inv_all p.toNat (by rcases isP_cases h with rfl | rfl | rfl | rfl | rfl | rfl <;> decide)
    exact this
  have hpp : ((p.toNat : Nat) : Int) = p := by omega
  have hx : ((x.toNat : Nat) : Int) = x := by omega
  have h2 := List.all_eq_true.1 hp x.toNat (List.mem_range.2 (by omega))
  simp only [hpp, hx, Bool.or_eq_true, Bool.and_eq_true, beq_iff_eq, decide_eq_true_eq] at h2
  rcases h2 with h2 | ⟨⟨⟨h3, h4⟩, h5⟩, h6⟩
  · omega
  · refine ⟨h3, h4, h5, fun k hk1 hk2 => ?_⟩
    have h7 := List.all_eq_true.1 h6 k.toNat (List.mem_range.2 (by omega))
    have hk : ((k.toNat : Nat) : Int) = k := by omega
    simp only [hk, Bool.or_eq_true, beq_iff_eq, bne_iff_ne] at h7
    rcases h7 with h7 | h7
    · omega
    · exact h7

/-- no divisors of zero -/
theorem mul_ne {p x y : Int} (h : isP p = true) (hx : x % p ≠ 0) (hy : y % p ≠ 0) : (x * y) % p ≠ 0 := by
  have hp : 2 ≤ p := by have := isP_cases h; omega
  have h1 := Int.emod_nonneg x (show p ≠ 0 by omega)
  have h2 := Int.emod_lt_of_pos x (show 0 < p by omega)
  have h3 := Int.emod_nonneg y (show p ≠ 0 by omega)
  have h4 := Int.emod_lt_of_pos y (show 0 < p by omega)
  rw [Int.mul_emod]
  exact (ov_ok h (by omega) h2).2.2.2 _ (by omega) h4

/-! ### What a plain form is -/
/-- the first of three that is not 0 is 1; all lie below p -/
def Nm (p : Int) (h : Int × Int × Int) : Prop :=
  (0 ≤ h.1 ∧ h.1 < p) ∧ (0 ≤ h.2.1 ∧ h.2.1 < p) ∧ (0 ≤ h.2.2 ∧ h.2.2 < p) ∧ (h.1 = 1 ∨ h.1 = 0 ∧ h.2.1 = 1 ∨ h.1 = 0 ∧ h.2.1 = 0 ∧ h.2.2 = 1)

theorem em_bd {p : Int} (hp : 2 ≤ p) (x : Int) : 0 ≤ x % p ∧ x % p < p := ⟨Int.emod_nonneg x (by omega), Int.emod_lt_of_pos x (by omega)⟩

/-- the plain form is the triple times a number that is not 0 -/
theorem pl_spec {p a b c : Int} (h : isP p = true) (hz : zz p a b c = false) :
    Nm p (pl p a b c) ∧ ∃ k l : Int, (k * l) % p = 1 ∧ (pl p a b c).1 = a * k % p ∧ (pl p a b c).2.1 = b * k % p ∧ (pl p a b c).2.2 = c * k % p := by
  have hp : 2 ≤ p := by have := isP_cases h; omega
  have e : ∀ x k : Int, x % p * k % p = x * k % p := fun x k => by rw [Int.mul_emod, Int.emod_emod_of_dvd _ (Int.dvd_refl p), ← Int.mul_emod]
  have z : ∀ k : Int, (0 : Int) * k % p = 0 := fun k => by rw [Int.zero_mul, Int.zero_emod]
  by_cases ha : a % p = 0
  · by_cases hb : b % p = 0
    · have hc : ¬ c % p = 0 := fun hc => by simp [zz, ha, hb, hc] at hz
      have hc1 := em_bd hp c
      obtain ⟨h1, h2, h3, _⟩ := ov_ok h (show 0 < c % p by omega) hc1.2
      have e0 : pl p a b c = (0, 0, 1) := by
        unfold pl; rw [if_neg (by simp [ha]), if_neg (by simp [hb]), if_pos hc, ha, hb]; dsimp only; rw [z, h3]
      rw [e0]
      refine ⟨⟨by simp; omega, by simp; omega, by simp; omega, .inr (.inr ⟨rfl, rfl, rfl⟩)⟩, ov p (c % p), c % p, by rw [Int.mul_comm]; exact h3, ?_, ?_, ?_⟩
      · rw [← e a, ha, z]
      · rw [← e b, hb, z]
      · rw [← e c, h3]
    · have hb1 := em_bd hp b
      obtain ⟨h1, h2, h3, _⟩ := ov_ok h (show 0 < b % p by omega) hb1.2
      have e0 : pl p a b c = (0, 1, c * ov p (b % p) % p) := by
        unfold pl; rw [if_neg (by simp [ha]), if_pos hb, ha]; dsimp only; rw [z, h3, e]
      rw [e0]
      refine ⟨⟨by simp; omega, by simp; omega, em_bd hp _, .inr (.inl ⟨rfl, rfl⟩)⟩, ov p (b % p), b % p, by rw [Int.mul_comm]; exact h3, ?_, ?_, rfl⟩
      · rw [← e a, ha, z]
      · rw [← e b, h3]
  · have ha1 := em_bd hp a
    obtain ⟨h1, h2, h3, _⟩ := ov_ok h (show 0 < a % p by omega) ha1.2
    have e0 : pl p a b c = (1, b * ov p (a % p) % p, c * ov p (a % p) % p) := by
      unfold pl; rw [if_pos ha]; dsimp only; rw [h3, e, e]
    rw [e0]
    refine ⟨⟨by simp; omega, em_bd hp _, em_bd hp _, .inl rfl⟩, ov p (a % p), a % p, by rw [Int.mul_comm]; exact h3, ?_, rfl, rfl⟩
    rw [← e a, h3]
end Go.Proofs.Ytfdbkocpljiehaa
