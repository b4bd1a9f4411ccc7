/- Plain law: joins of points of a plane modulo a prime. No Go in sight. -/
import Derived.Test.YtfdbkocpljiehaaMa
set_option linter.unusedSimpArgs false
set_option linter.unusedVariables false
namespace Go.Proofs.Ytfdbkocpljiehaa

theorem toF {p : Int} (h : isP p = true) : ∃ n : Nat, p = n ∧ 2 ≤ n ∧ n ≠ 0 := by
  have := isP_cases h
  exact ⟨p.toNat, by omega, by omega, by omega⟩

section
variable {n : Nat} [NeZero n]
theorem cF_one (h : 2 ≤ n) : cF n 1 = 1 := by
  apply Fin.ext
  have e : ((cF n 1).val : Int) = 1 % n := cF_val 1
  rw [Int.emod_eq_of_lt (by omega) (by omega)] at e
  show (cF n 1).val = 1 % n
  rw [Nat.mod_eq_of_lt (by omega)]
  omega
theorem cF_inj {x y : Int} (hx : 0 ≤ x ∧ x < n) (hy : 0 ≤ y ∧ y < n) (h : cF n x = cF n y) : x = y := by
  rw [cF_eq, Int.emod_eq_of_lt hx.1 hx.2, Int.emod_eq_of_lt hy.1 hy.2] at h
  exact h
theorem cF_unit {k l : Int} (hn : 2 ≤ n) (h : (k * l) % n = 1) : cF n k * cF n l = 1 := by
  rw [← cF_mul, ← cF_one hn, cF_eq, h, Int.emod_eq_of_lt (by omega) (by omega)]
theorem zz_iff {a b c : Int} : zz n a b c = true ↔ cF n a = 0 ∧ cF n b = 0 ∧ cF n c = 0 := by
  simp [zz, cF_iff0, and_assoc]
end

theorem pl_spec' {n : Nat} [NeZero n] (hn : 2 ≤ n) {a b c u0 u1 u2 : Int} (h : isP n = true) (hz : zz n a b c = false) (hu : pl n a b c = (u0, u1, u2)) :
    Nm n (u0, u1, u2) ∧ ∃ k l : Fin n, k * l = 1 ∧ cF n u0 = cF n a * k ∧ cF n u1 = cF n b * k ∧ cF n u2 = cF n c * k := by
  obtain ⟨hN, k, l, hkl, h0, h1, h2⟩ := pl_spec h hz
  rw [hu] at hN h0 h1 h2
  dsimp only at h0 h1 h2
  refine ⟨hN, cF n k, cF n l, cF_unit hn hkl, ?_, ?_, ?_⟩
  · rw [h0, cF_mod, cF_mul]
  · rw [h1, cF_mod, cF_mul]
  · rw [h2, cF_mod, cF_mul]

/-- two plain triples whose cross product is nothing are one -/
theorem nm_cross {n : Nat} [NeZero n] (hn : 2 ≤ n) {u0 u1 u2 v0 v1 v2 : Int} (hu : Nm n (u0, u1, u2)) (hv : Nm n (v0, v1, v2))
    (h0 : cF n u1 * cF n v2 = cF n u2 * cF n v1) (h1 : cF n u2 * cF n v0 = cF n u0 * cF n v2) (h2 : cF n u0 * cF n v1 = cF n u1 * cF n v0) : u0 = v0 ∧ u1 = v1 ∧ u2 = v2 := by
  obtain ⟨a0, a1, a2, ha⟩ := hu
  obtain ⟨b0, b1, b2, hb⟩ := hv
  dsimp only at a0 a1 a2 ha b0 b1 b2 hb
  have c1 := cF_one (n := n) hn
  have c0 := cF_zero (n := n)
  have ne : (1 : Int) ≠ 0 := by decide
  have key : ∀ {x y : Int}, (0 ≤ x ∧ x < n) → (0 ≤ y ∧ y < n) → cF n x = cF n y → x = y := fun hx hy h => cF_inj hx hy h
  have zo : (0:Int) ≤ 0 ∧ (0:Int) < n := by omega
  have oo : (0:Int) ≤ 1 ∧ (1:Int) < n := by omega
  rcases ha with rfl | ⟨rfl, rfl⟩ | ⟨rfl, rfl, rfl⟩
  · rcases hb with rfl | ⟨rfl, rfl⟩ | ⟨rfl, rfl, rfl⟩
    · exact ⟨rfl, (key b1 a1 (by grind)).symm, (key a2 b2 (by grind))⟩
    · have := key oo zo (show cF n 1 = cF n 0 by grind); omega
    · have := key oo zo (show cF n 1 = cF n 0 by grind); omega
  · rcases hb with rfl | ⟨rfl, rfl⟩ | ⟨rfl, rfl, rfl⟩
    · have := key oo zo (show cF n 1 = cF n 0 by grind); omega
    · exact ⟨rfl, rfl, (key a2 b2 (by grind))⟩
    · have := key oo zo (show cF n 1 = cF n 0 by grind); omega
  · rcases hb with rfl | ⟨rfl, rfl⟩ | ⟨rfl, rfl, rfl⟩
    · have := key oo zo (show cF n 1 = cF n 0 by grind); omega
    · have := key oo zo (show cF n 1 = cF n 0 by grind); omega
    · exact ⟨rfl, rfl, rfl⟩

theorem nm_nz {p : Int} (hp : 2 ≤ p) {t0 t1 t2 : Int} (h : Nm p (t0, t1, t2)) : zz p t0 t1 t2 = false := by
  obtain ⟨a0, a1, a2, ha⟩ := h
  dsimp only at a0 a1 a2 ha
  have e : (1 : Int) % p = 1 := Int.emod_eq_of_lt (by omega) (by omega)
  rcases ha with rfl | ⟨rfl, rfl⟩ | ⟨rfl, rfl, rfl⟩ <;> simp [zz, e]
/-- a plain triple is its own plain form -/
theorem nm_pl {p : Int} (h : isP p = true) {t0 t1 t2 : Int} (hN : Nm p (t0, t1, t2)) : pl p t0 t1 t2 = (t0, t1, t2) := by
  have hp : 2 ≤ p := by have := isP_cases h; omega
  obtain ⟨a0, a1, a2, ha⟩ := hN
  dsimp only at a0 a1 a2 ha
  have e1 : (1 : Int) % p = 1 := Int.emod_eq_of_lt (by omega) (by omega)
  have o := ov_ok h (show (0:Int) < 1 by omega) (show (1:Int) < p by omega)
  have o1 : ov p 1 = 1 := by
    have h3 := o.2.2.1
    rw [Int.one_mul, Int.emod_eq_of_lt (by omega) o.2.1] at h3
    exact h3
  have m : ∀ {x : Int}, (0 ≤ x ∧ x < p) → x % p = x := fun hx => Int.emod_eq_of_lt hx.1 hx.2
  rcases ha with rfl | ⟨rfl, rfl⟩ | ⟨rfl, rfl, rfl⟩
  · unfold pl; rw [if_pos (by rw [e1]; decide), e1, o1]; simp [m a1, m a2, e1]
  · unfold pl; rw [if_neg (by simp), if_pos (by rw [e1]; decide), e1, o1]; simp [m a2, e1]
  · unfold pl; rw [if_neg (by simp), if_neg (by simp), if_pos (by rw [e1]; decide), e1, o1]; simp [e1]

theorem dot_same {p : Int} (hp : isP p = true) {a b c x y z u0 u1 u2 v0 v1 v2 : Int} (hu : pl p a b c = (u0, u1, u2)) (hz : zz p a b c = false) (hv : pl p x y z = (v0, v1, v2)) (hy : zz p x y z = false) :
    ((a % p * (x % p) + b % p * (y % p) + c % p * (z % p)) % p == 0) = ((u0 * v0 + u1 * v1 + u2 * v2) % p == 0) := by
  obtain ⟨n, rfl, hn, hn0⟩ := toF hp
  haveI : NeZero n := ⟨hn0⟩
  obtain ⟨_, k, l, hkl, e0, e1, e2⟩ := pl_spec' hn hp hz hu
  obtain ⟨_, k', l', hkl', f0, f1, f2⟩ := pl_spec' hn hp hy hv
  have h1 : (a % n * (x % n) + b % n * (y % n) + c % n * (z % n)) % (n : Int) = 0 ↔ cF n a * cF n x + cF n b * cF n y + cF n c * cF n z = 0 := by
    rw [← cF_iff0]; simp only [cF_add, cF_mul, cF_mod]
  have h2 : (u0 * v0 + u1 * v1 + u2 * v2) % (n : Int) = 0 ↔ (cF n a * k) * (cF n x * k') + (cF n b * k) * (cF n y * k') + (cF n c * k) * (cF n z * k') = 0 := by
    rw [← cF_iff0]; simp only [cF_add, cF_mul, e0, e1, e2, f0, f1, f2]
  rw [Bool.eq_iff_iff, beq_iff_eq, beq_iff_eq, h1, h2]
  generalize cF n a = A at *
  generalize cF n b = B at *
  generalize cF n c = C at *
  generalize cF n x = X at *
  generalize cF n y = Y at *
  generalize cF n z = Z at *
  constructor
  · intro h; grind
  · intro h; grind

theorem join_law {p : Int} (hp : isP p = true) {a b c x y z u0 u1 u2 v0 v1 v2 t0 t1 t2 : Int} (hu : pl p a b c = (u0, u1, u2)) (hz : zz p a b c = false) (hv : pl p x y z = (v0, v1, v2)) (hy : zz p x y z = false)
    (hw : pl p (u1 * v2 - u2 * v1) (u2 * v0 - u0 * v2) (u0 * v1 - u1 * v0) = (t0, t1, t2)) (hx : zz p (u1 * v2 - u2 * v1) (u2 * v0 - u0 * v2) (u0 * v1 - u1 * v0) = false) :
    Nm p (t0, t1, t2) ∧ (t0 % p * (a % p) + t1 % p * (b % p) + t2 % p * (c % p)) % p = 0 ∧ (t0 % p * (x % p) + t1 % p * (y % p) + t2 % p * (z % p)) % p = 0 := by
  obtain ⟨n, rfl, hn, hn0⟩ := toF hp
  haveI : NeZero n := ⟨hn0⟩
  obtain ⟨_, k, l, hkl, e0, e1, e2⟩ := pl_spec' hn hp hz hu
  obtain ⟨_, k', l', hkl', f0, f1, f2⟩ := pl_spec' hn hp hy hv
  obtain ⟨hN, r, s, hrs, g0, g1, g2⟩ := pl_spec' hn hp hx hw
  simp only [cF_sub, cF_mul, e0, e1, e2, f0, f1, f2] at g0 g1 g2
  refine ⟨hN, ?_, ?_⟩
  · rw [← cF_iff0]; simp only [cF_add, cF_mul, cF_mod, g0, g1, g2]
    generalize cF n a = A at *
    generalize cF n b = B at *
    generalize cF n c = C at *
    grind
  · rw [← cF_iff0]; simp only [cF_add, cF_mul, cF_mod, g0, g1, g2]
    generalize cF n x = X at *
    generalize cF n y = Y at *
    generalize cF n z = Z at *
    grind

theorem free_iff {p : Int} (hp : isP p = true) {a b c x y z u0 u1 u2 v0 v1 v2 : Int} (hu : pl p a b c = (u0, u1, u2)) (hz : zz p a b c = false) (hv : pl p x y z = (v0, v1, v2)) (hy : zz p x y z = false) :
    zz p (u1 * v2 - u2 * v1) (u2 * v0 - u0 * v2) (u0 * v1 - u1 * v0) = (u0 == v0 && (u1 == v1 && u2 == v2)) := by
  obtain ⟨n, rfl, hn, hn0⟩ := toF hp
  haveI : NeZero n := ⟨hn0⟩
  have hN := (pl_spec' hn hp hz hu).1
  have hM := (pl_spec' hn hp hy hv).1
  rw [Bool.eq_iff_iff, zz_iff]
  simp only [cF_sub, cF_mul, Bool.and_eq_true, beq_iff_eq]
  constructor
  · rintro ⟨h0, h1, h2⟩
    exact nm_cross hn hN hM (by grind) (by grind) (by grind)
  · rintro ⟨rfl, rfl, rfl⟩
    exact ⟨by grind, by grind, by grind⟩
end Go.Proofs.Ytfdbkocpljiehaa
