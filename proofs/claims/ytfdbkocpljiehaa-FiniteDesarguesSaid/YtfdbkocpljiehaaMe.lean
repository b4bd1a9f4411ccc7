/- Plain law: triples modulo a prime as vectors; joins as cross products. No Go in sight. -/
import Derived.Test.YtfdbkocpljiehaaMb
set_option linter.unusedSimpArgs false
set_option linter.unusedVariables false
namespace Go.Proofs.Ytfdbkocpljiehaa

section
variable {n : Nat} [NeZero n]
def cV (n : Nat) [NeZero n] (h : Int × Int × Int) : Fin n × Fin n × Fin n := (cF n h.1, cF n h.2.1, cF n h.2.2)
def vx (a b : Fin n × Fin n × Fin n) : Fin n × Fin n × Fin n := (a.2.1 * b.2.2 - a.2.2 * b.2.1, a.2.2 * b.1 - a.1 * b.2.2, a.1 * b.2.1 - a.2.1 * b.1)
def vd (a b : Fin n × Fin n × Fin n) : Fin n := a.1 * b.1 + a.2.1 * b.2.1 + a.2.2 * b.2.2
def vs (k : Fin n) (a : Fin n × Fin n × Fin n) : Fin n × Fin n × Fin n := (a.1 * k, a.2.1 * k, a.2.2 * k)
def va (a b : Fin n × Fin n × Fin n) : Fin n × Fin n × Fin n := (a.1 + b.1, a.2.1 + b.2.1, a.2.2 + b.2.2)

theorem vx_s (k l : Fin n) (a b : Fin n × Fin n × Fin n) : vx (vs k a) (vs l b) = vs (k * l) (vx a b) := by
  simp only [vx, vs, Prod.mk.injEq]; refine ⟨?_, ?_, ?_⟩ <;> grind
theorem vd_s (k l : Fin n) (a b : Fin n × Fin n × Fin n) : vd (vs k a) (vs l b) = (k * l) * vd a b := by
  simp only [vd, vs]; grind
theorem vs_s (k l : Fin n) (a : Fin n × Fin n × Fin n) : vs k (vs l a) = vs (k * l) a := by
  simp only [vs, Prod.mk.injEq]; refine ⟨?_, ?_, ?_⟩ <;> grind
theorem vx_vx (a b c d : Fin n × Fin n × Fin n) : vx (vx a b) (vx c d) = va (vs (vd (vx a b) d) c) (vs (-(vd (vx a b) c)) d) := by
  simp only [vx, vd, vs, va, Prod.mk.injEq]; refine ⟨?_, ?_, ?_⟩ <;> grind
theorem vd_cyc (a b c : Fin n × Fin n × Fin n) : vd (vx a b) c = vd (vx b c) a := by
  simp only [vx, vd]; grind
theorem vd_swap (a b c : Fin n × Fin n × Fin n) : vd (vx b a) c = -(vd (vx a b) c) := by
  simp only [vx, vd]; grind
theorem ne_of_vd {a b : Fin n × Fin n × Fin n} (h : vd a b ≠ 0) : a ≠ (0, 0, 0) := by
  rintro rfl
  apply h
  simp only [vd]; grind
theorem cV_cross (a b : Int × Int × Int) : cV n (a.2.1 * b.2.2 - a.2.2 * b.2.1, a.2.2 * b.1 - a.1 * b.2.2, a.1 * b.2.1 - a.2.1 * b.1) = vx (cV n a) (cV n b) := by
  simp only [cV, vx, cF_sub, cF_mul]
theorem cV_dot (a b : Int × Int × Int) : cF n (a.1 * b.1 + a.2.1 * b.2.1 + a.2.2 * b.2.2) = vd (cV n a) (cV n b) := by
  simp only [cV, vd, cF_add, cF_mul]
theorem zz_cV {a : Int × Int × Int} : zz n a.1 a.2.1 a.2.2 = true ↔ cV n a = (0, 0, 0) := by
  rw [zz_iff]; simp [cV]
theorem nz_cV {a : Int × Int × Int} : zz n a.1 a.2.1 a.2.2 = false ↔ cV n a ≠ (0, 0, 0) := by
  rw [← Bool.not_eq_true, zz_cV]
theorem unit_ne {k l : Fin n} {a : Fin n × Fin n × Fin n} (h : k * l = 1) (ha : a ≠ (0, 0, 0)) : vs k a ≠ (0, 0, 0) := by
  intro e
  apply ha
  obtain ⟨a0, a1, a2⟩ := a
  simp only [vs, Prod.mk.injEq] at e ⊢
  obtain ⟨e0, e1, e2⟩ := e
  refine ⟨?_, ?_, ?_⟩ <;> grind
end

theorem fmul_ne {n : Nat} [NeZero n] (h : isP n = true) {x y : Fin n} (hx : x ≠ 0) (hy : y ≠ 0) : x * y ≠ 0 := by
  have e : ∀ z : Fin n, cF n z.val = z := fun z => by
    apply Fin.ext
    have := cF_val (n := n) (z.val : Int)
    rw [Int.emod_eq_of_lt (by omega) (by have := z.isLt; omega)] at this
    omega
  have hx' : (x.val : Int) % n ≠ 0 := fun h => hx (by rw [← e x]; exact cF_iff0.2 h)
  have hy' : (y.val : Int) % n ≠ 0 := fun h => hy (by rw [← e y]; exact cF_iff0.2 h)
  have := mul_ne h hx' hy'
  rw [← e x, ← e y, ← cF_mul]
  exact fun h => this (cF_iff0.1 h)
theorem unit_of {n : Nat} [NeZero n] (hn : 2 ≤ n) {k l : Fin n} (h : k * l = 1) : k ≠ 0 := by
  rintro rfl
  have : (0 : Fin n) * l = 0 := by grind
  rw [this] at h
  have h1 := congrArg Fin.val h
  have h2 : ((1 : Fin n).val) = 1 % n := rfl
  rw [h2, Nat.mod_eq_of_lt (by omega)] at h1
  simp at h1

/-- t is what the join of a and b is, as the code makes it -/
def JoinIs (p : Int) (a b t : Int × Int × Int) : Prop := ∃ u v : Int × Int × Int, pl p a.1 a.2.1 a.2.2 = u ∧ zz p a.1 a.2.1 a.2.2 = false ∧ pl p b.1 b.2.1 b.2.2 = v ∧ zz p b.1 b.2.1 b.2.2 = false ∧
  pl p (u.2.1 * v.2.2 - u.2.2 * v.2.1) (u.2.2 * v.1 - u.1 * v.2.2) (u.1 * v.2.1 - u.2.1 * v.1) = t ∧ zz p (u.2.1 * v.2.2 - u.2.2 * v.2.1) (u.2.2 * v.1 - u.1 * v.2.2) (u.1 * v.2.1 - u.2.1 * v.1) = false

theorem plain_cV {n : Nat} [NeZero n] (hn : 2 ≤ n) (h : isP n = true) {a : Int × Int × Int} (hz : zz n a.1 a.2.1 a.2.2 = false) : ∃ k l : Fin n, k * l = 1 ∧ cV n (pl n a.1 a.2.1 a.2.2) = vs k (cV n a) := by
  obtain ⟨⟨u0, u1, u2⟩, hu⟩ : ∃ u, pl n a.1 a.2.1 a.2.2 = u := ⟨_, rfl⟩
  rw [hu]
  obtain ⟨_, k, l, hkl, e0, e1, e2⟩ := pl_spec' hn h hz hu
  exact ⟨k, l, hkl, by simp only [cV, vs, e0, e1, e2]⟩

theorem join_is {n : Nat} [NeZero n] (hn : 2 ≤ n) (h : isP n = true) {a b : Int × Int × Int} (hx : vx (cV n a) (cV n b) ≠ (0, 0, 0)) :
    ∃ t, JoinIs n a b t ∧ zz n t.1 t.2.1 t.2.2 = false ∧ ∃ k l : Fin n, k * l = 1 ∧ cV n t = vs k (vx (cV n a) (cV n b)) := by
  have ha : zz n a.1 a.2.1 a.2.2 = false := nz_cV.2 fun e => hx (by rw [e]; simp only [vx, Prod.mk.injEq]; refine ⟨?_, ?_, ?_⟩ <;> grind)
  have hb : zz n b.1 b.2.1 b.2.2 = false := nz_cV.2 fun e => hx (by rw [e]; simp only [vx, Prod.mk.injEq]; refine ⟨?_, ?_, ?_⟩ <;> grind)
  obtain ⟨k1, l1, h1, e1⟩ := plain_cV hn h ha
  obtain ⟨k2, l2, h2, e2⟩ := plain_cV hn h hb
  have hc : cV n _ = _ := cV_cross (n := n) (pl n a.1 a.2.1 a.2.2) (pl n b.1 b.2.1 b.2.2)
  rw [e1, e2, vx_s] at hc
  have h12 : (k1 * k2) * (l1 * l2) = 1 := by grind
  have hz := nz_cV.2 (show cV n _ ≠ (0, 0, 0) by rw [hc]; exact unit_ne h12 hx)
  obtain ⟨k3, l3, h3, e3⟩ := plain_cV hn h hz
  refine ⟨_, ⟨_, _, rfl, ha, rfl, hb, rfl, hz⟩, ?_, k3 * (k1 * k2), l3 * (l1 * l2), by grind, ?_⟩
  · refine nz_cV.2 ?_
    rw [e3]
    exact unit_ne h3 (by rw [hc]; exact unit_ne h12 hx)
  · rw [e3, hc, vs_s]

theorem vx_zl {n : Nat} [NeZero n] (a : Fin n × Fin n × Fin n) : vx (0, 0, 0) a = (0, 0, 0) := by
  simp only [vx, Prod.mk.injEq]; refine ⟨?_, ?_, ?_⟩ <;> grind
theorem vx_zr {n : Nat} [NeZero n] (a : Fin n × Fin n × Fin n) : vx a (0, 0, 0) = (0, 0, 0) := by
  simp only [vx, Prod.mk.injEq]; refine ⟨?_, ?_, ?_⟩ <;> grind

/-- where the join of two meets the join of two others -/
theorem meet_is {n : Nat} [NeZero n] (hn : 2 ≤ n) (h : isP n = true) {q0 q1 q2 q3 : Int × Int × Int} (hx : vx (vx (cV n q0) (cV n q1)) (vx (cV n q2) (cV n q3)) ≠ (0, 0, 0)) :
    ∃ a b x, (JoinIs n q0 q1 a ∧ JoinIs n q2 q3 b ∧ JoinIs n a b x) ∧ zz n x.1 x.2.1 x.2.2 = false ∧ ∃ k l : Fin n, k * l = 1 ∧ cV n x = vs k (vx (vx (cV n q0) (cV n q1)) (vx (cV n q2) (cV n q3))) := by
  obtain ⟨a, ja, _, ka, la, ha, ea⟩ := join_is hn h (a := q0) (b := q1) (fun e => hx (by rw [e, vx_zl]))
  obtain ⟨b, jb, _, kb, lb, hb, eb⟩ := join_is hn h (a := q2) (b := q3) (fun e => hx (by rw [e, vx_zr]))
  have hab : (ka * kb) * (la * lb) = 1 := by grind
  obtain ⟨x, jx, zx, k, l, hk, ex⟩ := join_is hn h (a := a) (b := b) (by rw [ea, eb, vx_s]; exact unit_ne hab hx)
  refine ⟨a, b, x, ⟨ja, jb, jx⟩, zx, k * (ka * kb), l * (la * lb), by grind, ?_⟩
  rw [ex, ea, eb, vx_s, vs_s]

theorem one_one {n : Nat} [NeZero n] (hn : 2 ≤ n) : (1 : Fin n) + 1 = 0 ↔ n = 2 := by
  have v1 : ((1 : Fin n).val) = 1 := by
    have h2 : ((1 : Fin n).val) = 1 % n := rfl
    rw [h2, Nat.mod_eq_of_lt (by omega)]
  have v : ((1 : Fin n) + 1).val = 2 % n := by rw [Fin.val_add, v1]
  constructor
  · intro h
    rw [h] at v
    have h0 : ((0 : Fin n).val) = 0 := rfl
    rw [h0] at v
    rcases Nat.lt_or_ge 2 n with hl | hl
    · rw [Nat.mod_eq_of_lt hl] at v; omega
    · omega
  · intro h
    apply Fin.ext
    rw [v]
    show 2 % n = 0
    rw [h]

/-- Fano: the three points in which the pairs of four meet lie on a line just modulo 2 -/
theorem fano_law {n : Nat} [NeZero n] (hn : 2 ≤ n) (h : isP n = true) {q0 q1 q2 q3 : Int × Int × Int}
    (h1 : vd (vx (cV n q0) (cV n q1)) (cV n q2) ≠ 0) (h2 : vd (vx (cV n q0) (cV n q1)) (cV n q3) ≠ 0) (h3 : vd (vx (cV n q0) (cV n q2)) (cV n q3) ≠ 0) (h4 : vd (vx (cV n q1) (cV n q2)) (cV n q3) ≠ 0) :
    ∃ a b x c d y e f z l : Int × Int × Int, (JoinIs n q0 q1 a ∧ JoinIs n q2 q3 b ∧ JoinIs n a b x) ∧ (JoinIs n q0 q2 c ∧ JoinIs n q1 q3 d ∧ JoinIs n c d y) ∧ (JoinIs n q0 q3 e ∧ JoinIs n q1 q2 f ∧ JoinIs n e f z) ∧ JoinIs n x y l ∧
      zz n z.1 z.2.1 z.2.2 = false ∧ zz n l.1 l.2.1 l.2.2 = false ∧ (vd (cV n z) (cV n l) = 0 ↔ n = 2) := by
  have X := fun hx => meet_is hn h (q0 := q0) (q1 := q1) (q2 := q2) (q3 := q3) hx
  have Y := fun hx => meet_is hn h (q0 := q0) (q1 := q2) (q2 := q1) (q3 := q3) hx
  have Z := fun hx => meet_is hn h (q0 := q0) (q1 := q3) (q2 := q1) (q3 := q2) hx
  rw [vx_vx] at X Y Z
  have e1 : vd (vx (cV n q0) (cV n q2)) (cV n q1) = -(vd (vx (cV n q0) (cV n q1)) (cV n q2)) := by simp only [vx, vd]; grind
  have e2 : vd (vx (cV n q0) (cV n q3)) (cV n q2) = -(vd (vx (cV n q0) (cV n q2)) (cV n q3)) := by simp only [vx, vd]; grind
  have e3 : vd (vx (cV n q0) (cV n q3)) (cV n q1) = -(vd (vx (cV n q0) (cV n q1)) (cV n q3)) := by simp only [vx, vd]; grind
  rw [e1] at Y
  rw [e2, e3] at Z
  clear e1 e2 e3
  generalize vd (vx (cV n q0) (cV n q1)) (cV n q2) = D1 at *
  generalize vd (vx (cV n q0) (cV n q1)) (cV n q3) = D2 at *
  generalize vd (vx (cV n q0) (cV n q2)) (cV n q3) = D3 at *
  generalize hB : cV n q1 = B at *
  generalize hC : cV n q2 = C at *
  generalize hD : cV n q3 = D at *
  obtain ⟨B0, B1, B2⟩ := B
  obtain ⟨C0, C1, C2⟩ := C
  obtain ⟨E0, E1, E2⟩ := D
  obtain ⟨D4, hD4⟩ : ∃ D4, D4 = vd (vx (B0, B1, B2) (C0, C1, C2)) (E0, E1, E2) := ⟨_, rfl⟩
  rw [← hD4] at h4
  have m1 : D1 * D4 ≠ 0 := fmul_ne h h1 h4
  have m3 : D3 * D4 ≠ 0 := fmul_ne h h3 h4
  have m12 : D1 * D2 ≠ 0 := fmul_ne h h1 h2
  have m124 : (D1 * D2) * D4 ≠ 0 := fmul_ne h m12 h4
  have m1234 : ((D1 * D2) * D4) * D3 ≠ 0 := fmul_ne h m124 h3
  have nz : ∀ {x y : Fin n}, x ≠ 0 → (y = x ∨ y = -x) → y ≠ 0 := fun hx hy e => by
    rcases hy with rfl | rfl
    · exact hx e
    · apply hx; grind
  obtain ⟨a, b, x, jx, zx, kx, lx, hkx, ex⟩ := X (ne_of_vd (b := vx (B0, B1, B2) (C0, C1, C2)) (nz m1 (.inr (by rw [hD4]; simp only [vx, vd, vs, va]; grind))))
  obtain ⟨c, d, y, jy, zy, ky, ly, hky, ey⟩ := Y (ne_of_vd (b := vx (B0, B1, B2) (C0, C1, C2)) (nz m1 (.inl (by rw [hD4]; simp only [vx, vd, vs, va]; grind))))
  obtain ⟨e, f, z, jz, zz, kz, lz, hkz, ez⟩ := Z (ne_of_vd (b := vx (C0, C1, C2) (E0, E1, E2)) (nz m3 (.inr (by rw [hD4]; simp only [vx, vd, vs, va]; grind))))
  have hkxy : (kx * ky) * (lx * ly) = 1 := by grind
  have hl := fun hx => join_is hn h (a := x) (b := y) hx
  rw [ex, ey, vx_s] at hl
  obtain ⟨l, jl, zl, kl, ll, hkl, el⟩ := hl (unit_ne hkxy (ne_of_vd (b := (B0, B1, B2)) (nz m124 (.inl (by rw [hD4]; simp only [vx, vd, vs, va]; grind)))))
  refine ⟨a, b, x, c, d, y, e, f, z, l, jx, jy, jz, jl, zz, zl, ?_⟩
  rw [el, ez, vs_s, vd_s]
  have hu : (kz * (kl * (kx * ky))) * (lz * (ll * (lx * ly))) = 1 := by grind
  have hu0 := unit_of hn hu
  generalize kz * (kl * (kx * ky)) = K at *
  have key : vd (va (vs (-D3) (B0, B1, B2)) (vs (- -D2) (C0, C1, C2))) (vx (va (vs D2 (C0, C1, C2)) (vs (-D1) (E0, E1, E2))) (va (vs D3 (B0, B1, B2)) (vs (- -D1) (E0, E1, E2)))) = -((1 + 1) * (((D1 * D2) * D4) * D3)) := by
    rw [hD4]; simp only [vx, vd, vs, va]; grind
  rw [key, ← one_one hn]
  constructor
  · intro e0
    by_cases h2 : (1 : Fin n) + 1 = 0
    · exact h2
    · exact absurd e0 (fmul_ne h hu0 (nz (fmul_ne h h2 m1234) (.inr rfl)))
  · intro e0
    rw [e0]; grind
end Go.Proofs.Ytfdbkocpljiehaa
