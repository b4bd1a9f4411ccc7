/- Plain law: Desargues: triangles seen from a point. No Go in sight. -/
import Derived.Test.YtfdbkocpljiehaaMh
import Derived.Test.YtfdbkocpljiehaaMf
set_option linter.unusedSimpArgs false
set_option linter.unusedVariables false
namespace Go.Proofs.Ytfdbkocpljiehaa

/-- the determinant of three rows, as the code asks for it -/
def d9 (p a0 a1 a2 a3 a4 a5 a6 a7 a8 : Int) : Int :=
  (a0 % p * (a4 % p * (a8 % p) - a5 % p * (a7 % p)) - a1 % p * (a3 % p * (a8 % p) - a5 % p * (a6 % p)) + a2 % p * (a3 % p * (a7 % p) - a4 % p * (a6 % p))) % p
def d3 (p : Int) (a b c : Int × Int × Int) : Int := d9 p a.1 a.2.1 a.2.2 b.1 b.2.1 b.2.2 c.1 c.2.1 c.2.2

section
variable {n : Nat} [NeZero n]
theorem d3_iff {a b c : Int × Int × Int} : d3 n a b c = 0 ↔ vd (vx (cV n a) (cV n b)) (cV n c) = 0 := by
  have e : cF n (d3 n a b c) = vd (vx (cV n a) (cV n b)) (cV n c) := by
    unfold d3 d9
    simp only [cF_add, cF_sub, cF_mul, cF_mod, cV, vx, vd]
    grind
  constructor
  · intro h; rw [← e, h, cF_zero]
  · intro h
    rw [h, cF_iff0] at e
    unfold d3 d9 at e ⊢
    rw [Int.emod_emod_of_dvd _ (Int.dvd_refl _)] at e
    exact e
theorem vx_vs_l (k : Fin n) (a b : Fin n × Fin n × Fin n) : vx (vs k a) b = vs k (vx a b) := by
  simp only [vx, vs, Prod.mk.injEq]; refine ⟨?_, ?_, ?_⟩ <;> grind
theorem vd_zero {a b : Fin n × Fin n × Fin n} (h : a = (0, 0, 0)) : vd a b = 0 := by
  subst h; simp only [vd]; grind
end

/-- the crossing of the plain forms of two, and the join's plain form -/
def xx (p : Int) (a b : Int × Int × Int) : Int × Int × Int := crT (pl p a.1 a.2.1 a.2.2) (pl p b.1 b.2.1 b.2.2)
def jn (p : Int) (a b : Int × Int × Int) : Int × Int × Int := pl p (xx p a b).1 (xx p a b).2.1 (xx p a b).2.2
/-- have two no join? -/
def fr (p : Int) (a b : Int × Int × Int) : Bool := zz p (xx p a b).1 (xx p a b).2.1 (xx p a b).2.2

theorem xx_cV {n : Nat} [NeZero n] (hn : 2 ≤ n) (h : isP n = true) (a b : Int × Int × Int) : ∃ k : Fin n, cV n (xx n a b) = vs k (vx (cV n a) (cV n b)) := by
  obtain ⟨k, e⟩ := plain_any hn h a
  obtain ⟨l, f⟩ := plain_any hn h b
  refine ⟨k * l, ?_⟩
  rw [← vx_s, ← e, ← f]
  exact cV_cross (n := n) _ _
theorem jn_any {n : Nat} [NeZero n] (hn : 2 ≤ n) (h : isP n = true) (a b : Int × Int × Int) : ∃ k : Fin n, cV n (jn n a b) = vs k (vx (cV n a) (cV n b)) := by
  obtain ⟨k, e⟩ := xx_cV hn h a b
  obtain ⟨l, f⟩ := plain_any hn h (xx n a b)
  exact ⟨l * k, by rw [← vs_s, ← e, ← f]; rfl⟩
/-- where the crossing of two is not nothing, they have a join -/
theorem jn_is {n : Nat} [NeZero n] (hn : 2 ≤ n) (h : isP n = true) {a b : Int × Int × Int} (hx : vx (cV n a) (cV n b) ≠ (0, 0, 0)) : JoinIs n a b (jn n a b) ∧ zz n (jn n a b).1 (jn n a b).2.1 (jn n a b).2.2 = false := by
  obtain ⟨t, ht, hz, _⟩ := join_is hn h hx
  obtain ⟨u, v, h1, h2, h3, h4, h5, h6⟩ := ht
  have e : jn n a b = t := by
    unfold jn xx crT
    rw [h1, h3]
    exact h5
  rw [e]
  exact ⟨⟨u, v, h1, h2, h3, h4, h5, h6⟩, hz⟩

/-- what one round of the law finds: two joins, and that they cross in what stands on U i - U j -/
theorem side_law {n : Nat} [NeZero n] (hn : 2 ≤ n) (h : isP n = true) {o a b u v : Int × Int × Int} {k l : Fin n} (hu : cV n u = va (cV n o) (vs k (cV n a))) (hv : cV n v = va (cV n o) (vs l (cV n b)))
    (hd : d3 n o a b ≠ 0) (hw : vx (cV n u) (cV n v) ≠ (0, 0, 0)) :
    JoinIs n a b (jn n a b) ∧ JoinIs n u v (jn n u v) ∧ zz n (jn n a b).1 (jn n a b).2.1 (jn n a b).2.2 = false ∧ zz n (jn n u v).1 (jn n u v).2.1 (jn n u v).2.2 = false ∧ ∃ c : Fin n, cV n (jn n (jn n a b) (jn n u v)) = vs c (va (cV n u) (vs (-1) (cV n v))) := by
  have hd' : vd (vx (cV n o) (cV n a)) (cV n b) ≠ 0 := fun e => hd (d3_iff.2 e)
  have hab : vx (cV n a) (cV n b) ≠ (0, 0, 0) := fun e => hd' (by rw [vd_cyc]; exact vd_zero e)
  obtain ⟨j1, z1⟩ := jn_is hn h hab
  obtain ⟨j2, z2⟩ := jn_is hn h hw
  refine ⟨j1, j2, z1, z2, ?_⟩
  obtain ⟨c1, e1⟩ := jn_any hn h a b
  obtain ⟨c2, e2⟩ := jn_any hn h u v
  obtain ⟨c3, e3⟩ := jn_any hn h (jn n a b) (jn n u v)
  rw [e1, e2, vx_s, vx_vx, vs_s] at e3
  refine ⟨c3 * (c1 * c2) * vd (vx (cV n a) (cV n b)) (cV n o), ?_⟩
  rw [e3, hu, hv]
  generalize cV n a = A
  generalize cV n b = B
  generalize cV n o = O
  generalize c3 * (c1 * c2) = C
  obtain ⟨A0, A1, A2⟩ := A
  obtain ⟨B0, B1, B2⟩ := B
  obtain ⟨O0, O1, O2⟩ := O
  have e4 : vd (vx (A0, A1, A2) (B0, B1, B2)) (va (O0, O1, O2) (vs k (A0, A1, A2))) = vd (vx (A0, A1, A2) (B0, B1, B2)) (O0, O1, O2) := by simp only [vd, vx, va, vs]; grind
  have e5 : vd (vx (A0, A1, A2) (B0, B1, B2)) (va (O0, O1, O2) (vs l (B0, B1, B2))) = vd (vx (A0, A1, A2) (B0, B1, B2)) (O0, O1, O2) := by simp only [vd, vx, va, vs]; grind
  rw [e4, e5]
  generalize vd (vx (A0, A1, A2) (B0, B1, B2)) (O0, O1, O2) = D
  simp only [vs, va, Prod.mk.injEq]
  refine ⟨?_, ?_, ?_⟩ <;> grind

/-- the three crossings lie on a line -/
theorem axis_law {n : Nat} [NeZero n] {m0 m1 m2 u0 u1 u2 : Int × Int × Int} (h0 : ∃ c : Fin n, cV n m0 = vs c (va (cV n u0) (vs (-1) (cV n u1)))) (h1 : ∃ c : Fin n, cV n m1 = vs c (va (cV n u1) (vs (-1) (cV n u2)))) (h2 : ∃ c : Fin n, cV n m2 = vs c (va (cV n u2) (vs (-1) (cV n u0)))) :
    d3 n m0 m1 m2 = 0 := by
  rw [d3_iff]
  obtain ⟨a, ea⟩ := h0
  obtain ⟨b, eb⟩ := h1
  obtain ⟨c, ec⟩ := h2
  rw [ea, eb, ec, vx_s, vd_s]
  generalize cV n u0 = X
  generalize cV n u1 = Y
  generalize cV n u2 = Z
  have e : vd (vx (va X (vs (-1) Y)) (va Y (vs (-1) Z))) (va Z (vs (-1) X)) = 0 := by simp only [vd, vx, va, vs]; grind
  rw [e]; grind
/-- a map keeps what lies on a line -/
theorem line_map {n : Nat} [NeZero n] (hn : 2 ≤ n) (hp : isP n = true) {A0 A1 A2 A3 A4 A5 A6 A7 A8 : Int} {a b c : Int × Int × Int} (h : d3 n a b c = 0) :
    d3 n (stp n A0 A1 A2 A3 A4 A5 A6 A7 A8 a) (stp n A0 A1 A2 A3 A4 A5 A6 A7 A8 b) (stp n A0 A1 A2 A3 A4 A5 A6 A7 A8 c) = 0 := by
  have st : ∀ x, ∃ k : Fin n, cV n (stp n A0 A1 A2 A3 A4 A5 A6 A7 A8 x) = vs k (MM n A0 A1 A2 A3 A4 A5 A6 A7 A8 (cV n x)) := fun x => by
    obtain ⟨k, e⟩ := plain_any hn hp (a := (_, _, _))
    refine ⟨k, ?_⟩
    rw [← MM_cV]; exact e
  obtain ⟨k, ea⟩ := st a
  obtain ⟨l, eb⟩ := st b
  obtain ⟨m, ec⟩ := st c
  rw [d3_iff] at h ⊢
  rw [ea, eb, ec, vx_s, vd_s]
  have e : vd (vx (MM n A0 A1 A2 A3 A4 A5 A6 A7 A8 (cV n a)) (MM n A0 A1 A2 A3 A4 A5 A6 A7 A8 (cV n b))) (MM n A0 A1 A2 A3 A4 A5 A6 A7 A8 (cV n c)) = DD n A0 A1 A2 A3 A4 A5 A6 A7 A8 * vd (vx (cV n a) (cV n b)) (cV n c) := by
    unfold MM DD
    simp only [vd, vx, vm, dt]; grind
  rw [e, h]; grind
end Go.Proofs.Ytfdbkocpljiehaa
