/- Plain law: Desargues, as the law's code asks for it. No Go in sight. -/
import Derived.Test.YtfdbkocpljiehaaMj
import Derived.Test.YtfdbkocpljiehaaZl
set_option linter.unusedSimpArgs false
set_option linter.unusedVariables false
namespace Go.Proofs.Ytfdbkocpljiehaa

/-- row i of nine numbers -/
def rw3 (l : List Int) (i : Nat) : Int × Int × Int := (lf l (3 * i), lf l (3 * i + 1), lf l (3 * i + 2))
def ja (p : Int) (l : List Int) (i : Nat) : Int × Int × Int := jn p (rw3 l i) (rw3 l ((i + 1) % 3))
def jm (p : Int) (t u : List Int) (i : Nat) : Int × Int × Int := jn p (ja p t i) (ja p u i)
def frm (p : Int) (t u : List Int) (i : Nat) : Bool := fr p (ja p t i) (ja p u i)

theorem des_law {p : Int} (hp : isP p = true) {o0 o1 o2 t0 t1 t2 t3 t4 t5 t6 t7 t8 k0 k1 k2 u0 u1 u2 u3 u4 u5 u6 u7 u8 : Int} (a0 a1 a2 a3 a4 a5 a6 a7 a8 : Int)
    (e0 : u0 = o0 % p + k0 % p * (t0 % p)) (e1 : u1 = o1 % p + k0 % p * (t1 % p)) (e2 : u2 = o2 % p + k0 % p * (t2 % p))
    (e3 : u3 = o0 % p + k1 % p * (t3 % p)) (e4 : u4 = o1 % p + k1 % p * (t4 % p)) (e5 : u5 = o2 % p + k1 % p * (t5 % p))
    (e6 : u6 = o0 % p + k2 % p * (t6 % p)) (e7 : u7 = o1 % p + k2 % p * (t7 % p)) (e8 : u8 = o2 % p + k2 % p * (t8 % p))
    (h1 : d9 p u0 u1 u2 u3 u4 u5 u6 u7 u8 ≠ 0) (h2 : d9 p o0 o1 o2 t0 t1 t2 t3 t4 t5 ≠ 0) (h3 : d9 p o0 o1 o2 t3 t4 t5 t6 t7 t8 ≠ 0) (h4 : d9 p o0 o1 o2 t6 t7 t8 t0 t1 t2 ≠ 0) :
    (∀ i, i < 3 → JoinIs p (rw3 [t0, t1, t2, t3, t4, t5, t6, t7, t8] i) (rw3 [t0, t1, t2, t3, t4, t5, t6, t7, t8] ((i + 1) % 3)) (ja p [t0, t1, t2, t3, t4, t5, t6, t7, t8] i) ∧
      JoinIs p (rw3 [u0, u1, u2, u3, u4, u5, u6, u7, u8] i) (rw3 [u0, u1, u2, u3, u4, u5, u6, u7, u8] ((i + 1) % 3)) (ja p [u0, u1, u2, u3, u4, u5, u6, u7, u8] i) ∧
      zz p (ja p [t0, t1, t2, t3, t4, t5, t6, t7, t8] i).1 (ja p [t0, t1, t2, t3, t4, t5, t6, t7, t8] i).2.1 (ja p [t0, t1, t2, t3, t4, t5, t6, t7, t8] i).2.2 = false ∧
      zz p (ja p [u0, u1, u2, u3, u4, u5, u6, u7, u8] i).1 (ja p [u0, u1, u2, u3, u4, u5, u6, u7, u8] i).2.1 (ja p [u0, u1, u2, u3, u4, u5, u6, u7, u8] i).2.2 = false) ∧
    d3 p (jm p [t0, t1, t2, t3, t4, t5, t6, t7, t8] [u0, u1, u2, u3, u4, u5, u6, u7, u8] 0) (jm p [t0, t1, t2, t3, t4, t5, t6, t7, t8] [u0, u1, u2, u3, u4, u5, u6, u7, u8] 1) (jm p [t0, t1, t2, t3, t4, t5, t6, t7, t8] [u0, u1, u2, u3, u4, u5, u6, u7, u8] 2) = 0 ∧
    d3 p (sT p a0 a1 a2 a3 a4 a5 a6 a7 a8 (jm p [t0, t1, t2, t3, t4, t5, t6, t7, t8] [u0, u1, u2, u3, u4, u5, u6, u7, u8] 0)) (sT p a0 a1 a2 a3 a4 a5 a6 a7 a8 (jm p [t0, t1, t2, t3, t4, t5, t6, t7, t8] [u0, u1, u2, u3, u4, u5, u6, u7, u8] 1)) (sT p a0 a1 a2 a3 a4 a5 a6 a7 a8 (jm p [t0, t1, t2, t3, t4, t5, t6, t7, t8] [u0, u1, u2, u3, u4, u5, u6, u7, u8] 2)) = 0 := by
  obtain ⟨n, rfl, hn, hn0⟩ := toF hp
  haveI : NeZero n := ⟨hn0⟩
  have c0 : cV n (u0, u1, u2) = va (cV n (o0, o1, o2)) (vs (cF n k0) (cV n (t0, t1, t2))) := by
    simp only [cV, va, vs, e0, e1, e2, cF_add, cF_mul, cF_mod, Prod.mk.injEq]; refine ⟨?_, ?_, ?_⟩ <;> grind
  have c1 : cV n (u3, u4, u5) = va (cV n (o0, o1, o2)) (vs (cF n k1) (cV n (t3, t4, t5))) := by
    simp only [cV, va, vs, e3, e4, e5, cF_add, cF_mul, cF_mod, Prod.mk.injEq]; refine ⟨?_, ?_, ?_⟩ <;> grind
  have c2 : cV n (u6, u7, u8) = va (cV n (o0, o1, o2)) (vs (cF n k2) (cV n (t6, t7, t8))) := by
    simp only [cV, va, vs, e6, e7, e8, cF_add, cF_mul, cF_mod, Prod.mk.injEq]; refine ⟨?_, ?_, ?_⟩ <;> grind
  have hU : vd (vx (cV n (u0, u1, u2)) (cV n (u3, u4, u5))) (cV n (u6, u7, u8)) ≠ 0 := fun e => h1 (d3_iff (a := (u0, u1, u2)) (b := (u3, u4, u5)) (c := (u6, u7, u8)) |>.2 e)
  have w01 : vx (cV n (u0, u1, u2)) (cV n (u3, u4, u5)) ≠ (0, 0, 0) := fun e => hU (vd_zero e)
  have w12 : vx (cV n (u3, u4, u5)) (cV n (u6, u7, u8)) ≠ (0, 0, 0) := fun e => hU (by rw [vd_cyc]; exact vd_zero e)
  have w20 : vx (cV n (u6, u7, u8)) (cV n (u0, u1, u2)) ≠ (0, 0, 0) := fun e => hU (by rw [vd_cyc, vd_cyc]; exact vd_zero e)
  have s0 := side_law hn hp (o := (o0, o1, o2)) (a := (t0, t1, t2)) (b := (t3, t4, t5)) c0 c1 h2 w01
  have s1 := side_law hn hp (o := (o0, o1, o2)) (a := (t3, t4, t5)) (b := (t6, t7, t8)) c1 c2 h3 w12
  have s2 := side_law hn hp (o := (o0, o1, o2)) (a := (t6, t7, t8)) (b := (t0, t1, t2)) c2 c0 h4 w20
  have ax := axis_law s0.2.2.2.2 s1.2.2.2.2 s2.2.2.2.2
  refine ⟨fun i hi => ?_, ax, line_map hn hp ax⟩
  have hh : i = 0 ∨ i = 1 ∨ i = 2 := by omega
  rcases hh with rfl | rfl | rfl
  · exact ⟨s0.1, s0.2.1, s0.2.2.1, s0.2.2.2.1⟩
  · exact ⟨s1.1, s1.2.1, s1.2.2.1, s1.2.2.2.1⟩
  · exact ⟨s2.1, s2.2.1, s2.2.2.1, s2.2.2.2.1⟩
end Go.Proofs.Ytfdbkocpljiehaa
