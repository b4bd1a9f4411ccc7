/- Plain law: what an arc of four says of cross products; what 'on' says. -/
import Derived.Test.YtfdbkocpljiehaaMe
import Derived.Test.YtfdbkocpljiehaaZb
set_option linter.unusedSimpArgs false
set_option linter.unusedVariables false
namespace Go.Proofs.Ytfdbkocpljiehaa

theorem plain_any {n : Nat} [NeZero n] (hn : 2 ≤ n) (h : isP n = true) (a : Int × Int × Int) : ∃ k : Fin n, cV n (pl n a.1 a.2.1 a.2.2) = vs k (cV n a) := by
  cases hz : zz n a.1 a.2.1 a.2.2
  · obtain ⟨k, _, _, e⟩ := plain_cV hn h hz
    exact ⟨k, e⟩
  · refine ⟨0, ?_⟩
    rw [pl_zero hz]
    simp only [cV, vs, Prod.mk.injEq, cF_zero]
    refine ⟨?_, ?_, ?_⟩ <;> grind

theorem arc_vd {n : Nat} [NeZero n] (hn : 2 ≤ n) (h : isP n = true) {f : Nat → Int × Int × Int} {i j k : Nat} (ho : okK n (xT n f) i j k = true) : vd (vx (cV n (f i)) (cV n (f j))) (cV n (f k)) ≠ 0 := by
  intro e
  have e1 := cV_dot (n := n) (crT (xT n f i) (xT n f j)) (xT n f k)
  have e2 := cV_cross (n := n) (xT n f i) (xT n f j)
  obtain ⟨ki, ei⟩ := plain_any hn h (f i)
  obtain ⟨kj, ej⟩ := plain_any hn h (f j)
  obtain ⟨kk, ek⟩ := plain_any hn h (f k)
  have e3 : cV n (crT (xT n f i) (xT n f j)) = vs (ki * kj) (vx (cV n (f i)) (cV n (f j))) := by
    rw [show cV n (crT (xT n f i) (xT n f j)) = vx (cV n (xT n f i)) (cV n (xT n f j)) from e2]
    rw [show cV n (xT n f i) = _ from ei, show cV n (xT n f j) = _ from ej, vx_s]
  rw [e3, show cV n (xT n f k) = _ from ek, vd_s, e] at e1
  have e4 : cF n (dtT (crT (xT n f i) (xT n f j)) (xT n f k)) = 0 := by
    rw [show cF n (dtT (crT (xT n f i) (xT n f j)) (xT n f k)) = _ from e1]; grind
  have e5 := cF_iff0.1 e4
  unfold okK at ho
  rw [e5] at ho
  cases ho

theorem on_vd {n : Nat} [NeZero n] (hn : 2 ≤ n) (h : isP n = true) {z l : Int × Int × Int} {u0 u1 u2 v0 v1 v2 : Int} (hz : zz n z.1 z.2.1 z.2.2 = false) (hl : zz n l.1 l.2.1 l.2.2 = false) (hu : pl n z.1 z.2.1 z.2.2 = (u0, u1, u2)) (hv : pl n l.1 l.2.1 l.2.2 = (v0, v1, v2)) :
    ((u0 * v0 + u1 * v1 + u2 * v2) % (n : Int) == 0) = true ↔ vd (cV n z) (cV n l) = 0 := by
  rw [beq_iff_eq, ← cF_iff0]
  obtain ⟨k, k', hk, e1⟩ := plain_cV hn h hz
  obtain ⟨m, m', hm, e2⟩ := plain_cV hn h hl
  have e3 := cV_dot (n := n) (u0, u1, u2) (v0, v1, v2)
  dsimp only at e3
  rw [hu] at e1
  rw [hv] at e2
  rw [e1, e2, vd_s] at e3
  rw [e3]
  constructor
  · intro h0; grind
  · intro h0; rw [h0]; grind

/-- four points, no three on a line: the law of Fano, as the code asks for it -/
theorem fano_arc {p : Int} (hp : isP p = true) {f : Nat → Int × Int × Int} (harc : arcB p (xT p f) 4 = true) :
    ∃ a b x c d y e g z l : Int × Int × Int, (JoinIs p (f 0) (f 1) a ∧ JoinIs p (f 2) (f 3) b ∧ JoinIs p a b x) ∧ (JoinIs p (f 0) (f 2) c ∧ JoinIs p (f 1) (f 3) d ∧ JoinIs p c d y) ∧ (JoinIs p (f 0) (f 3) e ∧ JoinIs p (f 1) (f 2) g ∧ JoinIs p e g z) ∧ JoinIs p x y l ∧
      zz p z.1 z.2.1 z.2.2 = false ∧ zz p l.1 l.2.1 l.2.2 = false ∧ ∀ u0 u1 u2 v0 v1 v2, pl p z.1 z.2.1 z.2.2 = (u0, u1, u2) → pl p l.1 l.2.1 l.2.2 = (v0, v1, v2) → ((u0 * v0 + u1 * v1 + u2 * v2) % p == 0) = (p == 2) := by
  obtain ⟨n, rfl, hn, hn0⟩ := toF hp
  haveI : NeZero n := ⟨hn0⟩
  have ok : ∀ i j k, i < 4 → j < i → k < j → okK n (xT n f) i j k = true := fun i j k hi hj hk => by
    cases ho : okK n (xT n f) i j k
    · rw [arcB_not hi hj hk ho] at harc; cases harc
    · rfl
  have t1 := arc_vd hn hp (ok 2 1 0 (by omega) (by omega) (by omega))
  have t2 := arc_vd hn hp (ok 3 1 0 (by omega) (by omega) (by omega))
  have t3 := arc_vd hn hp (ok 3 2 0 (by omega) (by omega) (by omega))
  have t4 := arc_vd hn hp (ok 3 2 1 (by omega) (by omega) (by omega))
  obtain ⟨a, b, x, c, d, y, e, g, z, l, h1, h2, h3, h4, h5, h6, h7⟩ := fano_law hn hp (q0 := f 0) (q1 := f 1) (q2 := f 2) (q3 := f 3)
    (fun e => t1 (by simp only [vx, vd] at e ⊢; grind)) (fun e => t2 (by simp only [vx, vd] at e ⊢; grind)) (fun e => t3 (by simp only [vx, vd] at e ⊢; grind)) (fun e => t4 (by simp only [vx, vd] at e ⊢; grind))
  refine ⟨a, b, x, c, d, y, e, g, z, l, h1, h2, h3, h4, h5, h6, fun u0 u1 u2 v0 v1 v2 hu hv => ?_⟩
  rw [Bool.eq_iff_iff, on_vd hn hp h5 h6 hu hv, h7, beq_iff_eq]
  omega
end Go.Proofs.Ytfdbkocpljiehaa
