/- Plain law: maps of the plane as linear maps; a map that leaves a frame leaves all; how often it must be done. No Go in sight. -/
import Derived.Test.YtfdbkocpljiehaaMe
import Derived.Test.YtfdbkocpljiehaaDo
set_option linter.unusedSimpArgs false
set_option linter.unusedVariables false
namespace Go.Proofs.Ytfdbkocpljiehaa

/-! ### Two plain lemmas on numbers -/
theorem pigeon : ∀ (B : Nat) (E : Nat → Nat), (∀ i, i ≤ B → E i < B) → ∃ i j, i < j ∧ j ≤ B ∧ E i = E j
  | 0, E, h => by have := h 0 (by omega); omega
  | B + 1, E, h => by
    by_cases hc : ∃ i, i ≤ B ∧ E i = E (B + 1)
    · obtain ⟨i, hi, he⟩ := hc
      exact ⟨i, B + 1, by omega, by omega, he⟩
    · have hc' : ∀ i, i ≤ B → E i ≠ E (B + 1) := fun i hi he => hc ⟨i, hi, he⟩
      have hb := h (B + 1) (by omega)
      obtain ⟨i, j, hij, hj, he⟩ := pigeon B (fun i => if E i = B then E (B + 1) else E i) (fun i hi => by
        have h1 := h i (by omega)
        have h2 := hc' i hi
        by_cases hB : E i = B
        · rw [if_pos hB]; omega
        · rw [if_neg hB]; omega)
      refine ⟨i, j, hij, by omega, ?_⟩
      have h1 := hc' i (by omega)
      have h2 := hc' j hj
      by_cases hi : E i = B <;> by_cases hj' : E j = B
      · omega
      · rw [if_pos hi, if_neg hj'] at he; omega
      · rw [if_neg hi, if_pos hj'] at he; omega
      · rw [if_neg hi, if_neg hj'] at he; exact he
theorem least (P : Nat → Bool) : ∀ N, P N = true → ∃ m, m ≤ N ∧ P m = true ∧ ∀ k, k < m → P k = false
  | 0, h => ⟨0, by omega, h, fun k hk => by omega⟩
  | N + 1, h => by
    by_cases hx : ∃ k, k ≤ N ∧ P k = true
    · obtain ⟨k, hk, hP⟩ := hx
      have hP' : P k = true := hP
      -- take the least among those up to k
      have key : ∀ d k, k ≤ d → P k = true → ∃ m, m ≤ k ∧ P m = true ∧ ∀ k', k' < m → P k' = false := by
        intro d
        induction d with
        | zero => intro k hk hP; exact ⟨k, by omega, hP, fun k' hk' => by omega⟩
        | succ d ih =>
          intro k hk hP
          by_cases hy : ∃ k', k' < k ∧ P k' = true
          · obtain ⟨k', hk', hP'⟩ := hy
            obtain ⟨m, hm, h1, h2⟩ := ih k' (by omega) hP'
            exact ⟨m, by omega, h1, h2⟩
          · refine ⟨k, by omega, hP, fun k' hk' => ?_⟩
            cases hp : P k'
            · rfl
            · exact absurd ⟨k', hk', hp⟩ hy
      obtain ⟨m, hm, h1, h2⟩ := key k k (by omega) hP
      exact ⟨m, by omega, h1, h2⟩
    · refine ⟨N + 1, by omega, h, fun k hk => ?_⟩
      cases hp : P k
      · rfl
      · exact absurd ⟨k, by omega, hp⟩ hx

section
variable {n : Nat}
def Lin (N : Fin n × Fin n × Fin n → Fin n × Fin n × Fin n) : Prop := (∀ a b, N (va a b) = va (N a) (N b)) ∧ ∀ k a, N (vs k a) = vs k (N a)
def Mn (M : Fin n × Fin n × Fin n → Fin n × Fin n × Fin n) : Nat → Fin n × Fin n × Fin n → Fin n × Fin n × Fin n
  | 0, v => v
  | k + 1, v => M (Mn M k v)
theorem Mn_lin {M : Fin n × Fin n × Fin n → Fin n × Fin n × Fin n} (h : Lin M) : ∀ k, Lin (Mn M k)
  | 0 => ⟨fun _ _ => rfl, fun _ _ => rfl⟩
  | k + 1 => by
    have ih := Mn_lin h k
    exact ⟨fun a b => by show M (Mn M k _) = va (M _) (M _); rw [ih.1, h.1], fun c a => by show M (Mn M k _) = vs c (M _); rw [ih.2, h.2]⟩
theorem Fr_nm (hn : 2 ≤ n) (j : Nat) : Nm n (Fr j) := by
  unfold Fr Nm
  split
  · simp; omega
  · split
    · simp; omega
    · split
      · simp; omega
      · simp; omega

/-- a number for a triple -/
def enc (h : Int × Int × Int) : Nat := (h.1.toNat * 13 + h.2.1.toNat) * 13 + h.2.2.toNat
theorem enc_lt (hp : isP n = true) {h : Int × Int × Int} (hh : Nm n h) : enc h < 2197 := by
  obtain ⟨⟨_, h1⟩, ⟨_, h2⟩, ⟨_, h3⟩, _⟩ := hh
  have := isP_cases hp
  unfold enc; omega
theorem enc_inj (hp : isP n = true) {a b : Int × Int × Int} (ha : Nm n a) (hb : Nm n b) (e : enc a = enc b) : a = b := by
  obtain ⟨⟨a0, a1⟩, ⟨a2, a3⟩, ⟨a4, a5⟩, _⟩ := ha
  obtain ⟨⟨b0, b1⟩, ⟨b2, b3⟩, ⟨b4, b5⟩, _⟩ := hb
  have := isP_cases hp
  obtain ⟨x0, x1, x2⟩ := a
  obtain ⟨y0, y1, y2⟩ := b
  unfold enc at e
  dsimp only at *
  have e0 : x0 = y0 := by omega
  have e1 : x1 = y1 := by omega
  have e2 : x2 = y2 := by omega
  rw [e0, e1, e2]

end
section
variable {n : Nat} [NeZero n]
def vm (a0 a1 a2 a3 a4 a5 a6 a7 a8 : Fin n) (v : Fin n × Fin n × Fin n) : Fin n × Fin n × Fin n :=
  (a0 * v.1 + a1 * v.2.1 + a2 * v.2.2, a3 * v.1 + a4 * v.2.1 + a5 * v.2.2, a6 * v.1 + a7 * v.2.1 + a8 * v.2.2)
theorem vm_lin (a0 a1 a2 a3 a4 a5 a6 a7 a8 : Fin n) : Lin (vm a0 a1 a2 a3 a4 a5 a6 a7 a8) := by
  constructor
  · intro a b; simp only [vm, va, Prod.mk.injEq]; refine ⟨?_, ?_, ?_⟩ <;> grind
  · intro k a; simp only [vm, vs, Prod.mk.injEq]; refine ⟨?_, ?_, ?_⟩ <;> grind
def dt (a0 a1 a2 a3 a4 a5 a6 a7 a8 : Fin n) : Fin n := a0 * (a4 * a8 - a5 * a7) + a1 * (a5 * a6 - a3 * a8) + a2 * (a3 * a7 - a4 * a6)
theorem vm_inj {a0 a1 a2 a3 a4 a5 a6 a7 a8 : Fin n} (h : isP n = true) (hd : dt a0 a1 a2 a3 a4 a5 a6 a7 a8 ≠ 0) {v : Fin n × Fin n × Fin n} (hv : vm a0 a1 a2 a3 a4 a5 a6 a7 a8 v = (0, 0, 0)) : v = (0, 0, 0) := by
  obtain ⟨v0, v1, v2⟩ := v
  simp only [vm, Prod.mk.injEq] at hv ⊢
  obtain ⟨h0, h1, h2⟩ := hv
  have key : ∀ x : Fin n, dt a0 a1 a2 a3 a4 a5 a6 a7 a8 * x = 0 → x = 0 := fun x hx => by
    by_cases h0 : x = 0
    · exact h0
    · exact absurd hx (fmul_ne h hd h0)
  refine ⟨key _ ?_, key _ ?_, key _ ?_⟩ <;> (unfold dt; grind)

/-- the triple u stands for the vector v -/
def Rep (u : Int × Int × Int) (v : Fin n × Fin n × Fin n) : Prop := ∃ k l : Fin n, k * l = 1 ∧ cV n u = vs k v
theorem Rep.self (u : Int × Int × Int) : Rep u (cV n u) := ⟨1, 1, by grind, by simp only [vs]; simp only [cV, Prod.mk.injEq]; refine ⟨?_, ?_, ?_⟩ <;> grind⟩
theorem Rep.scale {u : Int × Int × Int} {v : Fin n × Fin n × Fin n} {c d : Fin n} (hc : c * d = 1) (h : Rep u (vs c v)) : Rep u v := by
  obtain ⟨k, l, hk, e⟩ := h
  exact ⟨k * c, l * d, by grind, by rw [e, vs_s]⟩
theorem vs_inv {k l : Fin n} (h : k * l = 1) {a b : Fin n × Fin n × Fin n} (e : a = vs k b) : b = vs l a := by
  subst e; rw [vs_s]; simp only [vs, Prod.mk.injEq]
  obtain ⟨b0, b1, b2⟩ := b
  simp only [Prod.mk.injEq]
  refine ⟨?_, ?_, ?_⟩ <;> grind
theorem rep_unique (hn : 2 ≤ n) {u u' : Int × Int × Int} {v : Fin n × Fin n × Fin n} (hu : Nm n u) (hu' : Nm n u') (h : Rep u v) (h' : Rep u' v) : u = u' := by
  obtain ⟨k, l, hk, e⟩ := h
  obtain ⟨k', l', hk', e'⟩ := h'
  obtain ⟨u0, u1, u2⟩ := u
  obtain ⟨w0, w1, w2⟩ := u'
  obtain ⟨v0, v1, v2⟩ := v
  simp only [cV, vs, Prod.mk.injEq] at e e'
  obtain ⟨e0, e1, e2⟩ := e
  obtain ⟨f0, f1, f2⟩ := e'
  obtain ⟨r0, r1, r2⟩ := nm_cross hn hu hu' (by rw [e1, e2, f1, f2]; grind) (by rw [e0, e2, f0, f2]; grind) (by rw [e0, e1, f0, f1]; grind)
  rw [r0, r1, r2]
theorem pl_rep (hn : 2 ≤ n) (h : isP n = true) {a : Int × Int × Int} (hz : zz n a.1 a.2.1 a.2.2 = false) : Nm n (pl n a.1 a.2.1 a.2.2) ∧ Rep (pl n a.1 a.2.1 a.2.2) (cV n a) :=
  ⟨(pl_spec h hz).1, plain_cV hn h hz⟩
/-- two triples that stand for one vector have one plain form -/
theorem pl_scale (hn : 2 ≤ n) (h : isP n = true) {a b : Int × Int × Int} (hab : Rep a (cV n b)) : pl n a.1 a.2.1 a.2.2 = pl n b.1 b.2.1 b.2.2 ∧ zz n a.1 a.2.1 a.2.2 = zz n b.1 b.2.1 b.2.2 := by
  obtain ⟨k, l, hk, e⟩ := hab
  cases hb : zz n b.1 b.2.1 b.2.2
  · have ha : zz n a.1 a.2.1 a.2.2 = false := nz_cV.2 (by rw [e]; exact unit_ne hk (nz_cV.1 hb))
    refine ⟨?_, ha⟩
    obtain ⟨h1, h2⟩ := pl_rep hn h ha
    obtain ⟨h3, h4⟩ := pl_rep hn h hb
    rw [e] at h2
    exact rep_unique hn h1 h3 (h2.scale hk) h4
  · have ha : zz n a.1 a.2.1 a.2.2 = true := zz_cV.2 (by rw [e, zz_cV.1 hb]; simp only [vs, Prod.mk.injEq]; refine ⟨?_, ?_, ?_⟩ <;> grind)
    exact ⟨by rw [pl_zero ha, pl_zero hb], ha⟩
end

/-! ### The map that a table makes -/
section
variable {n : Nat} [NeZero n] {A0 A1 A2 A3 A4 A5 A6 A7 A8 : Int}
def MM (n : Nat) [NeZero n] (A0 A1 A2 A3 A4 A5 A6 A7 A8 : Int) := vm (cF n A0) (cF n A1) (cF n A2) (cF n A3) (cF n A4) (cF n A5) (cF n A6) (cF n A7) (cF n A8)
def DD (n : Nat) [NeZero n] (A0 A1 A2 A3 A4 A5 A6 A7 A8 : Int) := dt (cF n A0) (cF n A1) (cF n A2) (cF n A3) (cF n A4) (cF n A5) (cF n A6) (cF n A7) (cF n A8)
theorem MM_cV (h : Int × Int × Int) : cV n ((A0 * h.1 + A1 * h.2.1 + A2 * h.2.2) % n, (A3 * h.1 + A4 * h.2.1 + A5 * h.2.2) % n, (A6 * h.1 + A7 * h.2.1 + A8 * h.2.2) % n) = MM n A0 A1 A2 A3 A4 A5 A6 A7 A8 (cV n h) := by
  simp only [cV, MM, vm, cF_mod, cF_add, cF_mul]
theorem stp_nz (hp : isP n = true) (hd : DD n A0 A1 A2 A3 A4 A5 A6 A7 A8 ≠ 0) {h : Int × Int × Int} (hz : zz n h.1 h.2.1 h.2.2 = false) :
    zz n ((A0 * h.1 + A1 * h.2.1 + A2 * h.2.2) % n) ((A3 * h.1 + A4 * h.2.1 + A5 * h.2.2) % n) ((A6 * h.1 + A7 * h.2.1 + A8 * h.2.2) % n) = false := by
  have e := MM_cV (n := n) (A0 := A0) (A1 := A1) (A2 := A2) (A3 := A3) (A4 := A4) (A5 := A5) (A6 := A6) (A7 := A7) (A8 := A8) h
  refine nz_cV (n := n) (a := (_, _, _)) |>.2 ?_
  rw [e]
  exact fun h0 => nz_cV.1 hz (vm_inj hp hd h0)
theorem stp_rep (hn : 2 ≤ n) (hp : isP n = true) (hd : DD n A0 A1 A2 A3 A4 A5 A6 A7 A8 ≠ 0) {h : Int × Int × Int} (hz : zz n h.1 h.2.1 h.2.2 = false) :
    Nm n (stp n A0 A1 A2 A3 A4 A5 A6 A7 A8 h) ∧ Rep (stp n A0 A1 A2 A3 A4 A5 A6 A7 A8 h) (MM n A0 A1 A2 A3 A4 A5 A6 A7 A8 (cV n h)) := by
  have h1 := pl_rep hn hp (a := (_, _, _)) (stp_nz hp hd hz)
  rw [MM_cV] at h1
  exact h1
theorem itr_rep (hn : 2 ≤ n) (hp : isP n = true) (hd : DD n A0 A1 A2 A3 A4 A5 A6 A7 A8 ≠ 0) {h : Int × Int × Int} (hh : Nm n h) : ∀ k,
    Nm n (itr (stp n A0 A1 A2 A3 A4 A5 A6 A7 A8) k h) ∧ Rep (itr (stp n A0 A1 A2 A3 A4 A5 A6 A7 A8) k h) (Mn (MM n A0 A1 A2 A3 A4 A5 A6 A7 A8) k (cV n h))
  | 0 => ⟨hh, Rep.self _⟩
  | k + 1 => by
    obtain ⟨h1, h2⟩ := itr_rep hn hp hd hh k
    obtain ⟨h3, h4⟩ := stp_rep hn hp hd (nm_nz (by omega) h1)
    refine ⟨h3, ?_⟩
    obtain ⟨c, d, hc, e⟩ := h2
    show Rep (stp n A0 A1 A2 A3 A4 A5 A6 A7 A8 _) (MM n A0 A1 A2 A3 A4 A5 A6 A7 A8 (Mn _ k _))
    rw [show cV n ((itr (stp n A0 A1 A2 A3 A4 A5 A6 A7 A8) k h).1, (itr (stp n A0 A1 A2 A3 A4 A5 A6 A7 A8) k h).2.1, (itr (stp n A0 A1 A2 A3 A4 A5 A6 A7 A8) k h).2.2) = _ from e, show MM n A0 A1 A2 A3 A4 A5 A6 A7 A8 (vs c _) = _ from (vm_lin _ _ _ _ _ _ _ _ _).2 c _] at h4
    exact h4.scale hc
/-- a map that leaves the frame where it is leaves every point -/
theorem frame_all (hn : 2 ≤ n) (hp : isP n = true) (hd : DD n A0 A1 A2 A3 A4 A5 A6 A7 A8 ≠ 0) {k : Nat} (hb : bk (stp n A0 A1 A2 A3 A4 A5 A6 A7 A8) k 4 = true) {h : Int × Int × Int} (hh : Nm n h) :
    itr (stp n A0 A1 A2 A3 A4 A5 A6 A7 A8) k h = h := by
  have fr : ∀ j, j < 4 → Rep (Fr j) (Mn (MM n A0 A1 A2 A3 A4 A5 A6 A7 A8) k (cV n (Fr j))) := fun j hj => by
    have h1 := List.all_eq_true.1 hb j (List.mem_range.2 hj)
    have h2 := (itr_rep hn hp hd (Fr_nm hn j) k).2
    rw [beq_iff_eq] at h1
    rw [h1] at h2
    exact h2
  have hl := Mn_lin (vm_lin (cF n A0) (cF n A1) (cF n A2) (cF n A3) (cF n A4) (cF n A5) (cF n A6) (cF n A7) (cF n A8)) k
  have h0 := (itr_rep hn hp hd hh k).2
  have h0' := (itr_rep hn hp hd hh k).1
  obtain ⟨a, a', ha, ea⟩ := fr 0 (by omega)
  obtain ⟨b, b', hb', eb⟩ := fr 1 (by omega)
  obtain ⟨c, c', hc, ec⟩ := fr 2 (by omega)
  obtain ⟨d, d', hd', ed⟩ := fr 3 (by omega)
  have ea := vs_inv ha ea
  have eb := vs_inv hb' eb
  have ec := vs_inv hc ec
  have ed := vs_inv hd' ed
  have c1 := cF_one (n := n) hn
  have c0 := cF_zero (n := n)
  have f0 : cV n (Fr 0) = (1, 0, 0) := by simp only [cV, Fr]; simp [c1, c0]
  have f1 : cV n (Fr 1) = (0, 1, 0) := by simp only [cV, Fr]; simp [c1, c0]
  have f2 : cV n (Fr 2) = (0, 0, 1) := by simp only [cV, Fr]; simp [c1, c0]
  have f3 : cV n (Fr 3) = (1, 1, 1) := by simp only [cV, Fr]; simp [c1, c0]
  rw [f0] at ea; rw [f1] at eb; rw [f2] at ec; rw [f3] at ed
  have hN : Lin (Mn (MM n A0 A1 A2 A3 A4 A5 A6 A7 A8) k) := hl
  generalize Mn (MM n A0 A1 A2 A3 A4 A5 A6 A7 A8) k = N at *
  have e111 : N (1, 1, 1) = va (N (1, 0, 0)) (va (N (0, 1, 0)) (N (0, 0, 1))) := by
    rw [← hN.1, ← hN.1]; congr 1; simp only [va, Prod.mk.injEq]; refine ⟨?_, ?_, ?_⟩ <;> grind
  rw [ea, eb, ec, ed] at e111
  simp only [vs, va, Prod.mk.injEq] at e111
  obtain ⟨g0, g1, g2⟩ := e111
  have hv : N (cV n h) = vs d' (cV n h) := by
    obtain ⟨v0, v1, v2⟩ := cV n h
    have e : ((v0, v1, v2) : Fin n × Fin n × Fin n) = va (vs v0 (1, 0, 0)) (va (vs v1 (0, 1, 0)) (vs v2 (0, 0, 1))) := by
      simp only [va, vs, Prod.mk.injEq]; refine ⟨?_, ?_, ?_⟩ <;> grind
    rw [e, hN.1, hN.1, hN.2, hN.2, hN.2, ea, eb, ec]
    simp only [va, vs, Prod.mk.injEq]; refine ⟨?_, ?_, ?_⟩ <;> grind
  rw [hv] at h0
  exact rep_unique hn h0' hh (h0.scale (show d' * d = 1 by grind)) (Rep.self _)

theorem stp_inj (hn : 2 ≤ n) (hp : isP n = true) (hd : DD n A0 A1 A2 A3 A4 A5 A6 A7 A8 ≠ 0) {a b : Int × Int × Int} (ha : Nm n a) (hb : Nm n b) (e : stp n A0 A1 A2 A3 A4 A5 A6 A7 A8 a = stp n A0 A1 A2 A3 A4 A5 A6 A7 A8 b) : a = b := by
  obtain ⟨_, k, l, hk, e1⟩ := stp_rep hn hp hd (nm_nz (by omega) ha)
  obtain ⟨_, k', l', hk', e2⟩ := stp_rep hn hp hd (nm_nz (by omega) hb)
  rw [show stp n A0 A1 A2 A3 A4 A5 A6 A7 A8 (a.1, a.2.1, a.2.2) = _ from e] at e1
  have e3 := vs_inv hk (e2.symm.trans e1)
  rw [vs_s] at e3
  have hl := vm_lin (cF n A0) (cF n A1) (cF n A2) (cF n A3) (cF n A4) (cF n A5) (cF n A6) (cF n A7) (cF n A8)
  have e4 : MM n A0 A1 A2 A3 A4 A5 A6 A7 A8 (va (cV n a) (vs (-(l * k')) (cV n b))) = (0, 0, 0) := by
    rw [show MM n A0 A1 A2 A3 A4 A5 A6 A7 A8 (va (cV n a) (vs (-(l * k')) (cV n b))) = va (MM n A0 A1 A2 A3 A4 A5 A6 A7 A8 (cV n a)) (vs (-(l * k')) (MM n A0 A1 A2 A3 A4 A5 A6 A7 A8 (cV n b))) from by
      show vm _ _ _ _ _ _ _ _ _ _ = _; rw [hl.1, hl.2]; rfl]
    rw [show MM n A0 A1 A2 A3 A4 A5 A6 A7 A8 (cV n a) = _ from e3]
    simp only [va, vs, Prod.mk.injEq]; refine ⟨?_, ?_, ?_⟩ <;> grind
  have e5 := vm_inj hp hd e4
  have e6 : cV n a = vs (l * k') (cV n b) := by
    generalize cV n a = x at e5
    generalize cV n b = y at e5
    obtain ⟨x0, x1, x2⟩ := x
    obtain ⟨y0, y1, y2⟩ := y
    simp only [va, vs, Prod.mk.injEq] at e5 ⊢
    obtain ⟨r0, r1, r2⟩ := e5
    refine ⟨?_, ?_, ?_⟩ <;> grind
  exact rep_unique hn ha hb ⟨l * k', k * l', by grind, e6⟩ (Rep.self _)
theorem itr_add (f : Int × Int × Int → Int × Int × Int) (h : Int × Int × Int) (i : Nat) : ∀ j, itr f (j + i) h = itr f j (itr f i h)
  | 0 => by rw [Nat.zero_add]; rfl
  | j + 1 => by rw [Nat.add_right_comm]; show f _ = f _; rw [itr_add f h i j]
theorem itr_inj (hn : 2 ≤ n) (hp : isP n = true) (hd : DD n A0 A1 A2 A3 A4 A5 A6 A7 A8 ≠ 0) {a b : Int × Int × Int} (ha : Nm n a) (hb : Nm n b) : ∀ k, itr (stp n A0 A1 A2 A3 A4 A5 A6 A7 A8) k a = itr (stp n A0 A1 A2 A3 A4 A5 A6 A7 A8) k b → a = b
  | 0, e => e
  | k + 1, e => itr_inj hn hp hd ha hb k (stp_inj hn hp hd (itr_rep hn hp hd ha k).1 (itr_rep hn hp hd hb k).1 e)

/-- how often a map must be done till the frame is back -/
theorem order_ex (hn : 2 ≤ n) (hp : isP n = true) (hd : DD n A0 A1 A2 A3 A4 A5 A6 A7 A8 ≠ 0) :
    ∃ N, 1 ≤ N ∧ N ≤ 23298085122481 ∧ bk (stp n A0 A1 A2 A3 A4 A5 A6 A7 A8) N 4 = true ∧ ∀ k, 1 ≤ k → k < N → bk (stp n A0 A1 A2 A3 A4 A5 A6 A7 A8) k 4 = false := by
  obtain ⟨f, hf⟩ : ∃ f, f = stp n A0 A1 A2 A3 A4 A5 A6 A7 A8 := ⟨_, rfl⟩
  have nm : ∀ k j, Nm n (itr f k (Fr j)) := fun k j => by rw [hf]; exact (itr_rep hn hp hd (Fr_nm hn j) k).1
  have inj : ∀ k a b, Nm n a → Nm n b → itr f k a = itr f k b → a = b := fun k a b ha hb e => by rw [hf] at e; exact itr_inj hn hp hd ha hb k e
  rw [← hf]
  clear hf
  have bd : ∀ k j, enc (itr f k (Fr j)) < 2197 := fun k j => enc_lt hp (nm k j)
  obtain ⟨i, j, hij, hj, he⟩ := pigeon 23298085122481 (fun k => ((enc (itr f k (Fr 0)) * 2197 + enc (itr f k (Fr 1))) * 2197 + enc (itr f k (Fr 2))) * 2197 + enc (itr f k (Fr 3))) (fun k _ => by
    have h0 := bd k 0
    have h1 := bd k 1
    have h2 := bd k 2
    have h3 := bd k 3
    omega)
  have i0 := bd i 0
  have i1 := bd i 1
  have i2 := bd i 2
  have i3 := bd i 3
  have j0 := bd j 0
  have j1 := bd j 1
  have j2 := bd j 2
  have j3 := bd j 3
  have e0 : ∀ t, t < 4 → itr f i (Fr t) = itr f j (Fr t) := fun t ht => by
    refine enc_inj hp (nm i t) (nm j t) ?_
    have hh : t = 0 ∨ t = 1 ∨ t = 2 ∨ t = 3 := by omega
    rcases hh with rfl | rfl | rfl | rfl <;> omega
  have back : bk f (j - i) 4 = true := by
    refine List.all_eq_true.2 fun t ht => ?_
    have ht := List.mem_range.1 ht
    have h1 := e0 t ht
    rw [show j = i + (j - i) by omega, itr_add] at h1
    rw [beq_iff_eq]
    exact (inj i _ _ (Fr_nm hn t) (nm (j - i) t) h1).symm
  obtain ⟨m, hm, h1, h2⟩ := least (fun k => k != 0 && bk f k 4) (j - i) (by rw [back]; simp; omega)
  simp only [Bool.and_eq_true, bne_iff_ne] at h1
  refine ⟨m, by omega, by omega, h1.2, fun k hk hkm => ?_⟩
  have h3 := h2 k hkm
  simp only [Bool.and_eq_false_iff] at h3
  rcases h3 with h3 | h3
  · simp at h3; omega
  · exact h3
end
end Go.Proofs.Ytfdbkocpljiehaa
