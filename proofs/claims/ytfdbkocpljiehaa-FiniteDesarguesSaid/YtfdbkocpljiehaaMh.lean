/- Plain law: a map on the plane's points, and how often till all are back. No Go in sight. -/
import Derived.Test.YtfdbkocpljiehaaMg
import Derived.Test.YtfdbkocpljiehaaMd
import Derived.Test.YtfdbkocpljiehaaZa
set_option linter.unusedSimpArgs false
set_option linter.unusedVariables false
namespace Go.Proofs.Ytfdbkocpljiehaa

/-- what 'mapF' makes of a point is the map's step -/
theorem mapF_stp {p : Int} (hp : isP p = true) (a0 a1 a2 a3 a4 a5 a6 a7 a8 x y z : Int) :
    pl p ((a0 % p * (x % p) + a1 % p * (y % p) + a2 % p * (z % p)) % p) ((a3 % p * (x % p) + a4 % p * (y % p) + a5 % p * (z % p)) % p) ((a6 % p * (x % p) + a7 % p * (y % p) + a8 % p * (z % p)) % p) = stp p (a0 % p) (a1 % p) (a2 % p) (a3 % p) (a4 % p) (a5 % p) (a6 % p) (a7 % p) (a8 % p) (x, y, z) := by
  obtain ⟨n, rfl, hn, hn0⟩ := toF hp
  haveI : NeZero n := ⟨hn0⟩
  have e : ∀ a b c : Int, (a * (x % n) + b * (y % n) + c * (z % n)) % (n : Int) = (a * x + b * y + c * z) % n := fun a b c => cF_eq.1 (by simp only [cF_add, cF_mul, cF_mod])
  unfold stp
  rw [e, e, e]

theorem det_same {p : Int} (hp : isP p = true) (a0 a1 a2 a3 a4 a5 a6 a7 a8 : Int) :
    ((a0 % p * (a4 % p * (a8 % p) - a5 % p * (a7 % p)) - a1 % p * (a3 % p * (a8 % p) - a5 % p * (a6 % p)) + a2 % p * (a3 % p * (a7 % p) - a4 % p * (a6 % p))) % p) =
      (a0 % p * ((a4 % p * (a8 % p) - a5 % p * (a7 % p)) % p) + a1 % p * ((a5 % p * (a6 % p) - a3 % p * (a8 % p)) % p) + a2 % p * ((a3 % p * (a7 % p) - a4 % p * (a6 % p)) % p)) % p := by
  obtain ⟨n, rfl, hn, hn0⟩ := toF hp
  haveI : NeZero n := ⟨hn0⟩
  refine cF_eq.1 ?_
  simp only [cF_add, cF_sub, cF_mul, cF_mod]
  grind

theorem dd_of {n : Nat} [NeZero n] {A0 A1 A2 A3 A4 A5 A6 A7 A8 : Int} (hd : ((A0 * ((A4 * A8 - A5 * A7) % n) + A1 * ((A5 * A6 - A3 * A8) % n) + A2 * ((A3 * A7 - A4 * A6) % n)) % (n : Int) != 0) = true) : DD n A0 A1 A2 A3 A4 A5 A6 A7 A8 ≠ 0 := by
  intro e
  have h1 : cF n (A0 * ((A4 * A8 - A5 * A7) % n) + A1 * ((A5 * A6 - A3 * A8) % n) + A2 * ((A3 * A7 - A4 * A6) % n)) = 0 := by
    simp only [cF_add, cF_sub, cF_mul, cF_mod]
    exact e
  rw [cF_iff0] at h1
  rw [h1] at hd
  cases hd

/-- a step from a plain form is the step from what it is the plain form of -/
theorem stp_pl {p : Int} (hp : isP p = true) (A0 A1 A2 A3 A4 A5 A6 A7 A8 : Int) {h : Int × Int × Int} (hz : zz p h.1 h.2.1 h.2.2 = false) :
    stp p A0 A1 A2 A3 A4 A5 A6 A7 A8 (pl p h.1 h.2.1 h.2.2) = stp p A0 A1 A2 A3 A4 A5 A6 A7 A8 h := by
  obtain ⟨n, rfl, hn, hn0⟩ := toF hp
  haveI : NeZero n := ⟨hn0⟩
  obtain ⟨k, l, hk, e⟩ := plain_cV hn hp hz
  have e1 := MM_cV (n := n) (A0 := A0) (A1 := A1) (A2 := A2) (A3 := A3) (A4 := A4) (A5 := A5) (A6 := A6) (A7 := A7) (A8 := A8) (pl n h.1 h.2.1 h.2.2)
  have e2 := MM_cV (n := n) (A0 := A0) (A1 := A1) (A2 := A2) (A3 := A3) (A4 := A4) (A5 := A5) (A6 := A6) (A7 := A7) (A8 := A8) h
  have hl := vm_lin (cF n A0) (cF n A1) (cF n A2) (cF n A3) (cF n A4) (cF n A5) (cF n A6) (cF n A7) (cF n A8)
  rw [e, show MM n A0 A1 A2 A3 A4 A5 A6 A7 A8 (vs k (cV n h)) = vs k (MM n A0 A1 A2 A3 A4 A5 A6 A7 A8 (cV n h)) from hl.2 k _, ← e2] at e1
  exact (pl_scale hn hp (a := (_, _, _)) (b := (_, _, _)) ⟨k, l, hk, e1⟩).1

section
variable {P : Nat}
theorem allK_nm (hp : isP P = true) {i : Nat} (hi : i < (allK P (P * P * P)).length) : Nm P ((allK P (P * P * P)).getD i (0, 0, 0)) := by
  obtain ⟨h1, h2⟩ := allK_at rfl i hi
  have h3 := (pl_spec hp h2).1
  rw [h1] at h3
  exact h3
theorem nm_at (hp : isP P = true) {h : Int × Int × Int} (hh : Nm P h) : ∃ i, i < (allK P (P * P * P)).length ∧ (allK P (P * P * P)).getD i (0, 0, 0) = h := by
  have hP : 2 ≤ (P : Int) := by have := isP_cases hp; omega
  have h1 := pl_mem hp (nm_nz hP hh)
  rw [nm_pl hp hh] at h1
  obtain ⟨i, hi, e⟩ := List.mem_iff_getElem.1 h1
  exact ⟨i, hi, by rw [List.getD_eq_getElem?_getD, List.getElem?_eq_getElem hi]; exact e⟩
theorem all_back [NeZero P] (hp : isP P = true) {A0 A1 A2 A3 A4 A5 A6 A7 A8 : Int} (hd : DD P A0 A1 A2 A3 A4 A5 A6 A7 A8 ≠ 0) {k : Nat} (hb : bk (stp P A0 A1 A2 A3 A4 A5 A6 A7 A8) k 4 = true) :
    ∀ i, i < (allK P (P * P * P)).length → itr (stp P A0 A1 A2 A3 A4 A5 A6 A7 A8) k ((allK P (P * P * P)).getD i (0, 0, 0)) = (allK P (P * P * P)).getD i (0, 0, 0) := fun i hi =>
  frame_all (by have := isP_cases hp; omega) hp hd hb (allK_nm hp hi)
theorem not_back (hp : isP P = true) {f : Int × Int × Int → Int × Int × Int} {k : Nat} (hb : bk f k 4 = false) :
    ∃ i, i < (allK P (P * P * P)).length ∧ eqT (itr f k ((allK P (P * P * P)).getD i (0, 0, 0))) ((allK P (P * P * P)).getD i (0, 0, 0)) = false := by
  obtain ⟨j, _, hj⟩ : ∃ j, j < 4 ∧ (itr f k (Fr j) == Fr j) = false := by
    by_cases hx : ∃ j, j < 4 ∧ (itr f k (Fr j) == Fr j) = false
    · exact hx
    · have : bk f k 4 = true := List.all_eq_true.2 fun j hj => by
        cases hc : (itr f k (Fr j) == Fr j)
        · exact absurd ⟨j, List.mem_range.1 hj, hc⟩ hx
        · rfl
      rw [hb] at this; cases this
  obtain ⟨i, hi, e⟩ := nm_at hp (Fr_nm (n := P) (by have := isP_cases hp; omega) j)
  refine ⟨i, hi, ?_⟩
  rw [e]
  cases hc : eqT (itr f k (Fr j)) (Fr j)
  · rfl
  · rw [eqT_iff] at hc; rw [hc] at hj; simp at hj
end
end Go.Proofs.Ytfdbkocpljiehaa
