/- Plain law: the plane's points, one by one, and those on a line. No Go in sight. -/
import Derived.Test.YtfdbkocpljiehaaMc
set_option linter.unusedSimpArgs false
set_option linter.unusedVariables false
namespace Go.Proofs.Ytfdbkocpljiehaa

theorem isP_six {P : Nat} (h : isP P = true) : P ∈ six := by
  have := isP_cases h
  have hh : P = 2 ∨ P = 3 ∨ P = 5 ∨ P = 7 ∨ P = 11 ∨ P = 13 := by omega
  rcases hh with rfl | rfl | rfl | rfl | rfl | rfl <;> decide
theorem allK_len {P : Nat} (h : isP P = true) : (allK P (P * P * P)).length = P * P + P + 1 := by
  have := List.all_eq_true.1 six_all P (isP_six h)
  simpa using this
theorem allK_mem {P k : Nat} {x : Int × Int × Int} (h : x ∈ allK P k) : nrm P x = true := by
  unfold allK at h
  exact (List.mem_filter.1 h).2
theorem nrm_iff {p : Int} {x : Int × Int × Int} (h : nrm p x = true) : zz p x.1 x.2.1 x.2.2 = false ∧ pl p x.1 x.2.1 x.2.2 = x := by
  unfold nrm at h
  simpa using h
theorem getD_mem {L : List (Int × Int × Int)} {i : Nat} (h : i < L.length) : L.getD i (0, 0, 0) ∈ L := by
  rw [List.getD_eq_getElem?_getD, List.getElem?_eq_getElem h]
  exact List.getElem_mem h
theorem allK_at {P n : Nat} (hn : (allK P (P * P * P)).length = n) (i : Nat) (hi : i < n) :
    pl P ((allK P (P * P * P)).getD i (0, 0, 0)).1 ((allK P (P * P * P)).getD i (0, 0, 0)).2.1 ((allK P (P * P * P)).getD i (0, 0, 0)).2.2 = (((allK P (P * P * P)).getD i (0, 0, 0)).1, ((allK P (P * P * P)).getD i (0, 0, 0)).2.1, ((allK P (P * P * P)).getD i (0, 0, 0)).2.2) ∧
      zz P ((allK P (P * P * P)).getD i (0, 0, 0)).1 ((allK P (P * P * P)).getD i (0, 0, 0)).2.1 ((allK P (P * P * P)).getD i (0, 0, 0)).2.2 = false := by
  obtain ⟨h1, h2⟩ := nrm_iff (allK_mem (getD_mem (L := allK P (P * P * P)) (i := i) (by omega)))
  exact ⟨h2, h1⟩

/-- a plain form is among the plane's points -/
theorem pl_mem {P : Nat} (h : isP P = true) {a b c : Int} (hz : zz P a b c = false) : pl P a b c ∈ allK P (P * P * P) := by
  obtain ⟨hN, _⟩ := pl_spec h hz
  have hp : 2 ≤ (P : Int) := by have := isP_cases h; omega
  generalize pl P a b c = u at hN
  obtain ⟨u0, u1, u2⟩ := u
  have e1 := nm_pl h hN
  have e2 := nm_nz hp hN
  obtain ⟨⟨a0, a1⟩, ⟨b0, b1⟩, ⟨c0, c1⟩, _⟩ := hN
  dsimp only at a0 a1 b0 b1 c0 c1
  obtain ⟨x, rfl⟩ := Int.eq_ofNat_of_zero_le a0
  obtain ⟨y, rfl⟩ := Int.eq_ofNat_of_zero_le b0
  obtain ⟨z, rfl⟩ := Int.eq_ofNat_of_zero_le c0
  have hx : x < P := by omega
  have hy : y < P := by omega
  have hz' : z < P := by omega
  unfold allK
  refine List.mem_filter.2 ⟨List.mem_map.2 ⟨(x * P + y) * P + z, List.mem_range.2 ?_, trip_at P x y z hx hy hz'⟩, ?_⟩
  · have h1 : x * P + y < P * P := by
      have : (x + 1) * P ≤ P * P := Nat.mul_le_mul_right P (by omega)
      rw [Nat.add_mul] at this; omega
    have h2 : (x * P + y + 1) * P ≤ P * P * P := Nat.mul_le_mul_right P (by omega)
    rw [Nat.add_mul] at h2; omega
  · unfold nrm
    dsimp only
    rw [e1, e2]
    simp

/-- how many of the first i points lie on a line -/
def cnt (P : Nat) (u0 u1 u2 : Int) (i : Nat) : Nat := onLine P ((allK P (P * P * P)).take i) (u0, u1, u2)
theorem cnt_le (P : Nat) (u0 u1 u2 : Int) (i : Nat) : cnt P u0 u1 u2 i ≤ i := by
  unfold cnt onLine
  exact Nat.le_trans (List.length_filter_le _ _) (List.length_take_le _ _)
theorem cnt_succ (P n : Nat) (u0 u1 u2 : Int) (hn : (allK P (P * P * P)).length = n) (i : Nat) (hi : i < n) :
    cnt P u0 u1 u2 (i + 1) = cnt P u0 u1 u2 i + if ((((allK P (P * P * P)).getD i (0, 0, 0)).1 * u0 + ((allK P (P * P * P)).getD i (0, 0, 0)).2.1 * u1 + ((allK P (P * P * P)).getD i (0, 0, 0)).2.2 * u2) % (P : Int) == 0) = true then 1 else 0 := by
  have hi' : i < (allK P (P * P * P)).length := by omega
  unfold cnt onLine
  rw [List.take_succ_eq_append_getElem hi', List.filter_append, List.length_append]
  have e : (allK P (P * P * P)).getD i (0, 0, 0) = (allK P (P * P * P))[i] := by rw [List.getD_eq_getElem?_getD, List.getElem?_eq_getElem hi']; rfl
  rw [e]
  congr 1
  by_cases h : (((allK P (P * P * P))[i]).1 * u0 + ((allK P (P * P * P))[i]).2.1 * u1 + ((allK P (P * P * P))[i]).2.2 * u2) % (P : Int) = 0
  · simp [List.filter_cons, h]
  · simp [List.filter_cons, h]
theorem cnt_all {P n : Nat} (h : isP P = true) (hn : (allK P (P * P * P)).length = n) {a b c u0 u1 u2 : Int} (hz : zz P a b c = false) (hu : pl P a b c = (u0, u1, u2)) : cnt P u0 u1 u2 n = P + 1 := by
  have h1 := List.all_eq_true.1 six_on P (isP_six h)
  have h2 := List.all_eq_true.1 h1 (u0, u1, u2) (by rw [← hu]; exact pl_mem h hz)
  unfold cnt
  rw [← hn, List.take_length]
  simpa using h2
end Go.Proofs.Ytfdbkocpljiehaa
