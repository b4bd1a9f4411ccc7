/- Plain definitions for Order: a map done again and again on the points of a frame; and what a block of four points holds. -/
import Derived.Test.YtfdbkocpljiehaaWf
set_option linter.unusedSimpArgs false
set_option linter.unusedVariables false
namespace Go.Proofs.Ytfdbkocpljiehaa
open Go.RowKit

/-- a map applied to a point, in plain form -/
def stp (p a0 a1 a2 a3 a4 a5 a6 a7 a8 : Int) (h : Int × Int × Int) : Int × Int × Int :=
  pl p ((a0 * h.1 + a1 * h.2.1 + a2 * h.2.2) % p) ((a3 * h.1 + a4 * h.2.1 + a5 * h.2.2) % p) ((a6 * h.1 + a7 * h.2.1 + a8 * h.2.2) % p)
def itr (f : Int × Int × Int → Int × Int × Int) : Nat → Int × Int × Int → Int × Int × Int
  | 0, h => h
  | n + 1, h => f (itr f n h)
def Fr (j : Nat) : Int × Int × Int := if j = 0 then (1, 0, 0) else if j = 1 then (0, 1, 0) else if j = 2 then (0, 0, 1) else (1, 1, 1)
/-- are the first i points of the frame back after n times? -/
def bk (f : Int × Int × Int → Int × Int × Int) (n i : Nat) : Bool := (List.range i).all fun j => itr f n (Fr j) == Fr j
def mix (f : Int × Int × Int → Int × Int × Int) (n i j : Nat) : Int × Int × Int := if j < i then itr f n (Fr j) else itr f (n - 1) (Fr j)
theorem bk_succ (f : Int × Int × Int → Int × Int × Int) (n i : Nat) : bk f n (i + 1) = (bk f n i && itr f n (Fr i) == Fr i) := by
  unfold bk
  rw [List.range_succ, List.all_append]
  simp

/-- block g holds four points, not frozen -/
def AtIs (w : World) (g : Nat) (pt : Nat → Int × Int × Int) : Prop :=
  ∀ j, j < 4 → (w.cell? ⟨g, 3 * j, none⟩ = some (.int .i64 (pt j).1) ∧ w.cell? ⟨g, 3 * j + 1, none⟩ = some (.int .i64 (pt j).2.1) ∧ w.cell? ⟨g, 3 * j + 2, none⟩ = some (.int .i64 (pt j).2.2)) ∧
    (w.frozen? ⟨g, 3 * j, none⟩ = false ∧ w.frozen? ⟨g, 3 * j + 1, none⟩ = false ∧ w.frozen? ⟨g, 3 * j + 2, none⟩ = false)

theorem AtIs.below {w w1 : World} {g B : Nat} {pt : Nat → Int × Int × Int} (h : AtIs w g pt) (hb : Below B w w1) (hg : g < B) : AtIs w1 g pt := by
  intro j hj
  obtain ⟨⟨h1, h2, h3⟩, h4, h5, h6⟩ := h j hj
  refine ⟨⟨?_, ?_, ?_⟩, ?_, ?_, ?_⟩
  · rw [hb.cell hg]; exact h1
  · rw [hb.cell hg]; exact h2
  · rw [hb.cell hg]; exact h3
  · rw [hb.frozen hg]; exact h4
  · rw [hb.frozen hg]; exact h5
  · rw [hb.frozen hg]; exact h6

theorem AtIs.congr {w : World} {g : Nat} {pt pt' : Nat → Int × Int × Int} (h : AtIs w g pt) (e : ∀ j, j < 4 → pt j = pt' j) : AtIs w g pt' := by
  intro j hj
  rw [← e j hj]
  exact h j hj

theorem AtIs.set {w : World} {g : Nat} {pt : Nat → Int × Int × Int} (h : AtIs w g pt) (i : Nat) (hi : i < 4) (a b c : Int) :
    AtIs (((w.setCell ⟨g, 3 * i, none⟩ (.int .i64 a)).setCell ⟨g, 3 * i + 1, none⟩ (.int .i64 b)).setCell ⟨g, 3 * i + 2, none⟩ (.int .i64 c)) g (fun j => if j = i then (a, b, c) else pt j) := by
  intro j hj
  obtain ⟨⟨h1, h2, h3⟩, h4, h5, h6⟩ := h j hj
  by_cases e : j = i
  · subst e
    refine ⟨⟨?_, ?_, ?_⟩, ?_, ?_, ?_⟩ <;> simp [go_sem, h1, h2, h3, h4, h5, h6]
  · refine ⟨⟨?_, ?_, ?_⟩, ?_, ?_, ?_⟩
    · dsimp only; rw [if_neg e, World.cell?_setCell_other _ _ _ _ (by simp <;> omega), World.cell?_setCell_other _ _ _ _ (by simp <;> omega), World.cell?_setCell_other _ _ _ _ (by simp <;> omega)]; exact h1
    · dsimp only; rw [if_neg e, World.cell?_setCell_other _ _ _ _ (by simp <;> omega), World.cell?_setCell_other _ _ _ _ (by simp <;> omega), World.cell?_setCell_other _ _ _ _ (by simp <;> omega)]; exact h2
    · dsimp only; rw [if_neg e, World.cell?_setCell_other _ _ _ _ (by simp <;> omega), World.cell?_setCell_other _ _ _ _ (by simp <;> omega), World.cell?_setCell_other _ _ _ _ (by simp <;> omega)]; exact h3
    all_goals simp [go_sem, h4, h5, h6]

theorem Fr_bd (j : Nat) : (0 ≤ (Fr j).1 ∧ (Fr j).1 ≤ 12) ∧ (0 ≤ (Fr j).2.1 ∧ (Fr j).2.1 ≤ 12) ∧ (0 ≤ (Fr j).2.2 ∧ (Fr j).2.2 ≤ 12) := by
  unfold Fr
  split
  · decide
  · split
    · decide
    · split <;> decide
theorem itr_bd (p a0 a1 a2 a3 a4 a5 a6 a7 a8 : Int) (h : 2 ≤ p) (h' : p ≤ 13) (n j : Nat) :
    (0 ≤ (itr (stp p a0 a1 a2 a3 a4 a5 a6 a7 a8) n (Fr j)).1 ∧ (itr (stp p a0 a1 a2 a3 a4 a5 a6 a7 a8) n (Fr j)).1 ≤ 12) ∧
    (0 ≤ (itr (stp p a0 a1 a2 a3 a4 a5 a6 a7 a8) n (Fr j)).2.1 ∧ (itr (stp p a0 a1 a2 a3 a4 a5 a6 a7 a8) n (Fr j)).2.1 ≤ 12) ∧
    (0 ≤ (itr (stp p a0 a1 a2 a3 a4 a5 a6 a7 a8) n (Fr j)).2.2 ∧ (itr (stp p a0 a1 a2 a3 a4 a5 a6 a7 a8) n (Fr j)).2.2 ≤ 12) := by
  cases n with
  | zero => exact Fr_bd j
  | succ n => exact pl_bd p _ _ _ h h'
theorem mix_done {f : Int × Int × Int → Int × Int × Int} {n : Nat} : ∀ j, j < 4 → mix f n 4 j = mix f (n + 1) 0 j := by
  intro j hj
  unfold mix
  rw [if_pos hj, if_neg (by omega)]; rfl
end Go.Proofs.Ytfdbkocpljiehaa
