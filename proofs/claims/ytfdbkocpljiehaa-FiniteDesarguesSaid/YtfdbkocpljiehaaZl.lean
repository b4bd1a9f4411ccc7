/- Walks: the law FiniteDesargues: blocks of numbers; where p is no prime. -/
import Derived.Test.YtfdbkocpljiehaaZi
import Derived.Test.YtfdbkocpljiehaaMj
set_option linter.unusedSimpArgs false
set_option linter.unusedVariables false
namespace Go.Proofs.Ytfdbkocpljiehaa
open Go.RowKit

def lf (l : List Int) (j : Nat) : Int := l.getD j 0
/-- block g holds m numbers that may be written -/
def NumsAt (w : World) (g m : Nat) (f : Nat → Int) : Prop := ∀ j, j < m → w.cell? ⟨g, j, none⟩ = some (.int .i64 (f j)) ∧ w.frozen? ⟨g, j, none⟩ = false
theorem NumsAt.below {w w1 : World} {g m B : Nat} {f : Nat → Int} (h : NumsAt w g m f) (hb : Below B w w1) (hg : g < B) : NumsAt w1 g m f := by
  intro j hj
  obtain ⟨h1, h2⟩ := h j hj
  exact ⟨by rw [hb.cell hg]; exact h1, by rw [hb.frozen hg]; exact h2⟩
theorem NumsAt.set {w : World} {g m : Nat} {f : Nat → Int} (h : NumsAt w g m f) (i : Nat) (hi : i < m) (a : Int) : NumsAt (w.setCell ⟨g, i, none⟩ (.int .i64 a)) g m (fun j => if j = i then a else f j) := by
  intro j hj
  obtain ⟨h1, h2⟩ := h j hj
  by_cases e : j = i
  · subst e; refine ⟨?_, ?_⟩ <;> simp [go_sem, h1, h2]
  · refine ⟨?_, ?_⟩
    · dsimp only; rw [if_neg e, World.cell?_setCell_other _ _ _ _ (by simp <;> omega)]; exact h1
    · simp [go_sem, h2]
theorem NumsAt.congr {w : World} {g m : Nat} {f f' : Nat → Int} (h : NumsAt w g m f) (e : ∀ j, j < m → f j = f' j) : NumsAt w g m f' := by
  intro j hj; rw [← e j hj]; exact h j hj

theorem mod13b (x p : Int) (h : 2 ≤ p) (h' : p ≤ 13) (w : World) : Calls Try.prog 13 #[.int .i64 x, .int .i64 p] w fun e w' => e = .returned (.int .i64 (x % p)) ∧ Below w.heap.size w w' :=
  (mod13 x p h h' w).mono fun e w' hh => ⟨hh.1, by rw [hh.2]; exact Below.refl _ _⟩
theorem mod13c (x p : Int) (h : 1 ≤ p) (w : World) : Calls Try.prog 13 #[.int .i64 x, .int .i64 p] w fun e w' => e = .returned (.int .i64 (modw x p)) ∧ Below w.heap.size w w' :=
  (mod13_any x p h w).mono fun e w' hh => ⟨hh.1, by rw [hh.2]; exact Below.refl _ _⟩

set_option maxRecDepth 100000 in
set_option maxHeartbeats 16000000 in
theorem FiniteDesargues4_bad (p o0 o1 o2 t0 t1 t2 t3 t4 t5 t6 t7 t8 k0 k1 k2 a0 a1 a2 a3 a4 a5 a6 a7 a8 : Int) (hp : isP p = false) (w : World) :
    Calls Try.prog 4 #[.int .i64 p, .agg #[.int .i64 o0, .int .i64 o1, .int .i64 o2], .agg #[.int .i64 t0, .int .i64 t1, .int .i64 t2, .int .i64 t3, .int .i64 t4, .int .i64 t5, .int .i64 t6, .int .i64 t7, .int .i64 t8], .agg #[.int .i64 k0, .int .i64 k1, .int .i64 k2], .agg #[.int .i64 a0, .int .i64 a1, .int .i64 a2, .int .i64 a3, .int .i64 a4, .int .i64 a5, .int .i64 a6, .int .i64 a7, .int .i64 a8]] w fun e w' => e = .returned (.bool true) ∧ Below w.heap.size w w' := by
  have HP := Lib.hid hp
  clear hp
  go_enter Try.func4, Try.ntmps4
  go_upto_region 2 with fail
  have hBT : Below w.heap.size w (((((w.alloc (Obj.cells #[.int .i64 o0, .int .i64 o1, .int .i64 o2] 27)).alloc (Obj.cells #[.int .i64 t0, .int .i64 t1, .int .i64 t2, .int .i64 t3, .int .i64 t4, .int .i64 t5, .int .i64 t6, .int .i64 t7, .int .i64 t8] 28)).alloc (Obj.cells #[.int .i64 k0, .int .i64 k1, .int .i64 k2] 27)).alloc (Obj.cells #[.int .i64 a0, .int .i64 a1, .int .i64 a2, .int .i64 a3, .int .i64 a4, .int .i64 a5, .int .i64 a6, .int .i64 a7, .int .i64 a8] 29)).alloc (Obj.cells #[.int .i64 0, .int .i64 0, .int .i64 0, .int .i64 0, .int .i64 0, .int .i64 0, .int .i64 0, .int .i64 0, .int .i64 0] 28)) := ba_c (ba_c (ba_c (ba_c (ba_c (Below.refl _ _) (Nat.le_refl _) _) (Nat.le_refl _) _) (Nat.le_refl _) _) (Nat.le_refl _) _) (Nat.le_refl _) _
  have hNo : NumsAt (((((w.alloc (Obj.cells #[.int .i64 o0, .int .i64 o1, .int .i64 o2] 27)).alloc (Obj.cells #[.int .i64 t0, .int .i64 t1, .int .i64 t2, .int .i64 t3, .int .i64 t4, .int .i64 t5, .int .i64 t6, .int .i64 t7, .int .i64 t8] 28)).alloc (Obj.cells #[.int .i64 k0, .int .i64 k1, .int .i64 k2] 27)).alloc (Obj.cells #[.int .i64 a0, .int .i64 a1, .int .i64 a2, .int .i64 a3, .int .i64 a4, .int .i64 a5, .int .i64 a6, .int .i64 a7, .int .i64 a8] 29)).alloc (Obj.cells #[.int .i64 0, .int .i64 0, .int .i64 0, .int .i64 0, .int .i64 0, .int .i64 0, .int .i64 0, .int .i64 0, .int .i64 0] 28)) (w.heap.size) 3 (lf [o0, o1, o2]) := by
    intro j hj
    have hh : j = 0 ∨ j = 1 ∨ j = 2 := by omega
    rcases hh with rfl | rfl | rfl <;> simp [go_sem, lf]
  have hNt : NumsAt (((((w.alloc (Obj.cells #[.int .i64 o0, .int .i64 o1, .int .i64 o2] 27)).alloc (Obj.cells #[.int .i64 t0, .int .i64 t1, .int .i64 t2, .int .i64 t3, .int .i64 t4, .int .i64 t5, .int .i64 t6, .int .i64 t7, .int .i64 t8] 28)).alloc (Obj.cells #[.int .i64 k0, .int .i64 k1, .int .i64 k2] 27)).alloc (Obj.cells #[.int .i64 a0, .int .i64 a1, .int .i64 a2, .int .i64 a3, .int .i64 a4, .int .i64 a5, .int .i64 a6, .int .i64 a7, .int .i64 a8] 29)).alloc (Obj.cells #[.int .i64 0, .int .i64 0, .int .i64 0, .int .i64 0, .int .i64 0, .int .i64 0, .int .i64 0, .int .i64 0, .int .i64 0] 28)) (w.heap.size + 1) 9 (lf [t0, t1, t2, t3, t4, t5, t6, t7, t8]) := by
    intro j hj
    have hh : j = 0 ∨ j = 1 ∨ j = 2 ∨ j = 3 ∨ j = 4 ∨ j = 5 ∨ j = 6 ∨ j = 7 ∨ j = 8 := by omega
    rcases hh with rfl | rfl | rfl | rfl | rfl | rfl | rfl | rfl | rfl <;> simp [go_sem, lf]
  have hNk : NumsAt (((((w.alloc (Obj.cells #[.int .i64 o0, .int .i64 o1, .int .i64 o2] 27)).alloc (Obj.cells #[.int .i64 t0, .int .i64 t1, .int .i64 t2, .int .i64 t3, .int .i64 t4, .int .i64 t5, .int .i64 t6, .int .i64 t7, .int .i64 t8] 28)).alloc (Obj.cells #[.int .i64 k0, .int .i64 k1, .int .i64 k2] 27)).alloc (Obj.cells #[.int .i64 a0, .int .i64 a1, .int .i64 a2, .int .i64 a3, .int .i64 a4, .int .i64 a5, .int .i64 a6, .int .i64 a7, .int .i64 a8] 29)).alloc (Obj.cells #[.int .i64 0, .int .i64 0, .int .i64 0, .int .i64 0, .int .i64 0, .int .i64 0, .int .i64 0, .int .i64 0, .int .i64 0] 28)) (w.heap.size + 1 + 1) 3 (lf [k0, k1, k2]) := by
    intro j hj
    have hh : j = 0 ∨ j = 1 ∨ j = 2 := by omega
    rcases hh with rfl | rfl | rfl <;> simp [go_sem, lf]
  have hNw : NumsAt (((((w.alloc (Obj.cells #[.int .i64 o0, .int .i64 o1, .int .i64 o2] 27)).alloc (Obj.cells #[.int .i64 t0, .int .i64 t1, .int .i64 t2, .int .i64 t3, .int .i64 t4, .int .i64 t5, .int .i64 t6, .int .i64 t7, .int .i64 t8] 28)).alloc (Obj.cells #[.int .i64 k0, .int .i64 k1, .int .i64 k2] 27)).alloc (Obj.cells #[.int .i64 a0, .int .i64 a1, .int .i64 a2, .int .i64 a3, .int .i64 a4, .int .i64 a5, .int .i64 a6, .int .i64 a7, .int .i64 a8] 29)).alloc (Obj.cells #[.int .i64 0, .int .i64 0, .int .i64 0, .int .i64 0, .int .i64 0, .int .i64 0, .int .i64 0, .int .i64 0, .int .i64 0] 28)) (w.heap.size + 1 + 1 + 1) 9 (lf [a0, a1, a2, a3, a4, a5, a6, a7, a8]) := by
    intro j hj
    have hh : j = 0 ∨ j = 1 ∨ j = 2 ∨ j = 3 ∨ j = 4 ∨ j = 5 ∨ j = 6 ∨ j = 7 ∨ j = 8 := by omega
    rcases hh with rfl | rfl | rfl | rfl | rfl | rfl | rfl | rfl | rfl <;> simp [go_sem, lf]
  have hNu : NumsAt (((((w.alloc (Obj.cells #[.int .i64 o0, .int .i64 o1, .int .i64 o2] 27)).alloc (Obj.cells #[.int .i64 t0, .int .i64 t1, .int .i64 t2, .int .i64 t3, .int .i64 t4, .int .i64 t5, .int .i64 t6, .int .i64 t7, .int .i64 t8] 28)).alloc (Obj.cells #[.int .i64 k0, .int .i64 k1, .int .i64 k2] 27)).alloc (Obj.cells #[.int .i64 a0, .int .i64 a1, .int .i64 a2, .int .i64 a3, .int .i64 a4, .int .i64 a5, .int .i64 a6, .int .i64 a7, .int .i64 a8] 29)).alloc (Obj.cells #[.int .i64 0, .int .i64 0, .int .i64 0, .int .i64 0, .int .i64 0, .int .i64 0, .int .i64 0, .int .i64 0, .int .i64 0] 28)) (w.heap.size + 1 + 1 + 1 + 1) 9 (fun _ => 0) := by
    intro j hj
    have hh : j = 0 ∨ j = 1 ∨ j = 2 ∨ j = 3 ∨ j = 4 ∨ j = 5 ∨ j = 6 ∨ j = 7 ∨ j = 8 := by omega
    rcases hh with rfl | rfl | rfl | rfl | rfl | rfl | rfl | rfl | rfl <;> simp [go_sem]
  have hsT : w.heap.size + 1 + 1 + 1 + 1 < (((((w.alloc (Obj.cells #[.int .i64 o0, .int .i64 o1, .int .i64 o2] 27)).alloc (Obj.cells #[.int .i64 t0, .int .i64 t1, .int .i64 t2, .int .i64 t3, .int .i64 t4, .int .i64 t5, .int .i64 t6, .int .i64 t7, .int .i64 t8] 28)).alloc (Obj.cells #[.int .i64 k0, .int .i64 k1, .int .i64 k2] 27)).alloc (Obj.cells #[.int .i64 a0, .int .i64 a1, .int .i64 a2, .int .i64 a3, .int .i64 a4, .int .i64 a5, .int .i64 a6, .int .i64 a7, .int .i64 a8] 29)).alloc (Obj.cells #[.int .i64 0, .int .i64 0, .int .i64 0, .int .i64 0, .int .i64 0, .int .i64 0, .int .i64 0, .int .i64 0, .int .i64 0] 28)).heap.size := by simp
  generalize (((((w.alloc (Obj.cells #[.int .i64 o0, .int .i64 o1, .int .i64 o2] 27)).alloc (Obj.cells #[.int .i64 t0, .int .i64 t1, .int .i64 t2, .int .i64 t3, .int .i64 t4, .int .i64 t5, .int .i64 t6, .int .i64 t7, .int .i64 t8] 28)).alloc (Obj.cells #[.int .i64 k0, .int .i64 k1, .int .i64 k2] 27)).alloc (Obj.cells #[.int .i64 a0, .int .i64 a1, .int .i64 a2, .int .i64 a3, .int .i64 a4, .int .i64 a5, .int .i64 a6, .int .i64 a7, .int .i64 a8] 29)).alloc (Obj.cells #[.int .i64 0, .int .i64 0, .int .i64 0, .int .i64 0, .int .i64 0, .int .i64 0, .int .i64 0, .int .i64 0, .int .i64 0] 28)) = W0 at *
  have HBT := Lib.hid hBT
  have HNO := Lib.hid hNo
  have HNT := Lib.hid hNt
  have HNK := Lib.hid hNk
  have HNW := Lib.hid hNw
  have HNU := Lib.hid hNu
  clear hBT hNo hNt hNk hNw hNu
  go_wp2_with fail
  go_loopw [29] (fun i wr => ∃ i1 : Nat, i1 ≤ 3 ∧ i = .int .i64 i1 ∧ (∃ fu, NumsAt wr (w.heap.size + 1 + 1 + 1 + 1) 9 fu) ∧ Below (w.heap.size + 1 + 1 + 1 + 1) W0 wr ∧ w.heap.size + 1 + 1 + 1 + 1 < wr.heap.size) (fun i _ => 3 - (intOf i).toNat)
  case atStart => exact ⟨0, by omega, rfl, ⟨_, HNU.out⟩, Below.refl _ _, hsT⟩
  case round =>
    obtain ⟨i1, hi1, rfl, hnu, hbl, hgs⟩ := hrel
    obtain ⟨wi, rfl⟩ : ∃ wo : World, wo = wr := ⟨_, rfl⟩
    have HNI := Lib.hid hnu
    have HBI := Lib.hid hbl
    clear hnu hbl
    by_cases hlti : i1 < 3
    · have l2 : (i1 : Int) < 3 := by omega
      go_wp2_with fail
      go_loopw [32] (fun i wr => ∃ j1 : Nat, j1 ≤ 3 ∧ i = .int .i64 j1 ∧ (∃ fu, NumsAt wr (w.heap.size + 1 + 1 + 1 + 1) 9 fu) ∧ Below (w.heap.size + 1 + 1 + 1 + 1) W0 wr ∧ w.heap.size + 1 + 1 + 1 + 1 < wr.heap.size) (fun i _ => 3 - (intOf i).toNat)
      case atStart => exact ⟨0, by omega, rfl, HNI.out, HBI.out, hgs⟩
      case round =>
        obtain ⟨j1, hj1, rfl, hnu, hbl, hgs2⟩ := hrel
        obtain ⟨wj, rfl⟩ : ∃ wo : World, wo = wr := ⟨_, rfl⟩
        by_cases hltj : j1 < 3
        · have HNJ0 := Lib.hid hnu
          obtain ⟨fu, hfu⟩ := hnu
          have HNJ := Lib.hid hfu
          clear hfu
          have HBJ := Lib.hid hbl
          obtain ⟨x0, hx0⟩ : ∃ x0, lf [o0, o1, o2] j1 = x0 := ⟨_, rfl⟩
          obtain ⟨y0, hy0⟩ : ∃ x0, lf [k0, k1, k2] i1 = x0 := ⟨_, rfl⟩
          obtain ⟨z0, hz0⟩ : ∃ x0, lf [t0, t1, t2, t3, t4, t5, t6, t7, t8] (3 * i1 + j1) = x0 := ⟨_, rfl⟩
          have co : wj.cell? ⟨w.heap.size, j1, none⟩ = some (.int .i64 x0) := by rw [hbl.cell (p := ⟨w.heap.size, j1, none⟩) (by simp <;> omega), ← hx0]; exact (HNO.out j1 hltj).1
          have ck : wj.cell? ⟨w.heap.size + 1 + 1, i1, none⟩ = some (.int .i64 y0) := by rw [hbl.cell (p := ⟨w.heap.size + 1 + 1, i1, none⟩) (by simp <;> omega), ← hy0]; exact (HNK.out i1 hlti).1
          have ct : wj.cell? ⟨w.heap.size + 1, 3 * i1 + j1, none⟩ = some (.int .i64 z0) := by rw [hbl.cell (p := ⟨w.heap.size + 1, 3 * i1 + j1, none⟩) (by simp <;> omega), ← hz0]; exact (HNT.out (3 * i1 + j1) (by omega)).1
          have HX0 := Lib.hid hx0
          have HY0 := Lib.hid hy0
          have HZ0 := Lib.hid hz0
          clear hbl hx0 hy0 hz0
          have l1 : (0 : Int) ≤ (i1 : Int) := by omega
          have r1 : (0 : Int) ≤ (j1 : Int) := by omega
          have r2 : (j1 : Int) < 3 := by omega
          have el : i1 * 3 = 3 * i1 := by omega
          go_upto_region 8 with fail
          refine wp_region_T (Below (wj.heap.size) (wj)) 26 (by kernel_rfl) ?_ ?_
          · exact Below.drew (Below.refl _ _)
          intro HS
          refine wpT_takeP 0 (v := ?_) rfl (by kernel_rfl) (fun _ _ _ h => h) (by rfl) ?_ ?_ ?_
          rotate_left
          · (intro W; go_simp; first | done | with_reducible rfl)
          · (first | (intro _; with_reducible assumption) | (intro h0; cases h0))
          try simp only [Act.put, List.getElem_toArray, List.getElem_cons_zero, List.getElem_cons_succ, List.setIfInBounds_toArray, List.set_cons_zero, List.set_cons_succ]
          refine wpT_takeP 1 (v := ?_) rfl (by kernel_rfl) (fun _ _ _ h => h) (by rfl) ?_ ?_ ?_
          rotate_left
          · (intro W; go_simp; first | done | with_reducible rfl)
          · (first | (intro _; with_reducible assumption) | (intro h0; cases h0))
          try simp only [Act.put, List.getElem_toArray, List.getElem_cons_zero, List.getElem_cons_succ, List.setIfInBounds_toArray, List.set_cons_zero, List.set_cons_succ]
          refine wpT_takeP 2 (v := ?_) rfl (by kernel_rfl) (fun _ _ _ h => h) (by rfl) ?_ ?_ ?_
          rotate_left
          · (intro W; go_simp; first | done | with_reducible rfl)
          · (first | (intro _; with_reducible assumption) | (intro h0; cases h0))
          try simp only [Act.put, List.getElem_toArray, List.getElem_cons_zero, List.getElem_cons_succ, List.setIfInBounds_toArray, List.set_cons_zero, List.set_cons_succ]
          refine wpT_takeP 3 (v := ?_) rfl (by kernel_rfl) (fun _ _ _ h => h) (by rfl) ?_ ?_ ?_
          rotate_left
          · (intro W; go_simp; first | done | with_reducible rfl)
          · (first | (intro _; with_reducible assumption) | (intro h0; cases h0))
          try simp only [Act.put, List.getElem_toArray, List.getElem_cons_zero, List.getElem_cons_succ, List.setIfInBounds_toArray, List.set_cons_zero, List.set_cons_succ]
          refine wpT_takeP 5 (v := ?_) rfl (by kernel_rfl) (fun _ _ _ h => h) (by rfl) ?_ ?_ ?_
          rotate_left
          · (intro W; go_simp; first | done | with_reducible rfl)
          · (first | (intro _; with_reducible assumption) | (intro h0; cases h0))
          try simp only [Act.put, List.getElem_toArray, List.getElem_cons_zero, List.getElem_cons_succ, List.setIfInBounds_toArray, List.set_cons_zero, List.set_cons_succ]
          refine wpT_takeP 6 (v := ?_) rfl (by kernel_rfl) (fun _ _ _ h => h) (by rfl) ?_ ?_ ?_
          rotate_left
          · (intro W; go_simp; first | done | with_reducible rfl)
          · (first | (intro _; with_reducible assumption) | (intro h0; cases h0))
          try simp only [Act.put, List.getElem_toArray, List.getElem_cons_zero, List.getElem_cons_succ, List.setIfInBounds_toArray, List.set_cons_zero, List.set_cons_succ]
          refine wpT_takeP 8 (v := ?_) rfl (by kernel_rfl) (fun _ _ _ h => h) (by rfl) ?_ ?_ ?_
          rotate_left
          · (intro W; go_simp; first | done | with_reducible rfl)
          · (first | (intro _; with_reducible assumption) | (intro h0; cases h0))
          try simp only [Act.put, List.getElem_toArray, List.getElem_cons_zero, List.getElem_cons_succ, List.setIfInBounds_toArray, List.set_cons_zero, List.set_cons_succ]
          refine wpT_takeP 9 (v := ?_) rfl (by kernel_rfl) (fun _ _ _ h => h) (by rfl) ?_ ?_ ?_
          rotate_left
          · (intro W; go_simp; first | done | with_reducible rfl)
          · (first | (intro _; with_reducible assumption) | (intro h0; cases h0))
          try simp only [Act.put, List.getElem_toArray, List.getElem_cons_zero, List.getElem_cons_succ, List.setIfInBounds_toArray, List.set_cons_zero, List.set_cons_succ]
          refine wpT_takeP 11 (v := ?_) rfl (by kernel_rfl) (fun _ _ _ h => h) (by rfl) ?_ ?_ ?_
          rotate_left
          · (intro W; go_simp; first | done | with_reducible rfl)
          · (first | (intro _; with_reducible assumption) | (intro h0; cases h0))
          try simp only [Act.put, List.getElem_toArray, List.getElem_cons_zero, List.getElem_cons_succ, List.setIfInBounds_toArray, List.set_cons_zero, List.set_cons_succ]
          refine wpT_takeP 12 (v := ?_) rfl (by kernel_rfl) (fun _ _ _ h => h) (by rfl) ?_ ?_ ?_
          rotate_left
          · (intro W; go_simp; first | done | with_reducible rfl)
          · (first | (intro _; with_reducible assumption) | (intro h0; cases h0))
          try simp only [Act.put, List.getElem_toArray, List.getElem_cons_zero, List.getElem_cons_succ, List.setIfInBounds_toArray, List.set_cons_zero, List.set_cons_succ]
          refine wpT_takeP 14 (v := ?_) rfl (by kernel_rfl) (fun _ _ _ h => h) (by rfl) ?_ ?_ ?_
          rotate_left
          · (intro W; go_simp; first | done | with_reducible rfl)
          · (first | (intro _; with_reducible assumption) | (intro h0; cases h0))
          try simp only [Act.put, List.getElem_toArray, List.getElem_cons_zero, List.getElem_cons_succ, List.setIfInBounds_toArray, List.set_cons_zero, List.set_cons_succ]
          refine wpT_takeP 15 (v := ?_) rfl (by kernel_rfl) (fun _ _ _ h => h) (by rfl) ?_ ?_ ?_
          rotate_left
          · (intro W; go_simp; first | done | with_reducible rfl)
          · (first | (intro _; with_reducible assumption) | (intro h0; cases h0))
          try simp only [Act.put, List.getElem_toArray, List.getElem_cons_zero, List.getElem_cons_succ, List.setIfInBounds_toArray, List.set_cons_zero, List.set_cons_succ]
          refine wpT_takeP 16 (v := ?_) rfl (by kernel_rfl) (fun _ _ _ h => h) (by rfl) ?_ ?_ ?_
          rotate_left
          · (intro W; go_simp; first | done | with_reducible rfl)
          · (first | (intro _; with_reducible assumption) | (intro h0; cases h0))
          try simp only [Act.put, List.getElem_toArray, List.getElem_cons_zero, List.getElem_cons_succ, List.setIfInBounds_toArray, List.set_cons_zero, List.set_cons_succ]
          refine wpT_takeP 17 (v := ?_) rfl (by kernel_rfl) (fun _ _ _ h => h) (by rfl) ?_ ?_ ?_
          rotate_left
          · (intro W; go_simp; first | done | with_reducible rfl)
          · (first | (intro _; with_reducible assumption) | (intro h0; cases h0))
          try simp only [Act.put, List.getElem_toArray, List.getElem_cons_zero, List.getElem_cons_succ, List.setIfInBounds_toArray, List.set_cons_zero, List.set_cons_succ]
          refine wpT_takeP 19 (v := ?_) rfl (by kernel_rfl) (fun _ _ _ h => h) (by rfl) ?_ ?_ ?_
          rotate_left
          · (intro W; go_simp; first | done | with_reducible rfl)
          · (first | (intro _; with_reducible assumption) | (intro h0; cases h0))
          try simp only [Act.put, List.getElem_toArray, List.getElem_cons_zero, List.getElem_cons_succ, List.setIfInBounds_toArray, List.set_cons_zero, List.set_cons_succ]
          refine wpT_takeP 20 (v := ?_) rfl (by kernel_rfl) (fun _ _ _ h => h) (by rfl) ?_ ?_ ?_
          rotate_left
          · (intro W; go_simp; first | done | with_reducible rfl)
          · (first | (intro _; with_reducible assumption) | (intro h0; cases h0))
          try simp only [Act.put, List.getElem_toArray, List.getElem_cons_zero, List.getElem_cons_succ, List.setIfInBounds_toArray, List.set_cons_zero, List.set_cons_succ]
          refine wpT_takeP 24 (v := ?_) rfl (by kernel_rfl) (fun _ _ _ h => h) (by rfl) ?_ ?_ ?_
          rotate_left
          · (intro W; go_simp; first | done | with_reducible rfl)
          · (first | (intro _; with_reducible assumption) | (intro h0; cases h0))
          try simp only [Act.put, List.getElem_toArray, List.getElem_cons_zero, List.getElem_cons_succ, List.setIfInBounds_toArray, List.set_cons_zero, List.set_cons_succ]
          refine wpT_take 4 30 (v := ?_) rfl (by kernel_rfl) (fun _ _ _ h => h) (by rfl) ?_ HS ?_
          rotate_left
          · (intro W hW; have hq0 := fun o => hW.cell (p := ⟨w.heap.size, o, none⟩) (by simp <;> omega); have hq1 := fun o => hW.cell (p := ⟨w.heap.size + 1, o, none⟩) (by simp <;> omega); have hq2 := fun o => hW.cell (p := ⟨w.heap.size + 1 + 1, o, none⟩) (by simp <;> omega); go_simp; first | done | with_reducible rfl)
          try simp only [Act.put, List.getElem_toArray, List.getElem_cons_zero, List.getElem_cons_succ, List.setIfInBounds_toArray, List.set_cons_zero, List.set_cons_succ]
          refine wpT_take 10 30 (v := ?_) rfl (by kernel_rfl) (fun _ _ _ h => h) (by rfl) ?_ HS ?_
          rotate_left
          · (intro W hW; have hq0 := fun o => hW.cell (p := ⟨w.heap.size, o, none⟩) (by simp <;> omega); have hq1 := fun o => hW.cell (p := ⟨w.heap.size + 1, o, none⟩) (by simp <;> omega); have hq2 := fun o => hW.cell (p := ⟨w.heap.size + 1 + 1, o, none⟩) (by simp <;> omega); go_simp; first | done | with_reducible rfl)
          try simp only [Act.put, List.getElem_toArray, List.getElem_cons_zero, List.getElem_cons_succ, List.setIfInBounds_toArray, List.set_cons_zero, List.set_cons_succ]
          refine wpT_take 18 30 (v := ?_) rfl (by kernel_rfl) (fun _ _ _ h => h) (by rfl) ?_ HS ?_
          rotate_left
          · (intro W hW; have hq0 := fun o => hW.cell (p := ⟨w.heap.size, o, none⟩) (by simp <;> omega); have hq1 := fun o => hW.cell (p := ⟨w.heap.size + 1, o, none⟩) (by simp <;> omega); have hq2 := fun o => hW.cell (p := ⟨w.heap.size + 1 + 1, o, none⟩) (by simp <;> omega); go_simp; first | done | with_reducible rfl)
          try simp only [Act.put, List.getElem_toArray, List.getElem_cons_zero, List.getElem_cons_succ, List.setIfInBounds_toArray, List.set_cons_zero, List.set_cons_succ]
          refine wpT_one 7 (by kernel_rfl) rfl (fun K hK => ?_)
          go_simp
          refine (mod13c _ _ (Int.le_max_right p 1) _).mono ?_
          rintro e v1 ⟨rfl, hb⟩
          have HS := Below.trans HS (hb.mono HS.size)
          have HSV := HS
          clear hb
          refine hK.out _ _ ?_ ?_
          · (first | (intro _; with_reducible assumption) | (intro h0; cases h0))
          clear hK K
          try simp only [Act.put, List.getElem_toArray, List.getElem_cons_zero, List.getElem_cons_succ, List.setIfInBounds_toArray, List.set_cons_zero, List.set_cons_succ]
          refine wpT_one 13 (by kernel_rfl) rfl (fun K hK => ?_)
          go_simp
          refine (mod13c _ _ (Int.le_max_right p 1) _).mono ?_
          rintro e v2 ⟨rfl, hb⟩
          have HS := Below.trans HS (hb.mono HS.size)
          have HSV := HS
          clear hb
          refine hK.out _ _ ?_ ?_
          · (first | (intro _; with_reducible assumption) | (intro h0; cases h0))
          clear hK K
          try simp only [Act.put, List.getElem_toArray, List.getElem_cons_zero, List.getElem_cons_succ, List.setIfInBounds_toArray, List.set_cons_zero, List.set_cons_succ]
          refine wpT_one 21 (by kernel_rfl) rfl (fun K hK => ?_)
          go_simp
          refine (mod13c _ _ (Int.le_max_right p 1) _).mono ?_
          rintro e v3 ⟨rfl, hb⟩
          have HS := Below.trans HS (hb.mono HS.size)
          have HSV := HS
          clear hb
          refine hK.out _ _ ?_ ?_
          · (first | (intro _; with_reducible assumption) | (intro h0; cases h0))
          clear hK K
          try simp only [Act.put, List.getElem_toArray, List.getElem_cons_zero, List.getElem_cons_succ, List.setIfInBounds_toArray, List.set_cons_zero, List.set_cons_succ]
          refine wpT_takeP 22 (v := ?_) rfl (by kernel_rfl) (fun _ _ _ h => h) (by rfl) ?_ ?_ ?_
          rotate_left
          · (intro W; go_simp; first | done | with_reducible rfl)
          · (first | (intro _; with_reducible assumption) | (intro h0; cases h0))
          try simp only [Act.put, List.getElem_toArray, List.getElem_cons_zero, List.getElem_cons_succ, List.setIfInBounds_toArray, List.set_cons_zero, List.set_cons_succ]
          refine wpT_takeP 23 (v := ?_) rfl (by kernel_rfl) (fun _ _ _ h => h) (by rfl) ?_ ?_ ?_
          rotate_left
          · (intro W; go_simp; first | done | with_reducible rfl)
          · (first | (intro _; with_reducible assumption) | (intro h0; cases h0))
          try simp only [Act.put, List.getElem_toArray, List.getElem_cons_zero, List.getElem_cons_succ, List.setIfInBounds_toArray, List.set_cons_zero, List.set_cons_succ]
          refine wpT_takeP 25 (v := ?_) rfl (by kernel_rfl) (fun _ _ _ h => h) (by rfl) ?_ ?_ ?_
          rotate_left
          · (intro W; go_simp; first | done | with_reducible rfl)
          · (first | (intro _; with_reducible assumption) | (intro h0; cases h0))
          try simp only [Act.put, List.getElem_toArray, List.getElem_cons_zero, List.getElem_cons_succ, List.setIfInBounds_toArray, List.set_cons_zero, List.set_cons_succ]
          have HNV := Lib.hid (NumsAt.below HNJ.out HS hgs2)
          obtain ⟨u0, r0⟩ := HNV.out (3 * i1 + j1) (by omega)
          have hgv : w.heap.size + 1 + 1 + 1 + 1 < v3.heap.size := Nat.lt_of_lt_of_le hgs2 HS.size
          refine wpT_one 26 (by kernel_rfl) rfl (fun K hK => ?_)
          go_simp
          refine hK.out _ _ ?_ ?_
          · (first | (intro _; with_reducible assumption) | (intro h0; cases h0; done) | (intro _; simp [go_sem]))
          clear hK K
          try simp only [Act.put, List.getElem_toArray, List.getElem_cons_zero, List.getElem_cons_succ, List.setIfInBounds_toArray, List.set_cons_zero, List.set_cons_succ]
          refine wpT_done (by kernel_rfl) ?_ _
          skip
          go_wp2_with fail
          exact ⟨⟨j1 + 1, by omega, by go_num, ⟨_, HNV.out.set (3 * i1 + j1) (by omega) _⟩, (HBJ.out.trans (HS.mono (by have := HBJ.out.size; omega))).setCell (p := ⟨w.heap.size + 1 + 1 + 1 + 1, 3 * i1 + j1, none⟩) (Nat.le_refl _) _, by simpa using hgv⟩, by simp [intOf]; omega⟩
        · have hj3 : j1 = 3 := by omega
          subst hj3
          have HNJ := Lib.hid hnu
          have HBJ := Lib.hid hbl
          clear hnu hbl
          go_wp2_with fail
          exact ⟨⟨i1 + 1, by omega, by go_num, HNJ.out, HBJ.out, hgs2⟩, by simp [intOf]; omega⟩
    · have hi3 : i1 = 3 := by omega
      subst hi3
      clear hlti
      have HBW := Lib.hid (HBT.out.trans (HBI.out.mono (by omega)))
      go_wp2_with fail
      refine (counted14 _).mono ?_
      rintro e w2 ⟨rfl, hb⟩
      have HB2 := Lib.hid (HBW.out.trans (hb.mono HBW.out.size))
      clear hb
      go_wp2_with fail
      refine (isPrime15_no _ HP.out _).mono ?_
      rintro e w3 ⟨rfl, hb⟩
      have HB3 := Lib.hid (HB2.out.trans (hb.mono HB2.out.size))
      clear hb
      go_wp2_with fail
      refine (counted14 _).mono ?_
      rintro e w4 ⟨rfl, hb⟩
      have HB4 := Lib.hid (HB3.out.trans (hb.mono HB3.out.size))
      clear hb
      go_wp2_with fail
      go_ret
      exact ⟨rfl, HB4.out⟩

end Go.Proofs.Ytfdbkocpljiehaa
