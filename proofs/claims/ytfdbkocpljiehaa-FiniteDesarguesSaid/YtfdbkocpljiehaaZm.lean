/- Walks: the law FiniteDesargues, where p is a prime. -/
import Derived.Test.YtfdbkocpljiehaaZl
import Derived.Test.YtfdbkocpljiehaaZf
import Derived.Test.YtfdbkocpljiehaaMk
set_option linter.unusedSimpArgs false
set_option linter.unusedVariables false
namespace Go.Proofs.Ytfdbkocpljiehaa
open Go.RowKit

theorem detF16_d (p a0 a1 a2 a3 a4 a5 a6 a7 a8 D : Int) (hp : isP p = true) (hD : d9 p a0 a1 a2 a3 a4 a5 a6 a7 a8 = D) (w : World) :
    Calls Try.prog 16 #[.agg #[.int .i64 a0, .int .i64 a1, .int .i64 a2], .agg #[.int .i64 a3, .int .i64 a4, .int .i64 a5], .agg #[.int .i64 a6, .int .i64 a7, .int .i64 a8], .int .i64 p] w fun e w' => e = .returned (.int .i64 D) ∧ Below w.heap.size w w' := by
  obtain ⟨h, h'⟩ := isP_bd hp
  have := detF16 a0 a1 a2 a3 a4 a5 a6 a7 a8 p h h' w
  rw [← hD]
  exact this
theorem Join17_jn (p a0 a1 a2 b0 b1 b2 t0 t1 t2 : Int) (hp : isP p = true) (hz : zz p a0 a1 a2 = false) (hy : zz p b0 b1 b2 = false) (hf : fr p (a0, a1, a2) (b0, b1, b2) = false) (ht : jn p (a0, a1, a2) (b0, b1, b2) = (t0, t1, t2)) (w : World) :
    Calls Try.prog 17 #[.int .i64 p, .agg #[.int .i64 a0, .int .i64 a1, .int .i64 a2], .agg #[.int .i64 b0, .int .i64 b1, .int .i64 b2]] w fun e w' => e = .returned (.tuple #[.agg #[.int .i64 t0, .int .i64 t1, .int .i64 t2], .int .i64 0]) ∧ Below w.heap.size w w' := by
  obtain ⟨⟨u0, u1, u2⟩, hu⟩ : ∃ u, pl p a0 a1 a2 = u := ⟨_, rfl⟩
  obtain ⟨⟨v0, v1, v2⟩, hv⟩ : ∃ u, pl p b0 b1 b2 = u := ⟨_, rfl⟩
  unfold jn xx crT at ht
  unfold fr xx crT at hf
  dsimp only at ht hf
  rw [hu, hv] at ht hf
  exact Join17_ok _ _ _ _ _ _ _ u0 u1 u2 v0 v1 v2 _ _ _ hp hu hz hv hy ht hf w
/-- the determinant of number j of a list of tables -/
def dX (p : Int) (L : List (List Int)) (j : Nat) : Int := d9 p (lf (L.getD j []) 0) (lf (L.getD j []) 1) (lf (L.getD j []) 2) (lf (L.getD j []) 3) (lf (L.getD j []) 4) (lf (L.getD j []) 5) (lf (L.getD j []) 6) (lf (L.getD j []) 7) (lf (L.getD j []) 8)
def cmp (h : Int × Int × Int) (c : Nat) : Int := if c = 0 then h.1 else if c = 1 then h.2.1 else h.2.2
theorem up_step {F : Nat → Int × Int × Int} {i : Nat} {c0 c1 c2 : Int} (hF : F i = (c0, c1, c2)) : ∀ j, j < 9 →
    (if j = 3 * i + 2 then c2 else if j = 3 * i + 1 then c1 else if j = 3 * i then c0 else if j < 3 * i then cmp (F (j / 3)) (j % 3) else 0) = if j < 3 * (i + 1) then cmp (F (j / 3)) (j % 3) else 0 := by
  intro j _
  by_cases e2 : j = 3 * i + 2
  · rw [if_pos e2, if_pos (by omega), show j / 3 = i by omega, show j % 3 = 2 by omega, hF]; rfl
  · rw [if_neg e2]
    by_cases e1 : j = 3 * i + 1
    · rw [if_pos e1, if_pos (by omega), show j / 3 = i by omega, show j % 3 = 1 by omega, hF]; rfl
    · rw [if_neg e1]
      by_cases e0 : j = 3 * i
      · rw [if_pos e0, if_pos (by omega), show j / 3 = i by omega, show j % 3 = 0 by omega, hF]; rfl
      · rw [if_neg e0]
        by_cases el : j < 3 * i
        · rw [if_pos el, if_pos (by omega)]
        · rw [if_neg el, if_neg (by omega)]
theorem jn_nz {p : Int} (hp : isP p = true) {a b : Int × Int × Int} (h : fr p a b = false) : zz p (jn p a b).1 (jn p a b).2.1 (jn p a b).2.2 = false := by
  have h2 : 2 ≤ p := (isP_bd hp).1
  exact nm_nz h2 (pl_spec hp h).1
theorem Join17_fr (p a0 a1 a2 b0 b1 b2 : Int) (hp : isP p = true) (hz : zz p a0 a1 a2 = false) (hy : zz p b0 b1 b2 = false) (hf : fr p (a0, a1, a2) (b0, b1, b2) = true) (w : World) :
    Calls Try.prog 17 #[.int .i64 p, .agg #[.int .i64 a0, .int .i64 a1, .int .i64 a2], .agg #[.int .i64 b0, .int .i64 b1, .int .i64 b2]] w fun e w' => e = .returned (.tuple #[.agg #[.int .i64 0, .int .i64 0, .int .i64 0], .int .i64 7]) ∧ Below w.heap.size w w' := by
  obtain ⟨⟨u0, u1, u2⟩, hu⟩ : ∃ u, pl p a0 a1 a2 = u := ⟨_, rfl⟩
  obtain ⟨⟨v0, v1, v2⟩, hv⟩ : ∃ u, pl p b0 b1 b2 = u := ⟨_, rfl⟩
  unfold fr xx crT at hf
  dsimp only at hf
  rw [hu, hv] at hf
  exact Join17_free _ _ _ _ _ _ _ u0 u1 u2 v0 v1 v2 _ _ _ hp hu hz hv hy (pl_zero hf) hf w

set_option maxRecDepth 100000 in
set_option maxHeartbeats 40000000 in
theorem FiniteDesargues4_go (p o0 o1 o2 t0 t1 t2 t3 t4 t5 t6 t7 t8 k0 k1 k2 a0 a1 a2 a3 a4 a5 a6 a7 a8 u0 u1 u2 u3 u4 u5 u6 u7 u8 : Int) (hp : isP p = true) (e0 : u0 = o0 % p + k0 % p * (t0 % p)) (e1 : u1 = o1 % p + k0 % p * (t1 % p)) (e2 : u2 = o2 % p + k0 % p * (t2 % p)) (e3 : u3 = o0 % p + k1 % p * (t3 % p)) (e4 : u4 = o1 % p + k1 % p * (t4 % p)) (e5 : u5 = o2 % p + k1 % p * (t5 % p)) (e6 : u6 = o0 % p + k2 % p * (t6 % p)) (e7 : u7 = o1 % p + k2 % p * (t7 % p)) (e8 : u8 = o2 % p + k2 % p * (t8 % p)) (w : World) :
    Calls Try.prog 4 #[.int .i64 p, .agg #[.int .i64 o0, .int .i64 o1, .int .i64 o2], .agg #[.int .i64 t0, .int .i64 t1, .int .i64 t2, .int .i64 t3, .int .i64 t4, .int .i64 t5, .int .i64 t6, .int .i64 t7, .int .i64 t8], .agg #[.int .i64 k0, .int .i64 k1, .int .i64 k2], .agg #[.int .i64 a0, .int .i64 a1, .int .i64 a2, .int .i64 a3, .int .i64 a4, .int .i64 a5, .int .i64 a6, .int .i64 a7, .int .i64 a8]] w fun e w' => e = .returned (.bool true) ∧ Below w.heap.size w w' := by
  obtain ⟨h, h'⟩ := isP_bd hp
  have hmx : max p 1 = p := Int.max_eq_left (by omega)
  have HP := Lib.hid hp
  have HE0 := Lib.hid e0
  have HE1 := Lib.hid e1
  have HE2 := Lib.hid e2
  have HE3 := Lib.hid e3
  have HE4 := Lib.hid e4
  have HE5 := Lib.hid e5
  have HE6 := Lib.hid e6
  have HE7 := Lib.hid e7
  have HE8 := Lib.hid e8
  clear hp e0 e1 e2 e3 e4 e5 e6 e7 e8
  go_enter Try.func4, Try.ntmps4
  go_upto_region 2 with fail
  have hBT : Below w.heap.size w (((((w.alloc (Obj.cells #[.int .i64 o0, .int .i64 o1, .int .i64 o2] 27)).alloc (Obj.cells #[.int .i64 t0, .int .i64 t1, .int .i64 t2, .int .i64 t3, .int .i64 t4, .int .i64 t5, .int .i64 t6, .int .i64 t7, .int .i64 t8] 28)).alloc (Obj.cells #[.int .i64 k0, .int .i64 k1, .int .i64 k2] 27)).alloc (Obj.cells #[.int .i64 a0, .int .i64 a1, .int .i64 a2, .int .i64 a3, .int .i64 a4, .int .i64 a5, .int .i64 a6, .int .i64 a7, .int .i64 a8] 29)).alloc (Obj.cells #[.int .i64 0, .int .i64 0, .int .i64 0, .int .i64 0, .int .i64 0, .int .i64 0, .int .i64 0, .int .i64 0, .int .i64 0] 28)) := ba_c (ba_c (ba_c (ba_c (ba_c (Below.refl _ _) (Nat.le_refl _) _) (Nat.le_refl _) _) (Nat.le_refl _) _) (Nat.le_refl _) _) (Nat.le_refl _) _
  have hNo : NumsAt (((((w.alloc (Obj.cells #[.int .i64 o0, .int .i64 o1, .int .i64 o2] 27)).alloc (Obj.cells #[.int .i64 t0, .int .i64 t1, .int .i64 t2, .int .i64 t3, .int .i64 t4, .int .i64 t5, .int .i64 t6, .int .i64 t7, .int .i64 t8] 28)).alloc (Obj.cells #[.int .i64 k0, .int .i64 k1, .int .i64 k2] 27)).alloc (Obj.cells #[.int .i64 a0, .int .i64 a1, .int .i64 a2, .int .i64 a3, .int .i64 a4, .int .i64 a5, .int .i64 a6, .int .i64 a7, .int .i64 a8] 29)).alloc (Obj.cells #[.int .i64 0, .int .i64 0, .int .i64 0, .int .i64 0, .int .i64 0, .int .i64 0, .int .i64 0, .int .i64 0, .int .i64 0] 28)) (w.heap.size) 3 (lf [o0, o1, o2]) := by
    intro j hj
    have hh : j = 0 ∨ j = 1 ∨ j = 2 := by omega
    rcases hh with rfl | rfl | rfl <;> simp [go_sem, lf]
  have hNt : NumsAt (((((w.alloc (Obj.cells #[.int .i64 o0, .int .i64 o1, .int .i64 o2] 27)).alloc (Obj.cells #[.int .i64 t0, .int .i64 t1, .int .i64 t2, .int .i64 t3, .int .i64 t4, .int .i64 t5, .int .i64 t6, .int .i64 t7, .int .i64 t8] 28)).alloc (Obj.cells #[.int .i64 k0, .int .i64 k1, .int .i64 k2] 27)).alloc (Obj.cells #[.int .i64 a0, .int .i64 a1, .int .i64 a2, .int .i64 a3, .int .i64 a4, .int .i64 a5, .int .i64 a6, .int .i64 a7, .int .i64 a8] 29)).alloc (Obj.cells #[.int .i64 0, .int .i64 0, .int .i64 0, .int .i64 0, .int .i64 0, .int .i64 0, .int .i64 0, .int .i64 0, .int .i64 0] 28)) (w.heap.size + 1) 9 (lf [t0, t1, t2, t3, t4, t5, t6, t7, t8]) := by
    intro j hj
    have hh : j = 0 ∨ j = 1 ∨ j = 2 ∨ j = 3 ∨ j = 4 ∨ j = 5 ∨ j = 6 ∨ j = 7 ∨ j = 8 := by omega
    rcases hh with rfl | rfl | rfl | rfl | rfl | rfl | rfl | rfl | rfl <;> simp [go_sem, lf]
  have hNk : NumsAt (((((w.alloc (Obj.cells #[.int .i64 o0, .int .i64 o1, .int .i64 o2] 27)).alloc (Obj.cells #[.int .i64 t0, .int .i64 t1, .int .i64 t2, .int .i64 t3, .int .i64 t4, .int .i64 t5, .int .i64 t6, .int .i64 t7, .int .i64 t8] 28)).alloc (Obj.cells #[.int .i64 k0, .int .i64 k1, .int .i64 k2] 27)).alloc (Obj.cells #[.int .i64 a0, .int .i64 a1, .int .i64 a2, .int .i64 a3, .int .i64 a4, .int .i64 a5, .int .i64 a6, .int .i64 a7, .int .i64 a8] 29)).alloc (Obj.cells #[.int .i64 0, .int .i64 0, .int .i64 0, .int .i64 0, .int .i64 0, .int .i64 0, .int .i64 0, .int .i64 0, .int .i64 0] 28)) (w.heap.size + 1 + 1) 3 (lf [k0, k1, k2]) := by
    intro j hj
    have hh : j = 0 ∨ j = 1 ∨ j = 2 := by omega
    rcases hh with rfl | rfl | rfl <;> simp [go_sem, lf]
  have hNw : NumsAt (((((w.alloc (Obj.cells #[.int .i64 o0, .int .i64 o1, .int .i64 o2] 27)).alloc (Obj.cells #[.int .i64 t0, .int .i64 t1, .int .i64 t2, .int .i64 t3, .int .i64 t4, .int .i64 t5, .int .i64 t6, .int .i64 t7, .int .i64 t8] 28)).alloc (Obj.cells #[.int .i64 k0, .int .i64 k1, .int .i64 k2] 27)).alloc (Obj.cells #[.int .i64 a0, .int .i64 a1, .int .i64 a2, .int .i64 a3, .int .i64 a4, .int .i64 a5, .int .i64 a6, .int .i64 a7, .int .i64 a8] 29)).alloc (Obj.cells #[.int .i64 0, .int .i64 0, .int .i64 0, .int .i64 0, .int .i64 0, .int .i64 0, .int .i64 0, .int .i64 0, .int .i64 0] 28)) (w.heap.size + 1 + 1 + 1) 9 (lf [a0, a1, a2, a3, a4, a5, a6, a7, a8]) := by
    intro j hj
    have hh : j = 0 ∨ j = 1 ∨ j = 2 ∨ j = 3 ∨ j = 4 ∨ j = 5 ∨ j = 6 ∨ j = 7 ∨ j = 8 := by omega
    rcases hh with rfl | rfl | rfl | rfl | rfl | rfl | rfl | rfl | rfl <;> simp [go_sem, lf]
  have hNu : NumsAt (((((w.alloc (Obj.cells #[.int .i64 o0, .int .i64 o1, .int .i64 o2] 27)).alloc (Obj.cells #[.int .i64 t0, .int .i64 t1, .int .i64 t2, .int .i64 t3, .int .i64 t4, .int .i64 t5, .int .i64 t6, .int .i64 t7, .int .i64 t8] 28)).alloc (Obj.cells #[.int .i64 k0, .int .i64 k1, .int .i64 k2] 27)).alloc (Obj.cells #[.int .i64 a0, .int .i64 a1, .int .i64 a2, .int .i64 a3, .int .i64 a4, .int .i64 a5, .int .i64 a6, .int .i64 a7, .int .i64 a8] 29)).alloc (Obj.cells #[.int .i64 0, .int .i64 0, .int .i64 0, .int .i64 0, .int .i64 0, .int .i64 0, .int .i64 0, .int .i64 0, .int .i64 0] 28)) (w.heap.size + 1 + 1 + 1 + 1) 9 (fun _ => 0) := by
    intro j hj
    have hh : j = 0 ∨ j = 1 ∨ j = 2 ∨ j = 3 ∨ j = 4 ∨ j = 5 ∨ j = 6 ∨ j = 7 ∨ j = 8 := by omega
    rcases hh with rfl | rfl | rfl | rfl | rfl | rfl | rfl | rfl | rfl <;> simp [go_sem]
  have hsT : w.heap.size + 1 + 1 + 1 + 1 < (((((w.alloc (Obj.cells #[.int .i64 o0, .int .i64 o1, .int .i64 o2] 27)).alloc (Obj.cells #[.int .i64 t0, .int .i64 t1, .int .i64 t2, .int .i64 t3, .int .i64 t4, .int .i64 t5, .int .i64 t6, .int .i64 t7, .int .i64 t8] 28)).alloc (Obj.cells #[.int .i64 k0, .int .i64 k1, .int .i64 k2] 27)).alloc (Obj.cells #[.int .i64 a0, .int .i64 a1, .int .i64 a2, .int .i64 a3, .int .i64 a4, .int .i64 a5, .int .i64 a6, .int .i64 a7, .int .i64 a8] 29)).alloc (Obj.cells #[.int .i64 0, .int .i64 0, .int .i64 0, .int .i64 0, .int .i64 0, .int .i64 0, .int .i64 0, .int .i64 0, .int .i64 0] 28)).heap.size := by simp
  generalize (((((w.alloc (Obj.cells #[.int .i64 o0, .int .i64 o1, .int .i64 o2] 27)).alloc (Obj.cells #[.int .i64 t0, .int .i64 t1, .int .i64 t2, .int .i64 t3, .int .i64 t4, .int .i64 t5, .int .i64 t6, .int .i64 t7, .int .i64 t8] 28)).alloc (Obj.cells #[.int .i64 k0, .int .i64 k1, .int .i64 k2] 27)).alloc (Obj.cells #[.int .i64 a0, .int .i64 a1, .int .i64 a2, .int .i64 a3, .int .i64 a4, .int .i64 a5, .int .i64 a6, .int .i64 a7, .int .i64 a8] 29)).alloc (Obj.cells #[.int .i64 0, .int .i64 0, .int .i64 0, .int .i64 0, .int .i64 0, .int .i64 0, .int .i64 0, .int .i64 0, .int .i64 0] 28)) = W0 at *
  have HBT := Lib.hid hBT
  have HNO := Lib.hid hNo
  have HNT := Lib.hid hNt
  have HNK := Lib.hid hNk
  have HNW := Lib.hid hNw
  have HNU := Lib.hid hNu
  clear hBT hNo hNt hNk hNw hNu
  go_wp2_with fail
  go_loopw [29] (fun i wr => ∃ i1 : Nat, i1 ≤ 3 ∧ i = .int .i64 i1 ∧ NumsAt wr (w.heap.size + 1 + 1 + 1 + 1) 9 (fun j => if j < 3 * i1 then (fun j => lf [o0, o1, o2] (j % 3) % p + lf [k0, k1, k2] (j / 3) % p * (lf [t0, t1, t2, t3, t4, t5, t6, t7, t8] j % p)) j else 0) ∧ Below (w.heap.size + 1 + 1 + 1 + 1) W0 wr ∧ w.heap.size + 1 + 1 + 1 + 1 < wr.heap.size) (fun i _ => 3 - (intOf i).toNat)
  case atStart => exact ⟨0, by omega, rfl, NumsAt.congr HNU.out (fun j _ => by rw [if_neg (by omega)]), Below.refl _ _, hsT⟩
  case round =>
    obtain ⟨i1, hi1, rfl, hnu, hbl, hgs⟩ := hrel
    obtain ⟨wi, rfl⟩ : ∃ wo : World, wo = wr := ⟨_, rfl⟩
    have HNI := Lib.hid hnu
    have HBI := Lib.hid hbl
    clear hnu hbl
    by_cases hlti : i1 < 3
    · have l2 : (i1 : Int) < 3 := by omega
      go_wp2_with fail
      go_loopw [32] (fun i wr => ∃ j1 : Nat, j1 ≤ 3 ∧ i = .int .i64 j1 ∧ NumsAt wr (w.heap.size + 1 + 1 + 1 + 1) 9 (fun j => if j < (3 * i1 + j1) then (fun j => lf [o0, o1, o2] (j % 3) % p + lf [k0, k1, k2] (j / 3) % p * (lf [t0, t1, t2, t3, t4, t5, t6, t7, t8] j % p)) j else 0) ∧ Below (w.heap.size + 1 + 1 + 1 + 1) W0 wr ∧ w.heap.size + 1 + 1 + 1 + 1 < wr.heap.size) (fun i _ => 3 - (intOf i).toNat)
      case atStart => exact ⟨0, by omega, rfl, HNI.out, HBI.out, hgs⟩
      case round =>
        obtain ⟨j1, hj1, rfl, hnu, hbl, hgs2⟩ := hrel
        obtain ⟨wj, rfl⟩ : ∃ wo : World, wo = wr := ⟨_, rfl⟩
        by_cases hltj : j1 < 3
        · have HNJ := Lib.hid hnu
          clear hnu
          have HBJ := Lib.hid hbl
          obtain ⟨x0, hx0⟩ : ∃ x0, lf [o0, o1, o2] j1 = x0 := ⟨_, rfl⟩
          obtain ⟨y0, hy0⟩ : ∃ x0, lf [k0, k1, k2] i1 = x0 := ⟨_, rfl⟩
          obtain ⟨z0, hz0⟩ : ∃ x0, lf [t0, t1, t2, t3, t4, t5, t6, t7, t8] (3 * i1 + j1) = x0 := ⟨_, rfl⟩
          have co : wj.cell? ⟨w.heap.size, j1, none⟩ = some (.int .i64 x0) := by rw [hbl.cell (p := ⟨w.heap.size, j1, none⟩) (by simp <;> omega), ← hx0]; exact (HNO.out j1 hltj).1
          have ck : wj.cell? ⟨w.heap.size + 1 + 1, i1, none⟩ = some (.int .i64 y0) := by rw [hbl.cell (p := ⟨w.heap.size + 1 + 1, i1, none⟩) (by simp <;> omega), ← hy0]; exact (HNK.out i1 hlti).1
          have ct : wj.cell? ⟨w.heap.size + 1, 3 * i1 + j1, none⟩ = some (.int .i64 z0) := by rw [hbl.cell (p := ⟨w.heap.size + 1, 3 * i1 + j1, none⟩) (by simp <;> omega), ← hz0]; exact (HNT.out (3 * i1 + j1) (by omega)).1
          have HX0 := Lib.hid hx0
          have HY0 := Lib.hid hy0
          have HZ0 := Lib.hid hz0
          clear hbl hx0 hy0 hz0
          have l1 : (0 : Int) ≤ (i1 : Int) := by omega
          have r1 : (0 : Int) ≤ (j1 : Int) := by omega
          have r2 : (j1 : Int) < 3 := by omega
          have el : i1 * 3 = 3 * i1 := by omega
          have by0 := em12 y0 p h h'
          have bz0 := em12 z0 p h h'
          have bx0 := em12 x0 p h h'
          obtain ⟨mm1, mm2⟩ := mb0 by0 bz0
          go_upto_region 8 with fail
          refine wp_region_T (Below (wj.heap.size) (wj)) 26 (by kernel_rfl) ?_ ?_
          · exact Below.drew (Below.refl _ _)
          intro HS
          refine wpT_takeP 0 (v := ?_) rfl (by kernel_rfl) (fun _ _ _ h => h) (by rfl) ?_ ?_ ?_
          rotate_left
          · (intro W; go_simp; first | done | with_reducible rfl)
          · (first | (intro _; with_reducible assumption) | (intro h0; cases h0))
          try simp only [Act.put, List.getElem_toArray, List.getElem_cons_zero, List.getElem_cons_succ, List.setIfInBounds_toArray, List.set_cons_zero, List.set_cons_succ]
          refine wpT_takeP 1 (v := ?_) rfl (by kernel_rfl) (fun _ _ _ h => h) (by rfl) ?_ ?_ ?_
          rotate_left
          · (intro W; go_simp; first | done | with_reducible rfl)
          · (first | (intro _; with_reducible assumption) | (intro h0; cases h0))
          try simp only [Act.put, List.getElem_toArray, List.getElem_cons_zero, List.getElem_cons_succ, List.setIfInBounds_toArray, List.set_cons_zero, List.set_cons_succ]
          refine wpT_takeP 2 (v := ?_) rfl (by kernel_rfl) (fun _ _ _ h => h) (by rfl) ?_ ?_ ?_
          rotate_left
          · (intro W; go_simp; first | done | with_reducible rfl)
          · (first | (intro _; with_reducible assumption) | (intro h0; cases h0))
          try simp only [Act.put, List.getElem_toArray, List.getElem_cons_zero, List.getElem_cons_succ, List.setIfInBounds_toArray, List.set_cons_zero, List.set_cons_succ]
          refine wpT_takeP 3 (v := ?_) rfl (by kernel_rfl) (fun _ _ _ h => h) (by rfl) ?_ ?_ ?_
          rotate_left
          · (intro W; go_simp; first | done | with_reducible rfl)
          · (first | (intro _; with_reducible assumption) | (intro h0; cases h0))
          try simp only [Act.put, List.getElem_toArray, List.getElem_cons_zero, List.getElem_cons_succ, List.setIfInBounds_toArray, List.set_cons_zero, List.set_cons_succ]
          refine wpT_takeP 5 (v := ?_) rfl (by kernel_rfl) (fun _ _ _ h => h) (by rfl) ?_ ?_ ?_
          rotate_left
          · (intro W; go_simp; first | done | with_reducible rfl)
          · (first | (intro _; with_reducible assumption) | (intro h0; cases h0))
          try simp only [Act.put, List.getElem_toArray, List.getElem_cons_zero, List.getElem_cons_succ, List.setIfInBounds_toArray, List.set_cons_zero, List.set_cons_succ]
          refine wpT_takeP 6 (v := ?_) rfl (by kernel_rfl) (fun _ _ _ h => h) (by rfl) ?_ ?_ ?_
          rotate_left
          · (intro W; go_simp; first | done | with_reducible rfl)
          · (first | (intro _; with_reducible assumption) | (intro h0; cases h0))
          try simp only [Act.put, List.getElem_toArray, List.getElem_cons_zero, List.getElem_cons_succ, List.setIfInBounds_toArray, List.set_cons_zero, List.set_cons_succ]
          refine wpT_takeP 8 (v := ?_) rfl (by kernel_rfl) (fun _ _ _ h => h) (by rfl) ?_ ?_ ?_
          rotate_left
          · (intro W; go_simp; first | done | with_reducible rfl)
          · (first | (intro _; with_reducible assumption) | (intro h0; cases h0))
          try simp only [Act.put, List.getElem_toArray, List.getElem_cons_zero, List.getElem_cons_succ, List.setIfInBounds_toArray, List.set_cons_zero, List.set_cons_succ]
          refine wpT_takeP 9 (v := ?_) rfl (by kernel_rfl) (fun _ _ _ h => h) (by rfl) ?_ ?_ ?_
          rotate_left
          · (intro W; go_simp; first | done | with_reducible rfl)
          · (first | (intro _; with_reducible assumption) | (intro h0; cases h0))
          try simp only [Act.put, List.getElem_toArray, List.getElem_cons_zero, List.getElem_cons_succ, List.setIfInBounds_toArray, List.set_cons_zero, List.set_cons_succ]
          refine wpT_takeP 11 (v := ?_) rfl (by kernel_rfl) (fun _ _ _ h => h) (by rfl) ?_ ?_ ?_
          rotate_left
          · (intro W; go_simp; first | done | with_reducible rfl)
          · (first | (intro _; with_reducible assumption) | (intro h0; cases h0))
          try simp only [Act.put, List.getElem_toArray, List.getElem_cons_zero, List.getElem_cons_succ, List.setIfInBounds_toArray, List.set_cons_zero, List.set_cons_succ]
          refine wpT_takeP 12 (v := ?_) rfl (by kernel_rfl) (fun _ _ _ h => h) (by rfl) ?_ ?_ ?_
          rotate_left
          · (intro W; go_simp; first | done | with_reducible rfl)
          · (first | (intro _; with_reducible assumption) | (intro h0; cases h0))
          try simp only [Act.put, List.getElem_toArray, List.getElem_cons_zero, List.getElem_cons_succ, List.setIfInBounds_toArray, List.set_cons_zero, List.set_cons_succ]
          refine wpT_takeP 14 (v := ?_) rfl (by kernel_rfl) (fun _ _ _ h => h) (by rfl) ?_ ?_ ?_
          rotate_left
          · (intro W; go_simp; first | done | with_reducible rfl)
          · (first | (intro _; with_reducible assumption) | (intro h0; cases h0))
          try simp only [Act.put, List.getElem_toArray, List.getElem_cons_zero, List.getElem_cons_succ, List.setIfInBounds_toArray, List.set_cons_zero, List.set_cons_succ]
          refine wpT_takeP 15 (v := ?_) rfl (by kernel_rfl) (fun _ _ _ h => h) (by rfl) ?_ ?_ ?_
          rotate_left
          · (intro W; go_simp; first | done | with_reducible rfl)
          · (first | (intro _; with_reducible assumption) | (intro h0; cases h0))
          try simp only [Act.put, List.getElem_toArray, List.getElem_cons_zero, List.getElem_cons_succ, List.setIfInBounds_toArray, List.set_cons_zero, List.set_cons_succ]
          refine wpT_takeP 16 (v := ?_) rfl (by kernel_rfl) (fun _ _ _ h => h) (by rfl) ?_ ?_ ?_
          rotate_left
          · (intro W; go_simp; first | done | with_reducible rfl)
          · (first | (intro _; with_reducible assumption) | (intro h0; cases h0))
          try simp only [Act.put, List.getElem_toArray, List.getElem_cons_zero, List.getElem_cons_succ, List.setIfInBounds_toArray, List.set_cons_zero, List.set_cons_succ]
          refine wpT_takeP 17 (v := ?_) rfl (by kernel_rfl) (fun _ _ _ h => h) (by rfl) ?_ ?_ ?_
          rotate_left
          · (intro W; go_simp; first | done | with_reducible rfl)
          · (first | (intro _; with_reducible assumption) | (intro h0; cases h0))
          try simp only [Act.put, List.getElem_toArray, List.getElem_cons_zero, List.getElem_cons_succ, List.setIfInBounds_toArray, List.set_cons_zero, List.set_cons_succ]
          refine wpT_takeP 19 (v := ?_) rfl (by kernel_rfl) (fun _ _ _ h => h) (by rfl) ?_ ?_ ?_
          rotate_left
          · (intro W; go_simp; first | done | with_reducible rfl)
          · (first | (intro _; with_reducible assumption) | (intro h0; cases h0))
          try simp only [Act.put, List.getElem_toArray, List.getElem_cons_zero, List.getElem_cons_succ, List.setIfInBounds_toArray, List.set_cons_zero, List.set_cons_succ]
          refine wpT_takeP 20 (v := ?_) rfl (by kernel_rfl) (fun _ _ _ h => h) (by rfl) ?_ ?_ ?_
          rotate_left
          · (intro W; go_simp; first | done | with_reducible rfl)
          · (first | (intro _; with_reducible assumption) | (intro h0; cases h0))
          try simp only [Act.put, List.getElem_toArray, List.getElem_cons_zero, List.getElem_cons_succ, List.setIfInBounds_toArray, List.set_cons_zero, List.set_cons_succ]
          refine wpT_takeP 24 (v := ?_) rfl (by kernel_rfl) (fun _ _ _ h => h) (by rfl) ?_ ?_ ?_
          rotate_left
          · (intro W; go_simp; first | done | with_reducible rfl)
          · (first | (intro _; with_reducible assumption) | (intro h0; cases h0))
          try simp only [Act.put, List.getElem_toArray, List.getElem_cons_zero, List.getElem_cons_succ, List.setIfInBounds_toArray, List.set_cons_zero, List.set_cons_succ]
          refine wpT_take 4 30 (v := ?_) rfl (by kernel_rfl) (fun _ _ _ h => h) (by rfl) ?_ HS ?_
          rotate_left
          · (intro W hW; have hq0 := fun o => hW.cell (p := ⟨w.heap.size, o, none⟩) (by simp <;> omega); have hq1 := fun o => hW.cell (p := ⟨w.heap.size + 1, o, none⟩) (by simp <;> omega); have hq2 := fun o => hW.cell (p := ⟨w.heap.size + 1 + 1, o, none⟩) (by simp <;> omega); go_simp; first | done | with_reducible rfl)
          try simp only [Act.put, List.getElem_toArray, List.getElem_cons_zero, List.getElem_cons_succ, List.setIfInBounds_toArray, List.set_cons_zero, List.set_cons_succ]
          refine wpT_take 10 30 (v := ?_) rfl (by kernel_rfl) (fun _ _ _ h => h) (by rfl) ?_ HS ?_
          rotate_left
          · (intro W hW; have hq0 := fun o => hW.cell (p := ⟨w.heap.size, o, none⟩) (by simp <;> omega); have hq1 := fun o => hW.cell (p := ⟨w.heap.size + 1, o, none⟩) (by simp <;> omega); have hq2 := fun o => hW.cell (p := ⟨w.heap.size + 1 + 1, o, none⟩) (by simp <;> omega); go_simp; first | done | with_reducible rfl)
          try simp only [Act.put, List.getElem_toArray, List.getElem_cons_zero, List.getElem_cons_succ, List.setIfInBounds_toArray, List.set_cons_zero, List.set_cons_succ]
          refine wpT_take 18 30 (v := ?_) rfl (by kernel_rfl) (fun _ _ _ h => h) (by rfl) ?_ HS ?_
          rotate_left
          · (intro W hW; have hq0 := fun o => hW.cell (p := ⟨w.heap.size, o, none⟩) (by simp <;> omega); have hq1 := fun o => hW.cell (p := ⟨w.heap.size + 1, o, none⟩) (by simp <;> omega); have hq2 := fun o => hW.cell (p := ⟨w.heap.size + 1 + 1, o, none⟩) (by simp <;> omega); go_simp; first | done | with_reducible rfl)
          try simp only [Act.put, List.getElem_toArray, List.getElem_cons_zero, List.getElem_cons_succ, List.setIfInBounds_toArray, List.set_cons_zero, List.set_cons_succ]
          refine wpT_one 7 (by kernel_rfl) rfl (fun K hK => ?_)
          go_simp
          refine (mod13b _ _ h h' _).mono ?_
          rintro e v1 ⟨rfl, hb⟩
          have HS := Below.trans HS (hb.mono HS.size)
          have HSV := HS
          clear hb
          refine hK.out _ _ ?_ ?_
          · (first | (intro _; with_reducible assumption) | (intro h0; cases h0))
          clear hK K
          try simp only [Act.put, List.getElem_toArray, List.getElem_cons_zero, List.getElem_cons_succ, List.setIfInBounds_toArray, List.set_cons_zero, List.set_cons_succ]
          refine wpT_one 13 (by kernel_rfl) rfl (fun K hK => ?_)
          go_simp
          refine (mod13b _ _ h h' _).mono ?_
          rintro e v2 ⟨rfl, hb⟩
          have HS := Below.trans HS (hb.mono HS.size)
          have HSV := HS
          clear hb
          refine hK.out _ _ ?_ ?_
          · (first | (intro _; with_reducible assumption) | (intro h0; cases h0))
          clear hK K
          try simp only [Act.put, List.getElem_toArray, List.getElem_cons_zero, List.getElem_cons_succ, List.setIfInBounds_toArray, List.set_cons_zero, List.set_cons_succ]
          refine wpT_one 21 (by kernel_rfl) rfl (fun K hK => ?_)
          go_simp
          refine (mod13b _ _ h h' _).mono ?_
          rintro e v3 ⟨rfl, hb⟩
          have HS := Below.trans HS (hb.mono HS.size)
          have HSV := HS
          clear hb
          refine hK.out _ _ ?_ ?_
          · (first | (intro _; with_reducible assumption) | (intro h0; cases h0))
          clear hK K
          try simp only [Act.put, List.getElem_toArray, List.getElem_cons_zero, List.getElem_cons_succ, List.setIfInBounds_toArray, List.set_cons_zero, List.set_cons_succ]
          refine wpT_takeP 22 (v := ?_) rfl (by kernel_rfl) (fun _ _ _ h => h) (by rfl) ?_ ?_ ?_
          rotate_left
          · (intro W; go_simp; first | done | with_reducible rfl)
          · (first | (intro _; with_reducible assumption) | (intro h0; cases h0))
          try simp only [Act.put, List.getElem_toArray, List.getElem_cons_zero, List.getElem_cons_succ, List.setIfInBounds_toArray, List.set_cons_zero, List.set_cons_succ]
          refine wpT_takeP 23 (v := ?_) rfl (by kernel_rfl) (fun _ _ _ h => h) (by rfl) ?_ ?_ ?_
          rotate_left
          · (intro W; go_simp; first | done | with_reducible rfl)
          · (first | (intro _; with_reducible assumption) | (intro h0; cases h0))
          try simp only [Act.put, List.getElem_toArray, List.getElem_cons_zero, List.getElem_cons_succ, List.setIfInBounds_toArray, List.set_cons_zero, List.set_cons_succ]
          refine wpT_takeP 25 (v := ?_) rfl (by kernel_rfl) (fun _ _ _ h => h) (by rfl) ?_ ?_ ?_
          rotate_left
          · (intro W; go_simp; first | done | with_reducible rfl)
          · (first | (intro _; with_reducible assumption) | (intro h0; cases h0))
          try simp only [Act.put, List.getElem_toArray, List.getElem_cons_zero, List.getElem_cons_succ, List.setIfInBounds_toArray, List.set_cons_zero, List.set_cons_succ]
          have HNV := Lib.hid (NumsAt.below HNJ.out HS hgs2)
          obtain ⟨uq, rq⟩ := HNV.out (3 * i1 + j1) (by omega)
          have hgv : w.heap.size + 1 + 1 + 1 + 1 < v3.heap.size := Nat.lt_of_lt_of_le hgs2 HS.size
          refine wpT_one 26 (by kernel_rfl) rfl (fun K hK => ?_)
          go_simp
          refine hK.out _ _ ?_ ?_
          · (first | (intro _; with_reducible assumption) | (intro h0; cases h0; done) | (intro _; simp [go_sem]))
          clear hK K
          try simp only [Act.put, List.getElem_toArray, List.getElem_cons_zero, List.getElem_cons_succ, List.setIfInBounds_toArray, List.set_cons_zero, List.set_cons_succ]
          refine wpT_done (by kernel_rfl) ?_ _
          have HNN := Lib.hid (NumsAt.congr (HNV.out.set (3 * i1 + j1) (by omega) (x0 % p + y0 % p * (z0 % p))) (f' := (fun j => if j < (3 * i1 + (j1 + 1)) then (fun j => lf [o0, o1, o2] (j % 3) % p + lf [k0, k1, k2] (j / 3) % p * (lf [t0, t1, t2, t3, t4, t5, t6, t7, t8] j % p)) j else 0)) (fun j hj => by
            by_cases e : j = 3 * i1 + j1
            · rw [if_pos e, if_pos (by omega), e]; dsimp only; rw [show (3 * i1 + j1) % 3 = j1 by omega, show (3 * i1 + j1) / 3 = i1 by omega, HX0.out, HY0.out, HZ0.out]
            · rw [if_neg e]
              by_cases e2 : j < 3 * i1 + j1
              · rw [if_pos e2, if_pos (by omega)]
              · rw [if_neg e2, if_neg (by omega)]))
          go_wp2_with fail
          exact ⟨⟨j1 + 1, by omega, by go_num, HNN.out, (HBJ.out.trans (HS.mono (by have := HBJ.out.size; omega))).setCell (p := ⟨w.heap.size + 1 + 1 + 1 + 1, 3 * i1 + j1, none⟩) (Nat.le_refl _) _, by simpa using hgv⟩, by simp [intOf]; omega⟩
        · have hj3 : j1 = 3 := by omega
          subst hj3
          have HNJ := Lib.hid hnu
          have HBJ := Lib.hid hbl
          clear hnu hbl
          go_wp2_with fail
          exact ⟨⟨i1 + 1, by omega, by go_num, NumsAt.congr HNJ.out (fun j _ => by rw [show 3 * (i1 + 1) = 3 * i1 + 3 by omega]), HBJ.out, hgs2⟩, by simp [intOf]; omega⟩
    · have hi3 : i1 = 3 := by omega
      subst hi3
      clear hlti
      have hUU : NumsAt wi (w.heap.size + 1 + 1 + 1 + 1) 9 (lf [u0, u1, u2, u3, u4, u5, u6, u7, u8]) := NumsAt.congr HNI.out (fun j hj => by
        have hh : j = 0 ∨ j = 1 ∨ j = 2 ∨ j = 3 ∨ j = 4 ∨ j = 5 ∨ j = 6 ∨ j = 7 ∨ j = 8 := by omega
        rcases hh with rfl | rfl | rfl | rfl | rfl | rfl | rfl | rfl | rfl
        · exact HE0.out.symm
        · exact HE1.out.symm
        · exact HE2.out.symm
        · exact HE3.out.symm
        · exact HE4.out.symm
        · exact HE5.out.symm
        · exact HE6.out.symm
        · exact HE7.out.symm
        · exact HE8.out.symm)
      have HBW := Lib.hid (HBT.out.trans (HBI.out.mono (by omega)))
      have HO1 := Lib.hid (HNO.out.below HBI.out (by omega))
      have HT1 := Lib.hid (HNT.out.below HBI.out (by omega))
      have HW1 := Lib.hid (HNW.out.below HBI.out (by omega))
      have HU1 := Lib.hid hUU
      clear hUU HNI HNO HNT HNK HNW HNU HBT
      go_wp2_with fail
      refine (counted14 _).mono ?_
      rintro e w2 ⟨rfl, hb⟩
      have hz2 : wi.heap.size ≤ w2.heap.size := hb.size
      have HB2 := Lib.hid (HBW.out.trans (hb.mono HBW.out.size))
      have HO2 := Lib.hid (HO1.out.below hb (by omega))
      have HT2 := Lib.hid (HT1.out.below hb (by omega))
      have HW2 := Lib.hid (HW1.out.below hb (by omega))
      have HU2 := Lib.hid (HU1.out.below hb (by omega))
      clear hb HO1 HT1 HW1 HU1 HBI HBW
      go_wp2_with fail
      refine (isPrime15_yes _ HP.out _).mono ?_
      rintro e w3 ⟨rfl, hb⟩
      have hz3 : w2.heap.size ≤ w3.heap.size := hb.size
      have HB3 := Lib.hid (HB2.out.trans (hb.mono HB2.out.size))
      have HO3 := Lib.hid (HO2.out.below hb (by omega))
      have HT3 := Lib.hid (HT2.out.below hb (by omega))
      have HW3 := Lib.hid (HW2.out.below hb (by omega))
      have HU3 := Lib.hid (HU2.out.below hb (by omega))
      clear hb HO2 HT2 HW2 HU2 HB2
      have co0 : w3.cell? ⟨w.heap.size, 0, none⟩ = some (.int .i64 o0) := (HO3.out 0 (by omega)).1
      have co1 : w3.cell? ⟨w.heap.size, 1, none⟩ = some (.int .i64 o1) := (HO3.out 1 (by omega)).1
      have co2 : w3.cell? ⟨w.heap.size, 2, none⟩ = some (.int .i64 o2) := (HO3.out 2 (by omega)).1
      have ct0 : w3.cell? ⟨w.heap.size + 1, 0, none⟩ = some (.int .i64 t0) := (HT3.out 0 (by omega)).1
      have ct1 : w3.cell? ⟨w.heap.size + 1, 1, none⟩ = some (.int .i64 t1) := (HT3.out 1 (by omega)).1
      have ct2 : w3.cell? ⟨w.heap.size + 1, 2, none⟩ = some (.int .i64 t2) := (HT3.out 2 (by omega)).1
      have ct3 : w3.cell? ⟨w.heap.size + 1, 3, none⟩ = some (.int .i64 t3) := (HT3.out 3 (by omega)).1
      have ct4 : w3.cell? ⟨w.heap.size + 1, 4, none⟩ = some (.int .i64 t4) := (HT3.out 4 (by omega)).1
      have ct5 : w3.cell? ⟨w.heap.size + 1, 5, none⟩ = some (.int .i64 t5) := (HT3.out 5 (by omega)).1
      have ct6 : w3.cell? ⟨w.heap.size + 1, 6, none⟩ = some (.int .i64 t6) := (HT3.out 6 (by omega)).1
      have ct7 : w3.cell? ⟨w.heap.size + 1, 7, none⟩ = some (.int .i64 t7) := (HT3.out 7 (by omega)).1
      have ct8 : w3.cell? ⟨w.heap.size + 1, 8, none⟩ = some (.int .i64 t8) := (HT3.out 8 (by omega)).1
      have cu0 : w3.cell? ⟨w.heap.size + 1 + 1 + 1 + 1, 0, none⟩ = some (.int .i64 u0) := (HU3.out 0 (by omega)).1
      have cu1 : w3.cell? ⟨w.heap.size + 1 + 1 + 1 + 1, 1, none⟩ = some (.int .i64 u1) := (HU3.out 1 (by omega)).1
      have cu2 : w3.cell? ⟨w.heap.size + 1 + 1 + 1 + 1, 2, none⟩ = some (.int .i64 u2) := (HU3.out 2 (by omega)).1
      have cu3 : w3.cell? ⟨w.heap.size + 1 + 1 + 1 + 1, 3, none⟩ = some (.int .i64 u3) := (HU3.out 3 (by omega)).1
      have cu4 : w3.cell? ⟨w.heap.size + 1 + 1 + 1 + 1, 4, none⟩ = some (.int .i64 u4) := (HU3.out 4 (by omega)).1
      have cu5 : w3.cell? ⟨w.heap.size + 1 + 1 + 1 + 1, 5, none⟩ = some (.int .i64 u5) := (HU3.out 5 (by omega)).1
      have cu6 : w3.cell? ⟨w.heap.size + 1 + 1 + 1 + 1, 6, none⟩ = some (.int .i64 u6) := (HU3.out 6 (by omega)).1
      have cu7 : w3.cell? ⟨w.heap.size + 1 + 1 + 1 + 1, 7, none⟩ = some (.int .i64 u7) := (HU3.out 7 (by omega)).1
      have cu8 : w3.cell? ⟨w.heap.size + 1 + 1 + 1 + 1, 8, none⟩ = some (.int .i64 u8) := (HU3.out 8 (by omega)).1
      go_wp2_with fail
      have hX : ∀ m, m < 5 → ∀ c, c < 9 → (w3.alloc (Obj.cells #[.int .i64 t0, .int .i64 t1, .int .i64 t2, .int .i64 t3, .int .i64 t4, .int .i64 t5, .int .i64 t6, .int .i64 t7, .int .i64 t8, .int .i64 u0, .int .i64 u1, .int .i64 u2, .int .i64 u3, .int .i64 u4, .int .i64 u5, .int .i64 u6, .int .i64 u7, .int .i64 u8, .int .i64 o0, .int .i64 o1, .int .i64 o2, .int .i64 t0, .int .i64 t1, .int .i64 t2, .int .i64 t3, .int .i64 t4, .int .i64 t5, .int .i64 o0, .int .i64 o1, .int .i64 o2, .int .i64 t3, .int .i64 t4, .int .i64 t5, .int .i64 t6, .int .i64 t7, .int .i64 t8, .int .i64 o0, .int .i64 o1, .int .i64 o2, .int .i64 t6, .int .i64 t7, .int .i64 t8, .int .i64 t0, .int .i64 t1, .int .i64 t2] 28)).cell? ⟨w3.heap.size, 9 * m + c, none⟩ = some (.int .i64 (lf ([[t0, t1, t2, t3, t4, t5, t6, t7, t8], [u0, u1, u2, u3, u4, u5, u6, u7, u8], [o0, o1, o2, t0, t1, t2, t3, t4, t5], [o0, o1, o2, t3, t4, t5, t6, t7, t8], [o0, o1, o2, t6, t7, t8, t0, t1, t2]].getD m []) c)) := by
        intro m hm c hc
        have hh : m = 0 ∨ m = 1 ∨ m = 2 ∨ m = 3 ∨ m = 4 := by omega
        have hc9 : c = 0 ∨ c = 1 ∨ c = 2 ∨ c = 3 ∨ c = 4 ∨ c = 5 ∨ c = 6 ∨ c = 7 ∨ c = 8 := by omega
        rcases hh with rfl | rfl | rfl | rfl | rfl <;> rcases hc9 with rfl | rfl | rfl | rfl | rfl | rfl | rfl | rfl | rfl <;> (simp [go_sem, lf]; done)
      have HXX := Lib.hid hX
      have HBS := Lib.hid (ba_c (Below.refl w3.heap.size w3) (Nat.le_refl _) (Obj.cells #[.int .i64 t0, .int .i64 t1, .int .i64 t2, .int .i64 t3, .int .i64 t4, .int .i64 t5, .int .i64 t6, .int .i64 t7, .int .i64 t8, .int .i64 u0, .int .i64 u1, .int .i64 u2, .int .i64 u3, .int .i64 u4, .int .i64 u5, .int .i64 u6, .int .i64 u7, .int .i64 u8, .int .i64 o0, .int .i64 o1, .int .i64 o2, .int .i64 t0, .int .i64 t1, .int .i64 t2, .int .i64 t3, .int .i64 t4, .int .i64 t5, .int .i64 o0, .int .i64 o1, .int .i64 o2, .int .i64 t3, .int .i64 t4, .int .i64 t5, .int .i64 t6, .int .i64 t7, .int .i64 t8, .int .i64 o0, .int .i64 o1, .int .i64 o2, .int .i64 t6, .int .i64 t7, .int .i64 t8, .int .i64 t0, .int .i64 t1, .int .i64 t2] 28))
      have hzs : w3.heap.size < (w3.alloc (Obj.cells #[.int .i64 t0, .int .i64 t1, .int .i64 t2, .int .i64 t3, .int .i64 t4, .int .i64 t5, .int .i64 t6, .int .i64 t7, .int .i64 t8, .int .i64 u0, .int .i64 u1, .int .i64 u2, .int .i64 u3, .int .i64 u4, .int .i64 u5, .int .i64 u6, .int .i64 u7, .int .i64 u8, .int .i64 o0, .int .i64 o1, .int .i64 o2, .int .i64 t0, .int .i64 t1, .int .i64 t2, .int .i64 t3, .int .i64 t4, .int .i64 t5, .int .i64 o0, .int .i64 o1, .int .i64 o2, .int .i64 t3, .int .i64 t4, .int .i64 t5, .int .i64 t6, .int .i64 t7, .int .i64 t8, .int .i64 o0, .int .i64 o1, .int .i64 o2, .int .i64 t6, .int .i64 t7, .int .i64 t8, .int .i64 t0, .int .i64 t1, .int .i64 t2] 28)).heap.size := by simp
      clear hX co0 co1 co2 ct0 ct1 ct2 ct3 ct4 ct5 ct6 ct7 ct8 cu0 cu1 cu2 cu3 cu4 cu5 cu6 cu7 cu8
      generalize w3.alloc (Obj.cells #[.int .i64 t0, .int .i64 t1, .int .i64 t2, .int .i64 t3, .int .i64 t4, .int .i64 t5, .int .i64 t6, .int .i64 t7, .int .i64 t8, .int .i64 u0, .int .i64 u1, .int .i64 u2, .int .i64 u3, .int .i64 u4, .int .i64 u5, .int .i64 u6, .int .i64 u7, .int .i64 u8, .int .i64 o0, .int .i64 o1, .int .i64 o2, .int .i64 t0, .int .i64 t1, .int .i64 t2, .int .i64 t3, .int .i64 t4, .int .i64 t5, .int .i64 o0, .int .i64 o1, .int .i64 o2, .int .i64 t3, .int .i64 t4, .int .i64 t5, .int .i64 t6, .int .i64 t7, .int .i64 t8, .int .i64 o0, .int .i64 o1, .int .i64 o2, .int .i64 t6, .int .i64 t7, .int .i64 t8, .int .i64 t0, .int .i64 t1, .int .i64 t2] 28) = w4 at *
      go_loopw [93] (fun i wr => ∃ m : Nat, m ≤ 5 ∧ i = .int .i64 m ∧ Below w4.heap.size w4 wr ∧ Hid (∀ j, j < m → dX p [[t0, t1, t2, t3, t4, t5, t6, t7, t8], [u0, u1, u2, u3, u4, u5, u6, u7, u8], [o0, o1, o2, t0, t1, t2, t3, t4, t5], [o0, o1, o2, t3, t4, t5, t6, t7, t8], [o0, o1, o2, t6, t7, t8, t0, t1, t2]] j ≠ 0)) (fun i _ => 5 - (intOf i).toNat)
      case atStart => exact ⟨0, by omega, rfl, Below.refl _ _, fun j hj => by omega⟩
      case round =>
        obtain ⟨m, hm, rfl, hbl, hdx⟩ := hrel
        obtain ⟨wm, rfl⟩ : ∃ wo : World, wo = wr := ⟨_, rfl⟩
        by_cases hlt : m < 5
        · have hxm := fun c hc => (hbl.cell (p := ⟨w3.heap.size, 9 * m + c, none⟩) hzs).trans (HXX.out m hlt c hc)
          have x0 : wm.cell? ⟨w3.heap.size, 9 * m, none⟩ = some (.int .i64 (lf ([[t0, t1, t2, t3, t4, t5, t6, t7, t8], [u0, u1, u2, u3, u4, u5, u6, u7, u8], [o0, o1, o2, t0, t1, t2, t3, t4, t5], [o0, o1, o2, t3, t4, t5, t6, t7, t8], [o0, o1, o2, t6, t7, t8, t0, t1, t2]].getD m []) 0)) := hxm 0 (by omega)
          have x1 : wm.cell? ⟨w3.heap.size, 9 * m + 1, none⟩ = some (.int .i64 (lf ([[t0, t1, t2, t3, t4, t5, t6, t7, t8], [u0, u1, u2, u3, u4, u5, u6, u7, u8], [o0, o1, o2, t0, t1, t2, t3, t4, t5], [o0, o1, o2, t3, t4, t5, t6, t7, t8], [o0, o1, o2, t6, t7, t8, t0, t1, t2]].getD m []) 1)) := hxm 1 (by omega)
          have x2 : wm.cell? ⟨w3.heap.size, 9 * m + 2, none⟩ = some (.int .i64 (lf ([[t0, t1, t2, t3, t4, t5, t6, t7, t8], [u0, u1, u2, u3, u4, u5, u6, u7, u8], [o0, o1, o2, t0, t1, t2, t3, t4, t5], [o0, o1, o2, t3, t4, t5, t6, t7, t8], [o0, o1, o2, t6, t7, t8, t0, t1, t2]].getD m []) 2)) := hxm 2 (by omega)
          have x3 : wm.cell? ⟨w3.heap.size, 9 * m + 3, none⟩ = some (.int .i64 (lf ([[t0, t1, t2, t3, t4, t5, t6, t7, t8], [u0, u1, u2, u3, u4, u5, u6, u7, u8], [o0, o1, o2, t0, t1, t2, t3, t4, t5], [o0, o1, o2, t3, t4, t5, t6, t7, t8], [o0, o1, o2, t6, t7, t8, t0, t1, t2]].getD m []) 3)) := hxm 3 (by omega)
          have x4 : wm.cell? ⟨w3.heap.size, 9 * m + 4, none⟩ = some (.int .i64 (lf ([[t0, t1, t2, t3, t4, t5, t6, t7, t8], [u0, u1, u2, u3, u4, u5, u6, u7, u8], [o0, o1, o2, t0, t1, t2, t3, t4, t5], [o0, o1, o2, t3, t4, t5, t6, t7, t8], [o0, o1, o2, t6, t7, t8, t0, t1, t2]].getD m []) 4)) := hxm 4 (by omega)
          have x5 : wm.cell? ⟨w3.heap.size, 9 * m + 5, none⟩ = some (.int .i64 (lf ([[t0, t1, t2, t3, t4, t5, t6, t7, t8], [u0, u1, u2, u3, u4, u5, u6, u7, u8], [o0, o1, o2, t0, t1, t2, t3, t4, t5], [o0, o1, o2, t3, t4, t5, t6, t7, t8], [o0, o1, o2, t6, t7, t8, t0, t1, t2]].getD m []) 5)) := hxm 5 (by omega)
          have x6 : wm.cell? ⟨w3.heap.size, 9 * m + 6, none⟩ = some (.int .i64 (lf ([[t0, t1, t2, t3, t4, t5, t6, t7, t8], [u0, u1, u2, u3, u4, u5, u6, u7, u8], [o0, o1, o2, t0, t1, t2, t3, t4, t5], [o0, o1, o2, t3, t4, t5, t6, t7, t8], [o0, o1, o2, t6, t7, t8, t0, t1, t2]].getD m []) 6)) := hxm 6 (by omega)
          have x7 : wm.cell? ⟨w3.heap.size, 9 * m + 7, none⟩ = some (.int .i64 (lf ([[t0, t1, t2, t3, t4, t5, t6, t7, t8], [u0, u1, u2, u3, u4, u5, u6, u7, u8], [o0, o1, o2, t0, t1, t2, t3, t4, t5], [o0, o1, o2, t3, t4, t5, t6, t7, t8], [o0, o1, o2, t6, t7, t8, t0, t1, t2]].getD m []) 7)) := hxm 7 (by omega)
          have x8 : wm.cell? ⟨w3.heap.size, 9 * m + 8, none⟩ = some (.int .i64 (lf ([[t0, t1, t2, t3, t4, t5, t6, t7, t8], [u0, u1, u2, u3, u4, u5, u6, u7, u8], [o0, o1, o2, t0, t1, t2, t3, t4, t5], [o0, o1, o2, t3, t4, t5, t6, t7, t8], [o0, o1, o2, t6, t7, t8, t0, t1, t2]].getD m []) 8)) := hxm 8 (by omega)
          have hd : dX p [[t0, t1, t2, t3, t4, t5, t6, t7, t8], [u0, u1, u2, u3, u4, u5, u6, u7, u8], [o0, o1, o2, t0, t1, t2, t3, t4, t5], [o0, o1, o2, t3, t4, t5, t6, t7, t8], [o0, o1, o2, t6, t7, t8, t0, t1, t2]] m = d9 p (lf ([[t0, t1, t2, t3, t4, t5, t6, t7, t8], [u0, u1, u2, u3, u4, u5, u6, u7, u8], [o0, o1, o2, t0, t1, t2, t3, t4, t5], [o0, o1, o2, t3, t4, t5, t6, t7, t8], [o0, o1, o2, t6, t7, t8, t0, t1, t2]].getD m []) 0) (lf ([[t0, t1, t2, t3, t4, t5, t6, t7, t8], [u0, u1, u2, u3, u4, u5, u6, u7, u8], [o0, o1, o2, t0, t1, t2, t3, t4, t5], [o0, o1, o2, t3, t4, t5, t6, t7, t8], [o0, o1, o2, t6, t7, t8, t0, t1, t2]].getD m []) 1) (lf ([[t0, t1, t2, t3, t4, t5, t6, t7, t8], [u0, u1, u2, u3, u4, u5, u6, u7, u8], [o0, o1, o2, t0, t1, t2, t3, t4, t5], [o0, o1, o2, t3, t4, t5, t6, t7, t8], [o0, o1, o2, t6, t7, t8, t0, t1, t2]].getD m []) 2) (lf ([[t0, t1, t2, t3, t4, t5, t6, t7, t8], [u0, u1, u2, u3, u4, u5, u6, u7, u8], [o0, o1, o2, t0, t1, t2, t3, t4, t5], [o0, o1, o2, t3, t4, t5, t6, t7, t8], [o0, o1, o2, t6, t7, t8, t0, t1, t2]].getD m []) 3) (lf ([[t0, t1, t2, t3, t4, t5, t6, t7, t8], [u0, u1, u2, u3, u4, u5, u6, u7, u8], [o0, o1, o2, t0, t1, t2, t3, t4, t5], [o0, o1, o2, t3, t4, t5, t6, t7, t8], [o0, o1, o2, t6, t7, t8, t0, t1, t2]].getD m []) 4) (lf ([[t0, t1, t2, t3, t4, t5, t6, t7, t8], [u0, u1, u2, u3, u4, u5, u6, u7, u8], [o0, o1, o2, t0, t1, t2, t3, t4, t5], [o0, o1, o2, t3, t4, t5, t6, t7, t8], [o0, o1, o2, t6, t7, t8, t0, t1, t2]].getD m []) 5) (lf ([[t0, t1, t2, t3, t4, t5, t6, t7, t8], [u0, u1, u2, u3, u4, u5, u6, u7, u8], [o0, o1, o2, t0, t1, t2, t3, t4, t5], [o0, o1, o2, t3, t4, t5, t6, t7, t8], [o0, o1, o2, t6, t7, t8, t0, t1, t2]].getD m []) 6) (lf ([[t0, t1, t2, t3, t4, t5, t6, t7, t8], [u0, u1, u2, u3, u4, u5, u6, u7, u8], [o0, o1, o2, t0, t1, t2, t3, t4, t5], [o0, o1, o2, t3, t4, t5, t6, t7, t8], [o0, o1, o2, t6, t7, t8, t0, t1, t2]].getD m []) 7) (lf ([[t0, t1, t2, t3, t4, t5, t6, t7, t8], [u0, u1, u2, u3, u4, u5, u6, u7, u8], [o0, o1, o2, t0, t1, t2, t3, t4, t5], [o0, o1, o2, t3, t4, t5, t6, t7, t8], [o0, o1, o2, t6, t7, t8, t0, t1, t2]].getD m []) 8) := rfl
          generalize lf ([[t0, t1, t2, t3, t4, t5, t6, t7, t8], [u0, u1, u2, u3, u4, u5, u6, u7, u8], [o0, o1, o2, t0, t1, t2, t3, t4, t5], [o0, o1, o2, t3, t4, t5, t6, t7, t8], [o0, o1, o2, t6, t7, t8, t0, t1, t2]].getD m []) 0 = v0 at *
          generalize lf ([[t0, t1, t2, t3, t4, t5, t6, t7, t8], [u0, u1, u2, u3, u4, u5, u6, u7, u8], [o0, o1, o2, t0, t1, t2, t3, t4, t5], [o0, o1, o2, t3, t4, t5, t6, t7, t8], [o0, o1, o2, t6, t7, t8, t0, t1, t2]].getD m []) 1 = v1 at *
          generalize lf ([[t0, t1, t2, t3, t4, t5, t6, t7, t8], [u0, u1, u2, u3, u4, u5, u6, u7, u8], [o0, o1, o2, t0, t1, t2, t3, t4, t5], [o0, o1, o2, t3, t4, t5, t6, t7, t8], [o0, o1, o2, t6, t7, t8, t0, t1, t2]].getD m []) 2 = v2 at *
          generalize lf ([[t0, t1, t2, t3, t4, t5, t6, t7, t8], [u0, u1, u2, u3, u4, u5, u6, u7, u8], [o0, o1, o2, t0, t1, t2, t3, t4, t5], [o0, o1, o2, t3, t4, t5, t6, t7, t8], [o0, o1, o2, t6, t7, t8, t0, t1, t2]].getD m []) 3 = v3 at *
          generalize lf ([[t0, t1, t2, t3, t4, t5, t6, t7, t8], [u0, u1, u2, u3, u4, u5, u6, u7, u8], [o0, o1, o2, t0, t1, t2, t3, t4, t5], [o0, o1, o2, t3, t4, t5, t6, t7, t8], [o0, o1, o2, t6, t7, t8, t0, t1, t2]].getD m []) 4 = v4 at *
          generalize lf ([[t0, t1, t2, t3, t4, t5, t6, t7, t8], [u0, u1, u2, u3, u4, u5, u6, u7, u8], [o0, o1, o2, t0, t1, t2, t3, t4, t5], [o0, o1, o2, t3, t4, t5, t6, t7, t8], [o0, o1, o2, t6, t7, t8, t0, t1, t2]].getD m []) 5 = v5 at *
          generalize lf ([[t0, t1, t2, t3, t4, t5, t6, t7, t8], [u0, u1, u2, u3, u4, u5, u6, u7, u8], [o0, o1, o2, t0, t1, t2, t3, t4, t5], [o0, o1, o2, t3, t4, t5, t6, t7, t8], [o0, o1, o2, t6, t7, t8, t0, t1, t2]].getD m []) 6 = v6 at *
          generalize lf ([[t0, t1, t2, t3, t4, t5, t6, t7, t8], [u0, u1, u2, u3, u4, u5, u6, u7, u8], [o0, o1, o2, t0, t1, t2, t3, t4, t5], [o0, o1, o2, t3, t4, t5, t6, t7, t8], [o0, o1, o2, t6, t7, t8, t0, t1, t2]].getD m []) 7 = v7 at *
          generalize lf ([[t0, t1, t2, t3, t4, t5, t6, t7, t8], [u0, u1, u2, u3, u4, u5, u6, u7, u8], [o0, o1, o2, t0, t1, t2, t3, t4, t5], [o0, o1, o2, t3, t4, t5, t6, t7, t8], [o0, o1, o2, t6, t7, t8, t0, t1, t2]].getD m []) 8 = v8 at *
          obtain ⟨D, hD⟩ : ∃ D, d9 p v0 v1 v2 v3 v4 v5 v6 v7 v8 = D := ⟨_, rfl⟩
          rw [hD] at hd
          have HD := Lib.hid hD
          have HDD := Lib.hid hd
          have HBL := Lib.hid hbl
          have hzm : w3.heap.size < wm.heap.size := Nat.lt_of_lt_of_le hzs hbl.size
          clear hxm hD hd hbl
          have l1 : (0 : Int) ≤ (m : Int) := by omega
          have l2 : (m : Int) < 5 := by omega
          have el : m * 9 = 9 * m := by omega
          cases hd0 : (D == 0)
          · go_wp2_with fail
            refine (detF16_d _ _ _ _ _ _ _ _ _ _ _ HP.out HD.out _).mono ?_
            rintro e w5 ⟨rfl, hb⟩
            have HB5 := Lib.hid ((ba_c HBL.out (Nat.le_refl _) (Obj.cells #[.int .i64 v0, .int .i64 v1, .int .i64 v2, .int .i64 v3, .int .i64 v4, .int .i64 v5, .int .i64 v6, .int .i64 v7, .int .i64 v8] 28)).trans (hb.mono (by have := HBL.out.size; simp; omega)))
            clear hb
            go_wp2_with fail
            refine ⟨⟨m + 1, by omega, by go_num, HB5.out, ?_⟩, by simp [intOf]; omega⟩
            intro j hj
            rcases Nat.lt_or_ge j m with hx | hx
            · exact hdx.out j hx
            · have : j = m := by omega
              rw [this, HDD.out]; simpa using hd0
          · go_wp2_with fail
            refine (detF16_d _ _ _ _ _ _ _ _ _ _ _ HP.out HD.out _).mono ?_
            rintro e w5 ⟨rfl, hb⟩
            have HB5 := Lib.hid ((ba_c HBL.out (Nat.le_refl _) (Obj.cells #[.int .i64 v0, .int .i64 v1, .int .i64 v2, .int .i64 v3, .int .i64 v4, .int .i64 v5, .int .i64 v6, .int .i64 v7, .int .i64 v8] 28)).trans (hb.mono (by have := HBL.out.size; simp; omega)))
            clear hb
            go_wp2_with fail
            go_ret
            exact ⟨rfl, HB3.out.trans ((HBS.out.trans (HB5.out.mono (by omega))).mono HB3.out.size)⟩
        · have hm5 : m = 5 := by omega
          subst hm5
          have hw3 : w3.heap.size ≤ w4.heap.size := by omega
          have hb34 := HBS.out.trans (hbl.mono (by omega))
          have HT5 := Lib.hid (HT3.out.below hb34 (by omega))
          have HU5 := Lib.hid (HU3.out.below hb34 (by omega))
          have HW5 := Lib.hid (HW3.out.below hb34 (by omega))
          have HB5 := Lib.hid (HB3.out.trans (hb34.mono HB3.out.size))
          have hz5 : w3.heap.size ≤ wm.heap.size := hb34.size
          have LAW := Lib.hid (des_law HP.out a0 a1 a2 a3 a4 a5 a6 a7 a8 HE0.out HE1.out HE2.out HE3.out HE4.out HE5.out HE6.out HE7.out HE8.out (hdx.out 1 (by omega)) (hdx.out 2 (by omega)) (hdx.out 3 (by omega)) (hdx.out 4 (by omega)))
          clear hb34 hbl hdx HXX HBS HT3 HU3 HW3 HO3 HB3 HE0 HE1 HE2 HE3 HE4 HE5 HE6 HE7 HE8
          rw [show ((5 : Nat) : Int) = 5 from rfl]
          go_wp2_with fail
          have hN0 : NumsAt (wm.alloc (Obj.cells #[.int .i64 0, .int .i64 0, .int .i64 0, .int .i64 0, .int .i64 0, .int .i64 0, .int .i64 0, .int .i64 0, .int .i64 0] 28)) wm.heap.size 9 (fun _ => 0) := by
            intro j hj
            have hh : j = 0 ∨ j = 1 ∨ j = 2 ∨ j = 3 ∨ j = 4 ∨ j = 5 ∨ j = 6 ∨ j = 7 ∨ j = 8 := by omega
            rcases hh with rfl | rfl | rfl | rfl | rfl | rfl | rfl | rfl | rfl <;> simp [go_sem]
          have hba := ba_c (Below.refl wm.heap.size wm) (Nat.le_refl _) (Obj.cells #[.int .i64 0, .int .i64 0, .int .i64 0, .int .i64 0, .int .i64 0, .int .i64 0, .int .i64 0, .int .i64 0, .int .i64 0] 28)
          have HT6 := Lib.hid (HT5.out.below hba (by omega))
          have HU6 := Lib.hid (HU5.out.below hba (by omega))
          have HW6 := Lib.hid (HW5.out.below hba (by omega))
          have HB6 := Lib.hid (ba_c HB5.out (Nat.le_refl _) (Obj.cells #[.int .i64 0, .int .i64 0, .int .i64 0, .int .i64 0, .int .i64 0, .int .i64 0, .int .i64 0, .int .i64 0, .int .i64 0] 28))
          have HN0 := Lib.hid hN0
          have hz6 : wm.heap.size < (wm.alloc (Obj.cells #[.int .i64 0, .int .i64 0, .int .i64 0, .int .i64 0, .int .i64 0, .int .i64 0, .int .i64 0, .int .i64 0, .int .i64 0] 28)).heap.size := by simp
          clear hN0 hba HT5 HU5 HW5 HB5
          generalize wm.alloc (Obj.cells #[.int .i64 0, .int .i64 0, .int .i64 0, .int .i64 0, .int .i64 0, .int .i64 0, .int .i64 0, .int .i64 0, .int .i64 0] 28) = w6 at *
          go_loopw [107] (fun i wr => ∃ i1 : Nat, i1 ≤ 3 ∧ i = .int .i64 i1 ∧ NumsAt wr wm.heap.size 9 (fun j => if j < 3 * i1 then (fun j => cmp (jm p [t0, t1, t2, t3, t4, t5, t6, t7, t8] [u0, u1, u2, u3, u4, u5, u6, u7, u8] (j / 3)) (j % 3)) j else 0) ∧ Below wm.heap.size w6 wr ∧ wm.heap.size < wr.heap.size ∧ Hid (∀ j, j < i1 → frm p [t0, t1, t2, t3, t4, t5, t6, t7, t8] [u0, u1, u2, u3, u4, u5, u6, u7, u8] j = false)) (fun i _ => 3 - (intOf i).toNat)
          case atStart => exact ⟨0, by omega, rfl, HN0.out.congr (fun j _ => by rw [if_neg (by omega)]), Below.refl _ _, hz6, fun j hj => by omega⟩
          case round =>
            obtain ⟨i1, hi1, rfl, hnm, hbl, hgs, hfr⟩ := hrel
            obtain ⟨wj, rfl⟩ : ∃ wo : World, wo = wr := ⟨_, rfl⟩
            have HNM := Lib.hid hnm
            have HBL := Lib.hid hbl
            by_cases hlt : i1 < 3
            · have l1 : (0 : Int) ≤ (i1 : Int) := by omega
              have l2 : (i1 : Int) < 3 := by omega
              obtain ⟨jx, hjx⟩ : ∃ jx, jx = (i1 + 1) % 3 := ⟨_, rfl⟩
              have hmd : ((i1 : Int) + 1).tmod 3 = (jx : Int) := by rw [Int.tmod_eq_emod_of_nonneg (by omega)]; omega
              have hjx3 : jx < 3 := by omega
              have r1 : (0 : Int) ≤ (jx : Int) := by omega
              have r2 : (jx : Int) < 3 := by omega
              have el : i1 * 3 = 3 * i1 := by omega
              have rl : jx * 3 = 3 * jx := by omega
              have HTJ := Lib.hid (HT6.out.below hbl (by omega))
              have HUJ := Lib.hid (HU6.out.below hbl (by omega))
              obtain ⟨s1, s2, s3, s4⟩ := LAW.out.1 i1 hlt
              rw [← hjx] at s1 s2
              obtain ⟨⟨x0, x1, x2⟩, hx⟩ : ∃ u, rw3 [t0, t1, t2, t3, t4, t5, t6, t7, t8] i1 = u := ⟨_, rfl⟩
              obtain ⟨⟨y0, y1, y2⟩, hy⟩ : ∃ u, rw3 [t0, t1, t2, t3, t4, t5, t6, t7, t8] jx = u := ⟨_, rfl⟩
              obtain ⟨⟨f0, f1, f2⟩, hf⟩ : ∃ u, rw3 [u0, u1, u2, u3, u4, u5, u6, u7, u8] i1 = u := ⟨_, rfl⟩
              obtain ⟨⟨g0, g1, g2⟩, hg⟩ : ∃ u, rw3 [u0, u1, u2, u3, u4, u5, u6, u7, u8] jx = u := ⟨_, rfl⟩
              obtain ⟨⟨b0, b1, b2⟩, hb⟩ : ∃ u, ja p [t0, t1, t2, t3, t4, t5, t6, t7, t8] i1 = u := ⟨_, rfl⟩
              obtain ⟨⟨d0, d1, d2⟩, hd⟩ : ∃ u, ja p [u0, u1, u2, u3, u4, u5, u6, u7, u8] i1 = u := ⟨_, rfl⟩
              have xc0 : wj.cell? ⟨w.heap.size + 1, 3 * i1, none⟩ = some (.int .i64 x0) := by have h0 := (HTJ.out (3 * i1) (by omega)).1; rw [show lf [t0, t1, t2, t3, t4, t5, t6, t7, t8] (3 * i1) = x0 from congrArg (fun h => h.1) hx] at h0; exact h0
              have xc1 : wj.cell? ⟨w.heap.size + 1, 3 * i1 + 1, none⟩ = some (.int .i64 x1) := by have h0 := (HTJ.out (3 * i1 + 1) (by omega)).1; rw [show lf [t0, t1, t2, t3, t4, t5, t6, t7, t8] (3 * i1 + 1) = x1 from congrArg (fun h => h.2.1) hx] at h0; exact h0
              have xc2 : wj.cell? ⟨w.heap.size + 1, 3 * i1 + 2, none⟩ = some (.int .i64 x2) := by have h0 := (HTJ.out (3 * i1 + 2) (by omega)).1; rw [show lf [t0, t1, t2, t3, t4, t5, t6, t7, t8] (3 * i1 + 2) = x2 from congrArg (fun h => h.2.2) hx] at h0; exact h0
              have yc0 : wj.cell? ⟨w.heap.size + 1, 3 * jx, none⟩ = some (.int .i64 y0) := by have h0 := (HTJ.out (3 * jx) (by omega)).1; rw [show lf [t0, t1, t2, t3, t4, t5, t6, t7, t8] (3 * jx) = y0 from congrArg (fun h => h.1) hy] at h0; exact h0
              have yc1 : wj.cell? ⟨w.heap.size + 1, 3 * jx + 1, none⟩ = some (.int .i64 y1) := by have h0 := (HTJ.out (3 * jx + 1) (by omega)).1; rw [show lf [t0, t1, t2, t3, t4, t5, t6, t7, t8] (3 * jx + 1) = y1 from congrArg (fun h => h.2.1) hy] at h0; exact h0
              have yc2 : wj.cell? ⟨w.heap.size + 1, 3 * jx + 2, none⟩ = some (.int .i64 y2) := by have h0 := (HTJ.out (3 * jx + 2) (by omega)).1; rw [show lf [t0, t1, t2, t3, t4, t5, t6, t7, t8] (3 * jx + 2) = y2 from congrArg (fun h => h.2.2) hy] at h0; exact h0
              have fc0 : wj.cell? ⟨w.heap.size + 1 + 1 + 1 + 1, 3 * i1, none⟩ = some (.int .i64 f0) := by have h0 := (HUJ.out (3 * i1) (by omega)).1; rw [show lf [u0, u1, u2, u3, u4, u5, u6, u7, u8] (3 * i1) = f0 from congrArg (fun h => h.1) hf] at h0; exact h0
              have fc1 : wj.cell? ⟨w.heap.size + 1 + 1 + 1 + 1, 3 * i1 + 1, none⟩ = some (.int .i64 f1) := by have h0 := (HUJ.out (3 * i1 + 1) (by omega)).1; rw [show lf [u0, u1, u2, u3, u4, u5, u6, u7, u8] (3 * i1 + 1) = f1 from congrArg (fun h => h.2.1) hf] at h0; exact h0
              have fc2 : wj.cell? ⟨w.heap.size + 1 + 1 + 1 + 1, 3 * i1 + 2, none⟩ = some (.int .i64 f2) := by have h0 := (HUJ.out (3 * i1 + 2) (by omega)).1; rw [show lf [u0, u1, u2, u3, u4, u5, u6, u7, u8] (3 * i1 + 2) = f2 from congrArg (fun h => h.2.2) hf] at h0; exact h0
              have gc0 : wj.cell? ⟨w.heap.size + 1 + 1 + 1 + 1, 3 * jx, none⟩ = some (.int .i64 g0) := by have h0 := (HUJ.out (3 * jx) (by omega)).1; rw [show lf [u0, u1, u2, u3, u4, u5, u6, u7, u8] (3 * jx) = g0 from congrArg (fun h => h.1) hg] at h0; exact h0
              have gc1 : wj.cell? ⟨w.heap.size + 1 + 1 + 1 + 1, 3 * jx + 1, none⟩ = some (.int .i64 g1) := by have h0 := (HUJ.out (3 * jx + 1) (by omega)).1; rw [show lf [u0, u1, u2, u3, u4, u5, u6, u7, u8] (3 * jx + 1) = g1 from congrArg (fun h => h.2.1) hg] at h0; exact h0
              have gc2 : wj.cell? ⟨w.heap.size + 1 + 1 + 1 + 1, 3 * jx + 2, none⟩ = some (.int .i64 g2) := by have h0 := (HUJ.out (3 * jx + 2) (by omega)).1; rw [show lf [u0, u1, u2, u3, u4, u5, u6, u7, u8] (3 * jx + 2) = g2 from congrArg (fun h => h.2.2) hg] at h0; exact h0
              have hfm : frm p [t0, t1, t2, t3, t4, t5, t6, t7, t8] [u0, u1, u2, u3, u4, u5, u6, u7, u8] i1 = fr p (b0, b1, b2) (d0, d1, d2) := by unfold frm; rw [hb, hd]
              have hjm : jm p [t0, t1, t2, t3, t4, t5, t6, t7, t8] [u0, u1, u2, u3, u4, u5, u6, u7, u8] i1 = jn p (b0, b1, b2) (d0, d1, d2) := by unfold jm; rw [hb, hd]
              rw [hx, hy, hb] at s1
              rw [hf, hg, hd] at s2
              rw [hb] at s3
              rw [hd] at s4
              have S1 := Lib.hid s1
              have S2 := Lib.hid s2
              have S3 := Lib.hid s3
              have S4 := Lib.hid s4
              have HFM := Lib.hid hfm
              have HJM := Lib.hid hjm
              clear s1 s2 s3 s4 hx hy hf hg hb hd hfm hjm hjx hnm hbl
              go_upto_region 24 with fail
              go_cut [19, 20] (fun s er wx => (∃ g, s = .pointer (some ⟨g, 0, none⟩) ∧ g < wx.heap.size ∧ wx.cell? ⟨g, 0, none⟩ = some (.int .i64 b0) ∧ wx.cell? ⟨g, 1, none⟩ = some (.int .i64 b1) ∧ wx.cell? ⟨g, 2, none⟩ = some (.int .i64 b2)) ∧ er = .int .i64 0 ∧ Below wj.heap.size wj wx)
              case first =>
                refine wp_region_T (Below (wj.heap.size) (wj)) 12 (by kernel_rfl) ?_ ?_
                · exact Below.drew (Below.refl _ _)
                intro HS
                refine wpT_takeP 0 (v := ?_) rfl (by kernel_rfl) (fun _ _ _ h => h) (by rfl) ?_ ?_ ?_
                rotate_left
                · (intro W; go_simp; first | done | with_reducible rfl)
                · (first | (intro _; with_reducible assumption) | (intro h0; cases h0))
                try simp only [Act.put, List.getElem_toArray, List.getElem_cons_zero, List.getElem_cons_succ, List.setIfInBounds_toArray, List.set_cons_zero, List.set_cons_succ]
                refine wpT_takeP 1 (v := ?_) rfl (by kernel_rfl) (fun _ _ _ h => h) (by rfl) ?_ ?_ ?_
                rotate_left
                · (intro W; go_simp; first | done | with_reducible rfl)
                · (first | (intro _; with_reducible assumption) | (intro h0; cases h0))
                try simp only [Act.put, List.getElem_toArray, List.getElem_cons_zero, List.getElem_cons_succ, List.setIfInBounds_toArray, List.set_cons_zero, List.set_cons_succ]
                refine wpT_takeP 2 (v := ?_) rfl (by kernel_rfl) (fun _ _ _ h => h) (by rfl) ?_ ?_ ?_
                rotate_left
                · (intro W; go_simp; first | done | with_reducible rfl)
                · (first | (intro _; with_reducible assumption) | (intro h0; cases h0))
                try simp only [Act.put, List.getElem_toArray, List.getElem_cons_zero, List.getElem_cons_succ, List.setIfInBounds_toArray, List.set_cons_zero, List.set_cons_succ]
                refine wpT_takeP 4 (v := ?_) rfl (by kernel_rfl) (fun _ _ _ h => h) (by rfl) ?_ ?_ ?_
                rotate_left
                · (intro W; go_simp; first | done | with_reducible rfl)
                · (first | (intro _; with_reducible assumption) | (intro h0; cases h0))
                try simp only [Act.put, List.getElem_toArray, List.getElem_cons_zero, List.getElem_cons_succ, List.setIfInBounds_toArray, List.set_cons_zero, List.set_cons_succ]
                refine wpT_takeP 5 (v := ?_) rfl (by kernel_rfl) (fun _ _ _ h => h) (by rfl) ?_ ?_ ?_
                rotate_left
                · (intro W; go_simp; first | done | with_reducible rfl)
                · (first | (intro _; with_reducible assumption) | (intro h0; cases h0))
                try simp only [Act.put, List.getElem_toArray, List.getElem_cons_zero, List.getElem_cons_succ, List.setIfInBounds_toArray, List.set_cons_zero, List.set_cons_succ]
                refine wpT_take 3 30 (v := ?_) rfl (by kernel_rfl) (fun _ _ _ h => h) (by rfl) ?_ HS ?_
                rotate_left
                · (intro W hW; have hq0 := fun o => hW.cell (p := ⟨w.heap.size + 1, o, none⟩) (by simp <;> omega); go_simp; first | done | with_reducible rfl)
                try simp only [Act.put, List.getElem_toArray, List.getElem_cons_zero, List.getElem_cons_succ, List.setIfInBounds_toArray, List.set_cons_zero, List.set_cons_succ]
                refine wpT_take 6 30 (v := ?_) rfl (by kernel_rfl) (fun _ _ _ h => h) (by rfl) ?_ HS ?_
                rotate_left
                · (intro W hW; have hq0 := fun o => hW.cell (p := ⟨w.heap.size + 1, o, none⟩) (by simp <;> omega); go_simp; first | done | with_reducible rfl)
                try simp only [Act.put, List.getElem_toArray, List.getElem_cons_zero, List.getElem_cons_succ, List.setIfInBounds_toArray, List.set_cons_zero, List.set_cons_succ]
                refine wpT_two 7 11 (by kernel_rfl) rfl rfl (fun K hK => ?_) (fun K hK => ?_)
                · skip
                  go_simp
                  refine (Join17_is _ _ _ _ _ _ _ _ _ _ HP.out S1.out _).mono ?_
                  rintro e v1 ⟨rfl, hb⟩
                  have HS := Below.trans HS (hb.mono HS.size)
                  have HSV := HS
                  clear hb
                  refine hK.out _ _ ?_ ?_
                  · (first | (intro _; with_reducible assumption) | (intro h0; cases h0))
                  clear hK K
                  try simp only [Act.put, List.getElem_toArray, List.getElem_cons_zero, List.getElem_cons_succ, List.setIfInBounds_toArray, List.set_cons_zero, List.set_cons_succ]
                  refine wpT_takeP 8 (v := ?_) rfl (by kernel_rfl) (fun _ _ _ h => h) (by rfl) ?_ ?_ ?_
                  rotate_left
                  · (intro W; go_simp; first | done | with_reducible rfl)
                  · (first | (intro _; with_reducible assumption) | (intro h0; cases h0))
                  try simp only [Act.put, List.getElem_toArray, List.getElem_cons_zero, List.getElem_cons_succ, List.setIfInBounds_toArray, List.set_cons_zero, List.set_cons_succ]
                  refine wpT_takeP 9 (v := ?_) rfl (by kernel_rfl) (fun _ _ _ h => h) (by rfl) ?_ ?_ ?_
                  rotate_left
                  · (intro W; go_simp; first | done | with_reducible rfl)
                  · (first | (intro _; with_reducible assumption) | (intro h0; cases h0))
                  try simp only [Act.put, List.getElem_toArray, List.getElem_cons_zero, List.getElem_cons_succ, List.setIfInBounds_toArray, List.set_cons_zero, List.set_cons_succ]
                  refine wpT_takeP 10 (v := ?_) rfl (by kernel_rfl) (fun _ _ _ h => h) (by rfl) ?_ ?_ ?_
                  rotate_left
                  · (intro W; go_simp; first | done | with_reducible rfl)
                  · (first | (intro _; with_reducible assumption) | (intro h0; cases h0))
                  try simp only [Act.put, List.getElem_toArray, List.getElem_cons_zero, List.getElem_cons_succ, List.setIfInBounds_toArray, List.set_cons_zero, List.set_cons_succ]
                  refine wpT_one 11 (by kernel_rfl) rfl (fun K hK => ?_)
                  go_simp
                  have HZ : Zc (v1.alloc (Obj.cells #[.int .i64 0, .int .i64 0, .int .i64 0] 27)) v1.heap.size := Zc.new (v1) 27
                  have HS := ba_c HS (Nat.le_refl _) (Obj.cells #[.int .i64 0, .int .i64 0, .int .i64 0] 27)
                  refine hK.out _ _ ?_ ?_
                  · (intro _; with_reducible exact HS)
                  clear hK K
                  try simp only [Act.put, List.getElem_toArray, List.getElem_cons_zero, List.getElem_cons_succ, List.setIfInBounds_toArray, List.set_cons_zero, List.set_cons_succ]
                  obtain ⟨z0, ⟨z1, z2, z3⟩, z4, z5, z6⟩ := HZ
                  refine wpT_one 12 (by kernel_rfl) rfl (fun K hK => ?_)
                  go_simp
                  refine hK.out _ _ ?_ ?_
                  · (first | (intro _; with_reducible assumption) | (intro h0; cases h0; done) | (intro _; simp [go_sem]))
                  clear hK K
                  try simp only [Act.put, List.getElem_toArray, List.getElem_cons_zero, List.getElem_cons_succ, List.setIfInBounds_toArray, List.set_cons_zero, List.set_cons_succ]
                  refine wpT_one 13 (by kernel_rfl) rfl (fun K hK => ?_)
                  go_simp
                  refine hK.out _ _ ?_ ?_
                  · (first | (intro _; with_reducible assumption) | (intro h0; cases h0; done) | (intro _; simp [go_sem]))
                  clear hK K
                  try simp only [Act.put, List.getElem_toArray, List.getElem_cons_zero, List.getElem_cons_succ, List.setIfInBounds_toArray, List.set_cons_zero, List.set_cons_succ]
                  refine wpT_done (by kernel_rfl) ?_ _
                  go_wp2_with fail
                  go_meet
                  refine ⟨⟨v1.heap.size, rfl, ?_, ?_, ?_, ?_⟩, rfl, ?_⟩
                  · first | (simp [go_sem]; done) | (simpa using z0)
                  · simp [go_sem, z1, z2, z3]
                  · simp [go_sem, z1, z2, z3]
                  · simp [go_sem, z1, z2, z3]
                  · (have hsz1 : wj.heap.size ≤ v1.heap.size := HSV.size); go_grown
                · skip
                  go_simp
                  have HZ : Zc (wj.alloc (Obj.cells #[.int .i64 0, .int .i64 0, .int .i64 0] 27)).drew wj.heap.size := Zc.new (wj) 27
                  have HS : Below (wj.heap.size) (wj) (wj.alloc (Obj.cells #[.int .i64 0, .int .i64 0, .int .i64 0] 27)).drew := Below.drew (ba_c (Below.refl _ _) (Nat.le_refl _) _)
                  refine hK.out _ _ ?_ ?_
                  · (intro _; with_reducible exact HS)
                  clear hK K
                  try simp only [Act.put, List.getElem_toArray, List.getElem_cons_zero, List.getElem_cons_succ, List.setIfInBounds_toArray, List.set_cons_zero, List.set_cons_succ]
                  refine wpT_one 7 (by kernel_rfl) rfl (fun K hK => ?_)
                  go_simp
                  refine (Join17_is _ _ _ _ _ _ _ _ _ _ HP.out S1.out _).mono ?_
                  rintro e v1 ⟨rfl, hb⟩
                  have HZ := Zc.below HZ hb HZ.1
                  have HS := Below.trans HS (hb.mono HS.size)
                  have HSV := HS
                  clear hb
                  refine hK.out _ _ ?_ ?_
                  · (first | (intro _; with_reducible assumption) | (intro h0; cases h0))
                  clear hK K
                  try simp only [Act.put, List.getElem_toArray, List.getElem_cons_zero, List.getElem_cons_succ, List.setIfInBounds_toArray, List.set_cons_zero, List.set_cons_succ]
                  refine wpT_takeP 8 (v := ?_) rfl (by kernel_rfl) (fun _ _ _ h => h) (by rfl) ?_ ?_ ?_
                  rotate_left
                  · (intro W; go_simp; first | done | with_reducible rfl)
                  · (first | (intro _; with_reducible assumption) | (intro h0; cases h0))
                  try simp only [Act.put, List.getElem_toArray, List.getElem_cons_zero, List.getElem_cons_succ, List.setIfInBounds_toArray, List.set_cons_zero, List.set_cons_succ]
                  refine wpT_takeP 9 (v := ?_) rfl (by kernel_rfl) (fun _ _ _ h => h) (by rfl) ?_ ?_ ?_
                  rotate_left
                  · (intro W; go_simp; first | done | with_reducible rfl)
                  · (first | (intro _; with_reducible assumption) | (intro h0; cases h0))
                  try simp only [Act.put, List.getElem_toArray, List.getElem_cons_zero, List.getElem_cons_succ, List.setIfInBounds_toArray, List.set_cons_zero, List.set_cons_succ]
                  refine wpT_takeP 10 (v := ?_) rfl (by kernel_rfl) (fun _ _ _ h => h) (by rfl) ?_ ?_ ?_
                  rotate_left
                  · (intro W; go_simp; first | done | with_reducible rfl)
                  · (first | (intro _; with_reducible assumption) | (intro h0; cases h0))
                  try simp only [Act.put, List.getElem_toArray, List.getElem_cons_zero, List.getElem_cons_succ, List.setIfInBounds_toArray, List.set_cons_zero, List.set_cons_succ]
                  obtain ⟨z0, ⟨z1, z2, z3⟩, z4, z5, z6⟩ := HZ
                  refine wpT_one 12 (by kernel_rfl) rfl (fun K hK => ?_)
                  go_simp
                  refine hK.out _ _ ?_ ?_
                  · (first | (intro _; with_reducible assumption) | (intro h0; cases h0; done) | (intro _; simp [go_sem]))
                  clear hK K
                  try simp only [Act.put, List.getElem_toArray, List.getElem_cons_zero, List.getElem_cons_succ, List.setIfInBounds_toArray, List.set_cons_zero, List.set_cons_succ]
                  refine wpT_one 13 (by kernel_rfl) rfl (fun K hK => ?_)
                  go_simp
                  refine hK.out _ _ ?_ ?_
                  · (first | (intro _; with_reducible assumption) | (intro h0; cases h0; done) | (intro _; simp [go_sem]))
                  clear hK K
                  try simp only [Act.put, List.getElem_toArray, List.getElem_cons_zero, List.getElem_cons_succ, List.setIfInBounds_toArray, List.set_cons_zero, List.set_cons_succ]
                  refine wpT_done (by kernel_rfl) ?_ _
                  go_wp2_with fail
                  go_meet
                  refine ⟨⟨wj.heap.size, rfl, ?_, ?_, ?_, ?_⟩, rfl, ?_⟩
                  · first | (simp [go_sem]; done) | (simpa using z0)
                  · simp [go_sem, z1, z2, z3]
                  · simp [go_sem, z1, z2, z3]
                  · simp [go_sem, z1, z2, z3]
                  · (have hsz1 : wj.heap.size ≤ v1.heap.size := HSV.size); go_grown
              case rest =>
                obtain ⟨⟨ga, rfl, hga, z0, z1, z2⟩, rfl, hbc⟩ := hcut
                obtain ⟨w7, rfl⟩ : ∃ wo : World, wo = wc := ⟨_, rfl⟩
                have HN7 := Lib.hid (HNM.out.below hbc hgs)
                have HB7 := Lib.hid (HBL.out.trans (hbc.mono (by have := HBL.out.size; omega)))
                have hz7 : wj.heap.size ≤ w7.heap.size := hbc.size
                have hgs7 : wm.heap.size < w7.heap.size := by omega
                have fk0 : w7.cell? ⟨w.heap.size + 1 + 1 + 1 + 1, 3 * i1, none⟩ = some (.int .i64 f0) := by rw [hbc.cell (p := ⟨w.heap.size + 1 + 1 + 1 + 1, 3 * i1, none⟩) (by simp <;> omega)]; exact fc0
                have fk1 : w7.cell? ⟨w.heap.size + 1 + 1 + 1 + 1, 3 * i1 + 1, none⟩ = some (.int .i64 f1) := by rw [hbc.cell (p := ⟨w.heap.size + 1 + 1 + 1 + 1, 3 * i1 + 1, none⟩) (by simp <;> omega)]; exact fc1
                have fk2 : w7.cell? ⟨w.heap.size + 1 + 1 + 1 + 1, 3 * i1 + 2, none⟩ = some (.int .i64 f2) := by rw [hbc.cell (p := ⟨w.heap.size + 1 + 1 + 1 + 1, 3 * i1 + 2, none⟩) (by simp <;> omega)]; exact fc2
                have gk0 : w7.cell? ⟨w.heap.size + 1 + 1 + 1 + 1, 3 * jx, none⟩ = some (.int .i64 g0) := by rw [hbc.cell (p := ⟨w.heap.size + 1 + 1 + 1 + 1, 3 * jx, none⟩) (by simp <;> omega)]; exact gc0
                have gk1 : w7.cell? ⟨w.heap.size + 1 + 1 + 1 + 1, 3 * jx + 1, none⟩ = some (.int .i64 g1) := by rw [hbc.cell (p := ⟨w.heap.size + 1 + 1 + 1 + 1, 3 * jx + 1, none⟩) (by simp <;> omega)]; exact gc1
                have gk2 : w7.cell? ⟨w.heap.size + 1 + 1 + 1 + 1, 3 * jx + 2, none⟩ = some (.int .i64 g2) := by rw [hbc.cell (p := ⟨w.heap.size + 1 + 1 + 1 + 1, 3 * jx + 2, none⟩) (by simp <;> omega)]; exact gc2
                clear hbc
                go_upto_region 25 with fail
                go_cut [21, 22] (fun s er wx => (∃ g, s = .pointer (some ⟨g, 0, none⟩) ∧ g < wx.heap.size ∧ wx.cell? ⟨g, 0, none⟩ = some (.int .i64 d0) ∧ wx.cell? ⟨g, 1, none⟩ = some (.int .i64 d1) ∧ wx.cell? ⟨g, 2, none⟩ = some (.int .i64 d2)) ∧ er = .int .i64 0 ∧ Below w7.heap.size w7 wx)
                case first =>
                  refine wp_region_T (Below (w7.heap.size) (w7)) 12 (by kernel_rfl) ?_ ?_
                  · exact Below.drew (Below.refl _ _)
                  intro HS
                  refine wpT_takeP 0 (v := ?_) rfl (by kernel_rfl) (fun _ _ _ h => h) (by rfl) ?_ ?_ ?_
                  rotate_left
                  · (intro W; go_simp; first | done | with_reducible rfl)
                  · (first | (intro _; with_reducible assumption) | (intro h0; cases h0))
                  try simp only [Act.put, List.getElem_toArray, List.getElem_cons_zero, List.getElem_cons_succ, List.setIfInBounds_toArray, List.set_cons_zero, List.set_cons_succ]
                  refine wpT_takeP 1 (v := ?_) rfl (by kernel_rfl) (fun _ _ _ h => h) (by rfl) ?_ ?_ ?_
                  rotate_left
                  · (intro W; go_simp; first | done | with_reducible rfl)
                  · (first | (intro _; with_reducible assumption) | (intro h0; cases h0))
                  try simp only [Act.put, List.getElem_toArray, List.getElem_cons_zero, List.getElem_cons_succ, List.setIfInBounds_toArray, List.set_cons_zero, List.set_cons_succ]
                  refine wpT_takeP 2 (v := ?_) rfl (by kernel_rfl) (fun _ _ _ h => h) (by rfl) ?_ ?_ ?_
                  rotate_left
                  · (intro W; go_simp; first | done | with_reducible rfl)
                  · (first | (intro _; with_reducible assumption) | (intro h0; cases h0))
                  try simp only [Act.put, List.getElem_toArray, List.getElem_cons_zero, List.getElem_cons_succ, List.setIfInBounds_toArray, List.set_cons_zero, List.set_cons_succ]
                  refine wpT_takeP 4 (v := ?_) rfl (by kernel_rfl) (fun _ _ _ h => h) (by rfl) ?_ ?_ ?_
                  rotate_left
                  · (intro W; go_simp; first | done | with_reducible rfl)
                  · (first | (intro _; with_reducible assumption) | (intro h0; cases h0))
                  try simp only [Act.put, List.getElem_toArray, List.getElem_cons_zero, List.getElem_cons_succ, List.setIfInBounds_toArray, List.set_cons_zero, List.set_cons_succ]
                  refine wpT_takeP 5 (v := ?_) rfl (by kernel_rfl) (fun _ _ _ h => h) (by rfl) ?_ ?_ ?_
                  rotate_left
                  · (intro W; go_simp; first | done | with_reducible rfl)
                  · (first | (intro _; with_reducible assumption) | (intro h0; cases h0))
                  try simp only [Act.put, List.getElem_toArray, List.getElem_cons_zero, List.getElem_cons_succ, List.setIfInBounds_toArray, List.set_cons_zero, List.set_cons_succ]
                  refine wpT_take 3 30 (v := ?_) rfl (by kernel_rfl) (fun _ _ _ h => h) (by rfl) ?_ HS ?_
                  rotate_left
                  · (intro W hW; have hq0 := fun o => hW.cell (p := ⟨w.heap.size + 1 + 1 + 1 + 1, o, none⟩) (by simp <;> omega); go_simp; first | done | with_reducible rfl)
                  try simp only [Act.put, List.getElem_toArray, List.getElem_cons_zero, List.getElem_cons_succ, List.setIfInBounds_toArray, List.set_cons_zero, List.set_cons_succ]
                  refine wpT_take 6 30 (v := ?_) rfl (by kernel_rfl) (fun _ _ _ h => h) (by rfl) ?_ HS ?_
                  rotate_left
                  · (intro W hW; have hq0 := fun o => hW.cell (p := ⟨w.heap.size + 1 + 1 + 1 + 1, o, none⟩) (by simp <;> omega); go_simp; first | done | with_reducible rfl)
                  try simp only [Act.put, List.getElem_toArray, List.getElem_cons_zero, List.getElem_cons_succ, List.setIfInBounds_toArray, List.set_cons_zero, List.set_cons_succ]
                  refine wpT_two 7 11 (by kernel_rfl) rfl rfl (fun K hK => ?_) (fun K hK => ?_)
                  · skip
                    go_simp
                    refine (Join17_is _ _ _ _ _ _ _ _ _ _ HP.out S2.out _).mono ?_
                    rintro e v1 ⟨rfl, hb⟩
                    have HS := Below.trans HS (hb.mono HS.size)
                    have HSV := HS
                    clear hb
                    refine hK.out _ _ ?_ ?_
                    · (first | (intro _; with_reducible assumption) | (intro h0; cases h0))
                    clear hK K
                    try simp only [Act.put, List.getElem_toArray, List.getElem_cons_zero, List.getElem_cons_succ, List.setIfInBounds_toArray, List.set_cons_zero, List.set_cons_succ]
                    refine wpT_takeP 8 (v := ?_) rfl (by kernel_rfl) (fun _ _ _ h => h) (by rfl) ?_ ?_ ?_
                    rotate_left
                    · (intro W; go_simp; first | done | with_reducible rfl)
                    · (first | (intro _; with_reducible assumption) | (intro h0; cases h0))
                    try simp only [Act.put, List.getElem_toArray, List.getElem_cons_zero, List.getElem_cons_succ, List.setIfInBounds_toArray, List.set_cons_zero, List.set_cons_succ]
                    refine wpT_takeP 9 (v := ?_) rfl (by kernel_rfl) (fun _ _ _ h => h) (by rfl) ?_ ?_ ?_
                    rotate_left
                    · (intro W; go_simp; first | done | with_reducible rfl)
                    · (first | (intro _; with_reducible assumption) | (intro h0; cases h0))
                    try simp only [Act.put, List.getElem_toArray, List.getElem_cons_zero, List.getElem_cons_succ, List.setIfInBounds_toArray, List.set_cons_zero, List.set_cons_succ]
                    refine wpT_takeP 10 (v := ?_) rfl (by kernel_rfl) (fun _ _ _ h => h) (by rfl) ?_ ?_ ?_
                    rotate_left
                    · (intro W; go_simp; first | done | with_reducible rfl)
                    · (first | (intro _; with_reducible assumption) | (intro h0; cases h0))
                    try simp only [Act.put, List.getElem_toArray, List.getElem_cons_zero, List.getElem_cons_succ, List.setIfInBounds_toArray, List.set_cons_zero, List.set_cons_succ]
                    refine wpT_one 11 (by kernel_rfl) rfl (fun K hK => ?_)
                    go_simp
                    have HZ : Zc (v1.alloc (Obj.cells #[.int .i64 0, .int .i64 0, .int .i64 0] 27)) v1.heap.size := Zc.new (v1) 27
                    have HS := ba_c HS (Nat.le_refl _) (Obj.cells #[.int .i64 0, .int .i64 0, .int .i64 0] 27)
                    refine hK.out _ _ ?_ ?_
                    · (intro _; with_reducible exact HS)
                    clear hK K
                    try simp only [Act.put, List.getElem_toArray, List.getElem_cons_zero, List.getElem_cons_succ, List.setIfInBounds_toArray, List.set_cons_zero, List.set_cons_succ]
                    obtain ⟨z0, ⟨z1, z2, z3⟩, z4, z5, z6⟩ := HZ
                    refine wpT_one 12 (by kernel_rfl) rfl (fun K hK => ?_)
                    go_simp
                    refine hK.out _ _ ?_ ?_
                    · (first | (intro _; with_reducible assumption) | (intro h0; cases h0; done) | (intro _; simp [go_sem]))
                    clear hK K
                    try simp only [Act.put, List.getElem_toArray, List.getElem_cons_zero, List.getElem_cons_succ, List.setIfInBounds_toArray, List.set_cons_zero, List.set_cons_succ]
                    refine wpT_one 13 (by kernel_rfl) rfl (fun K hK => ?_)
                    go_simp
                    refine hK.out _ _ ?_ ?_
                    · (first | (intro _; with_reducible assumption) | (intro h0; cases h0; done) | (intro _; simp [go_sem]))
                    clear hK K
                    try simp only [Act.put, List.getElem_toArray, List.getElem_cons_zero, List.getElem_cons_succ, List.setIfInBounds_toArray, List.set_cons_zero, List.set_cons_succ]
                    refine wpT_done (by kernel_rfl) ?_ _
                    go_wp2_with fail
                    go_meet
                    refine ⟨⟨v1.heap.size, rfl, ?_, ?_, ?_, ?_⟩, rfl, ?_⟩
                    · first | (simp [go_sem]; done) | (simpa using z0)
                    · simp [go_sem, z1, z2, z3]
                    · simp [go_sem, z1, z2, z3]
                    · simp [go_sem, z1, z2, z3]
                    · (have hsz1 : w7.heap.size ≤ v1.heap.size := HSV.size); go_grown
                  · skip
                    go_simp
                    have HZ : Zc (w7.alloc (Obj.cells #[.int .i64 0, .int .i64 0, .int .i64 0] 27)).drew w7.heap.size := Zc.new (w7) 27
                    have HS : Below (w7.heap.size) (w7) (w7.alloc (Obj.cells #[.int .i64 0, .int .i64 0, .int .i64 0] 27)).drew := Below.drew (ba_c (Below.refl _ _) (Nat.le_refl _) _)
                    refine hK.out _ _ ?_ ?_
                    · (intro _; with_reducible exact HS)
                    clear hK K
                    try simp only [Act.put, List.getElem_toArray, List.getElem_cons_zero, List.getElem_cons_succ, List.setIfInBounds_toArray, List.set_cons_zero, List.set_cons_succ]
                    refine wpT_one 7 (by kernel_rfl) rfl (fun K hK => ?_)
                    go_simp
                    refine (Join17_is _ _ _ _ _ _ _ _ _ _ HP.out S2.out _).mono ?_
                    rintro e v1 ⟨rfl, hb⟩
                    have HZ := Zc.below HZ hb HZ.1
                    have HS := Below.trans HS (hb.mono HS.size)
                    have HSV := HS
                    clear hb
                    refine hK.out _ _ ?_ ?_
                    · (first | (intro _; with_reducible assumption) | (intro h0; cases h0))
                    clear hK K
                    try simp only [Act.put, List.getElem_toArray, List.getElem_cons_zero, List.getElem_cons_succ, List.setIfInBounds_toArray, List.set_cons_zero, List.set_cons_succ]
                    refine wpT_takeP 8 (v := ?_) rfl (by kernel_rfl) (fun _ _ _ h => h) (by rfl) ?_ ?_ ?_
                    rotate_left
                    · (intro W; go_simp; first | done | with_reducible rfl)
                    · (first | (intro _; with_reducible assumption) | (intro h0; cases h0))
                    try simp only [Act.put, List.getElem_toArray, List.getElem_cons_zero, List.getElem_cons_succ, List.setIfInBounds_toArray, List.set_cons_zero, List.set_cons_succ]
                    refine wpT_takeP 9 (v := ?_) rfl (by kernel_rfl) (fun _ _ _ h => h) (by rfl) ?_ ?_ ?_
                    rotate_left
                    · (intro W; go_simp; first | done | with_reducible rfl)
                    · (first | (intro _; with_reducible assumption) | (intro h0; cases h0))
                    try simp only [Act.put, List.getElem_toArray, List.getElem_cons_zero, List.getElem_cons_succ, List.setIfInBounds_toArray, List.set_cons_zero, List.set_cons_succ]
                    refine wpT_takeP 10 (v := ?_) rfl (by kernel_rfl) (fun _ _ _ h => h) (by rfl) ?_ ?_ ?_
                    rotate_left
                    · (intro W; go_simp; first | done | with_reducible rfl)
                    · (first | (intro _; with_reducible assumption) | (intro h0; cases h0))
                    try simp only [Act.put, List.getElem_toArray, List.getElem_cons_zero, List.getElem_cons_succ, List.setIfInBounds_toArray, List.set_cons_zero, List.set_cons_succ]
                    obtain ⟨z0, ⟨z1, z2, z3⟩, z4, z5, z6⟩ := HZ
                    refine wpT_one 12 (by kernel_rfl) rfl (fun K hK => ?_)
                    go_simp
                    refine hK.out _ _ ?_ ?_
                    · (first | (intro _; with_reducible assumption) | (intro h0; cases h0; done) | (intro _; simp [go_sem]))
                    clear hK K
                    try simp only [Act.put, List.getElem_toArray, List.getElem_cons_zero, List.getElem_cons_succ, List.setIfInBounds_toArray, List.set_cons_zero, List.set_cons_succ]
                    refine wpT_one 13 (by kernel_rfl) rfl (fun K hK => ?_)
                    go_simp
                    refine hK.out _ _ ?_ ?_
                    · (first | (intro _; with_reducible assumption) | (intro h0; cases h0; done) | (intro _; simp [go_sem]))
                    clear hK K
                    try simp only [Act.put, List.getElem_toArray, List.getElem_cons_zero, List.getElem_cons_succ, List.setIfInBounds_toArray, List.set_cons_zero, List.set_cons_succ]
                    refine wpT_done (by kernel_rfl) ?_ _
                    go_wp2_with fail
                    go_meet
                    refine ⟨⟨w7.heap.size, rfl, ?_, ?_, ?_, ?_⟩, rfl, ?_⟩
                    · first | (simp [go_sem]; done) | (simpa using z0)
                    · simp [go_sem, z1, z2, z3]
                    · simp [go_sem, z1, z2, z3]
                    · simp [go_sem, z1, z2, z3]
                    · (have hsz1 : w7.heap.size ≤ v1.heap.size := HSV.size); go_grown
                case rest =>
                  obtain ⟨⟨gb, rfl, hgb, q0, q1, q2⟩, rfl, hbc⟩ := hcut
                  obtain ⟨w8, rfl⟩ : ∃ wo : World, wo = wc := ⟨_, rfl⟩
                  have HN8 := Lib.hid (HN7.out.below hbc hgs7)
                  have HB8 := Lib.hid (HB7.out.trans (hbc.mono (by have := HB7.out.size; omega)))
                  have hz8 : w7.heap.size ≤ w8.heap.size := hbc.size
                  have hgs8 : wm.heap.size < w8.heap.size := by omega
                  have y0 : w8.cell? ⟨ga, 0, none⟩ = some (.int .i64 b0) := by rw [hbc.cell hga]; exact z0
                  have y1 : w8.cell? ⟨ga, 1, none⟩ = some (.int .i64 b1) := by rw [hbc.cell hga]; exact z1
                  have y2 : w8.cell? ⟨ga, 2, none⟩ = some (.int .i64 b2) := by rw [hbc.cell hga]; exact z2
                  clear hbc z0 z1 z2
                  cases hf : fr p (b0, b1, b2) (d0, d1, d2)
                  · obtain ⟨⟨c0, c1, c2⟩, hc⟩ : ∃ u, jn p (b0, b1, b2) (d0, d1, d2) = u := ⟨_, rfl⟩
                    have HC := Lib.hid hc
                    have HFF := Lib.hid hf
                    clear hc hf
                    go_wp2_with fail
                    refine (Join17_jn _ _ _ _ _ _ _ _ _ _ HP.out S3.out S4.out HFF.out HC.out _).mono ?_
                    rintro e w9 ⟨rfl, hb9⟩
                    have HN9 := Lib.hid (HN8.out.below hb9 hgs8)
                    have HB9 := Lib.hid (HB8.out.trans (hb9.mono (by have := HB8.out.size; omega)))
                    have hgs9 : wm.heap.size < w9.heap.size := Nat.lt_of_lt_of_le hgs8 hb9.size
                    clear hb9
                    obtain ⟨n0, m0⟩ := HN9.out (3 * i1) (by omega)
                    obtain ⟨n1, m1⟩ := HN9.out (3 * i1 + 1) (by omega)
                    obtain ⟨n2, m2⟩ := HN9.out (3 * i1 + 2) (by omega)
                    go_wp2_with fail
                    refine ⟨⟨i1 + 1, by omega, by go_num, ?_, ?_, by simp; omega, ?_⟩, by simp [intOf]; omega⟩
                    · exact NumsAt.below (NumsAt.congr (((HN9.out.set (3 * i1) (by omega) c0).set (3 * i1 + 1) (by omega) c1).set (3 * i1 + 2) (by omega) c2) (up_step (F := jm p [t0, t1, t2, t3, t4, t5, t6, t7, t8] [u0, u1, u2, u3, u4, u5, u6, u7, u8]) (HJM.out.trans HC.out))) (ba_c (Below.refl _ _) (Nat.le_refl _) _) (by simpa using hgs9)
                    · exact ba_c (((HB9.out.setCell (p := ⟨wm.heap.size, 3 * i1, none⟩) (Nat.le_refl _) _).setCell (p := ⟨wm.heap.size, 3 * i1 + 1, none⟩) (Nat.le_refl _) _).setCell (p := ⟨wm.heap.size, 3 * i1 + 2, none⟩) (Nat.le_refl _) _) (by omega) _
                    · intro j hj
                      rcases Nat.lt_or_ge j i1 with hx | hx
                      · exact hfr.out j hx
                      · have : j = i1 := by omega
                        rw [this]; exact HFM.out.trans HFF.out
                  · have HFF := Lib.hid hf
                    clear hf
                    go_wp2_with fail
                    refine (Join17_fr _ _ _ _ _ _ _ HP.out S3.out S4.out HFF.out _).mono ?_
                    rintro e w9 ⟨rfl, hb9⟩
                    have HB9 := Lib.hid (HB6.out.trans ((HB8.out.trans (hb9.mono (by have := HB8.out.size; omega))).mono (by have := HB6.out.size; omega)))
                    clear hb9
                    go_wp2_with fail
                    go_ret
                    exact ⟨rfl, ba_c HB9.out (Nat.le_refl _) _⟩
            · have hi3 : i1 = 3 := by omega
              subst hi3
              have hfr0 := hfr.out 0 (by omega)
              obtain ⟨⟨c0, c1, c2⟩, hc0⟩ : ∃ u, jm p [t0, t1, t2, t3, t4, t5, t6, t7, t8] [u0, u1, u2, u3, u4, u5, u6, u7, u8] 0 = u := ⟨_, rfl⟩
              obtain ⟨⟨c3, c4, c5⟩, hc1⟩ : ∃ u, jm p [t0, t1, t2, t3, t4, t5, t6, t7, t8] [u0, u1, u2, u3, u4, u5, u6, u7, u8] 1 = u := ⟨_, rfl⟩
              obtain ⟨⟨c6, c7, c8⟩, hc2⟩ : ∃ u, jm p [t0, t1, t2, t3, t4, t5, t6, t7, t8] [u0, u1, u2, u3, u4, u5, u6, u7, u8] 2 = u := ⟨_, rfl⟩
              obtain ⟨⟨r0, r1, r2⟩, hr0⟩ : ∃ u, sT p a0 a1 a2 a3 a4 a5 a6 a7 a8 (c0, c1, c2) = u := ⟨_, rfl⟩
              obtain ⟨⟨r3, r4, r5⟩, hr1⟩ : ∃ u, sT p a0 a1 a2 a3 a4 a5 a6 a7 a8 (c3, c4, c5) = u := ⟨_, rfl⟩
              obtain ⟨⟨r6, r7, r8⟩, hr2⟩ : ∃ u, sT p a0 a1 a2 a3 a4 a5 a6 a7 a8 (c6, c7, c8) = u := ⟨_, rfl⟩
              have dm := LAW.out.2.1
              have dn := LAW.out.2.2
              rw [hc0, hc1, hc2] at dm dn
              rw [hr0, hr1, hr2] at dn
              have DM := Lib.hid (show d9 p c0 c1 c2 c3 c4 c5 c6 c7 c8 = 0 from dm)
              have DN := Lib.hid (show d9 p r0 r1 r2 r3 r4 r5 r6 r7 r8 = 0 from dn)
              have cm0 : wj.cell? ⟨wm.heap.size, 0, none⟩ = some (.int .i64 c0) := (hnm 0 (by omega)).1.trans (by show some (Value.int .i64 (cmp (jm p [t0, t1, t2, t3, t4, t5, t6, t7, t8] [u0, u1, u2, u3, u4, u5, u6, u7, u8] 0) 0)) = _; rw [hc0]; rfl)
              have cm1 : wj.cell? ⟨wm.heap.size, 1, none⟩ = some (.int .i64 c1) := (hnm 1 (by omega)).1.trans (by show some (Value.int .i64 (cmp (jm p [t0, t1, t2, t3, t4, t5, t6, t7, t8] [u0, u1, u2, u3, u4, u5, u6, u7, u8] 0) 1)) = _; rw [hc0]; rfl)
              have cm2 : wj.cell? ⟨wm.heap.size, 2, none⟩ = some (.int .i64 c2) := (hnm 2 (by omega)).1.trans (by show some (Value.int .i64 (cmp (jm p [t0, t1, t2, t3, t4, t5, t6, t7, t8] [u0, u1, u2, u3, u4, u5, u6, u7, u8] 0) 2)) = _; rw [hc0]; rfl)
              have cm3 : wj.cell? ⟨wm.heap.size, 3, none⟩ = some (.int .i64 c3) := (hnm 3 (by omega)).1.trans (by show some (Value.int .i64 (cmp (jm p [t0, t1, t2, t3, t4, t5, t6, t7, t8] [u0, u1, u2, u3, u4, u5, u6, u7, u8] 1) 0)) = _; rw [hc1]; rfl)
              have cm4 : wj.cell? ⟨wm.heap.size, 4, none⟩ = some (.int .i64 c4) := (hnm 4 (by omega)).1.trans (by show some (Value.int .i64 (cmp (jm p [t0, t1, t2, t3, t4, t5, t6, t7, t8] [u0, u1, u2, u3, u4, u5, u6, u7, u8] 1) 1)) = _; rw [hc1]; rfl)
              have cm5 : wj.cell? ⟨wm.heap.size, 5, none⟩ = some (.int .i64 c5) := (hnm 5 (by omega)).1.trans (by show some (Value.int .i64 (cmp (jm p [t0, t1, t2, t3, t4, t5, t6, t7, t8] [u0, u1, u2, u3, u4, u5, u6, u7, u8] 1) 2)) = _; rw [hc1]; rfl)
              have cm6 : wj.cell? ⟨wm.heap.size, 6, none⟩ = some (.int .i64 c6) := (hnm 6 (by omega)).1.trans (by show some (Value.int .i64 (cmp (jm p [t0, t1, t2, t3, t4, t5, t6, t7, t8] [u0, u1, u2, u3, u4, u5, u6, u7, u8] 2) 0)) = _; rw [hc2]; rfl)
              have cm7 : wj.cell? ⟨wm.heap.size, 7, none⟩ = some (.int .i64 c7) := (hnm 7 (by omega)).1.trans (by show some (Value.int .i64 (cmp (jm p [t0, t1, t2, t3, t4, t5, t6, t7, t8] [u0, u1, u2, u3, u4, u5, u6, u7, u8] 2) 1)) = _; rw [hc2]; rfl)
              have cm8 : wj.cell? ⟨wm.heap.size, 8, none⟩ = some (.int .i64 c8) := (hnm 8 (by omega)).1.trans (by show some (Value.int .i64 (cmp (jm p [t0, t1, t2, t3, t4, t5, t6, t7, t8] [u0, u1, u2, u3, u4, u5, u6, u7, u8] 2) 2)) = _; rw [hc2]; rfl)
              have HWJ := Lib.hid (HW6.out.below hbl (by omega))
              have HBJ := Lib.hid (HB6.out.trans (hbl.mono (by have := HB6.out.size; omega)))
              have HC0 := Lib.hid hc0
              have HC1 := Lib.hid hc1
              have HC2 := Lib.hid hc2
              have HR0 := Lib.hid hr0
              have HR1 := Lib.hid hr1
              have HR2 := Lib.hid hr2
              clear dm dn hc0 hc1 hc2 hr0 hr1 hr2 hfr0 hbl hnm HBL HT6 HU6 HW6 HB6 HN0
              rw [show ((3 : Nat) : Int) = 3 from rfl]
              go_wp2_with fail
              refine (detF16_d _ _ _ _ _ _ _ _ _ _ _ HP.out DM.out _).mono ?_
              rintro e wa ⟨rfl, hb⟩
              have hza : wj.heap.size ≤ wa.heap.size := hb.size
              have hwa : wm.heap.size < wa.heap.size := by omega
              have HWA := Lib.hid (HWJ.out.below hb (by omega))
              have HNA := Lib.hid (HNM.out.below hb hgs)
              have HBA := Lib.hid (HBJ.out.trans (hb.mono HBJ.out.size))
              clear hb cm0 cm1 cm2 cm3 cm4 cm5 cm6 cm7 cm8 HWJ HBJ HNM
              go_wp2_with fail
              have hN0 : NumsAt (wa.alloc (Obj.cells #[.int .i64 0, .int .i64 0, .int .i64 0, .int .i64 0, .int .i64 0, .int .i64 0, .int .i64 0, .int .i64 0, .int .i64 0] 28)) wa.heap.size 9 (fun _ => 0) := by
                intro j hj
                have hh : j = 0 ∨ j = 1 ∨ j = 2 ∨ j = 3 ∨ j = 4 ∨ j = 5 ∨ j = 6 ∨ j = 7 ∨ j = 8 := by omega
                rcases hh with rfl | rfl | rfl | rfl | rfl | rfl | rfl | rfl | rfl <;> simp [go_sem]
              have hba := ba_c (Below.refl wa.heap.size wa) (Nat.le_refl _) (Obj.cells #[.int .i64 0, .int .i64 0, .int .i64 0, .int .i64 0, .int .i64 0, .int .i64 0, .int .i64 0, .int .i64 0, .int .i64 0] 28)
              have HWB := Lib.hid (HWA.out.below hba (by omega))
              have HNB := Lib.hid (HNA.out.below hba (by omega))
              have HBB := Lib.hid (ba_c HBA.out (Nat.le_refl _) (Obj.cells #[.int .i64 0, .int .i64 0, .int .i64 0, .int .i64 0, .int .i64 0, .int .i64 0, .int .i64 0, .int .i64 0, .int .i64 0] 28))
              have HN0 := Lib.hid hN0
              have hzb : wa.heap.size < (wa.alloc (Obj.cells #[.int .i64 0, .int .i64 0, .int .i64 0, .int .i64 0, .int .i64 0, .int .i64 0, .int .i64 0, .int .i64 0, .int .i64 0] 28)).heap.size := by simp
              clear hN0 hba HWA HNA HBA
              generalize wa.alloc (Obj.cells #[.int .i64 0, .int .i64 0, .int .i64 0, .int .i64 0, .int .i64 0, .int .i64 0, .int .i64 0, .int .i64 0, .int .i64 0] 28) = wb at *
              go_loopw [163] (fun i wr => ∃ i1 : Nat, i1 ≤ 3 ∧ i = .int .i64 i1 ∧ NumsAt wr wa.heap.size 9 (fun j => if j < 3 * i1 then (fun j => cmp (sT p a0 a1 a2 a3 a4 a5 a6 a7 a8 (jm p [t0, t1, t2, t3, t4, t5, t6, t7, t8] [u0, u1, u2, u3, u4, u5, u6, u7, u8] (j / 3))) (j % 3)) j else 0) ∧ Below wa.heap.size wb wr ∧ wa.heap.size < wr.heap.size) (fun i _ => 3 - (intOf i).toNat)
              case atStart => exact ⟨0, by omega, rfl, HN0.out.congr (fun j _ => by rw [if_neg (by omega)]), Below.refl _ _, hzb⟩
              case round =>
                clear hgs
                obtain ⟨i1, hi1, rfl, hnn, hbl, hgs⟩ := hrel
                obtain ⟨wj, rfl⟩ : ∃ wo : World, wo = wr := ⟨_, rfl⟩
                have HNN := Lib.hid hnn
                have HBL := Lib.hid hbl
                by_cases hlt : i1 < 3
                · have l1 : (0 : Int) ≤ (i1 : Int) := by omega
                  have l2 : (i1 : Int) < 3 := by omega
                  have el : i1 * 3 = 3 * i1 := by omega
                  have HWJ := Lib.hid (HWB.out.below hbl (by omega))
                  have HNJ := Lib.hid (HNB.out.below hbl (by omega))
                  obtain ⟨⟨x0, x1, x2⟩, hx⟩ : ∃ u, jm p [t0, t1, t2, t3, t4, t5, t6, t7, t8] [u0, u1, u2, u3, u4, u5, u6, u7, u8] i1 = u := ⟨_, rfl⟩
                  have hnz : zz p x0 x1 x2 = false := by
                    have h0 := jn_nz HP.out (hfr.out i1 hlt)
                    rw [show jn p (ja p [t0, t1, t2, t3, t4, t5, t6, t7, t8] i1) (ja p [u0, u1, u2, u3, u4, u5, u6, u7, u8] i1) = (x0, x1, x2) from hx] at h0
                    exact h0
                  have x0c : wj.cell? ⟨wm.heap.size, 3 * i1, none⟩ = some (.int .i64 x0) := (HNJ.out (3 * i1) (by omega)).1.trans (by dsimp only; rw [if_pos (by omega), show (3 * i1) / 3 = i1 by omega, show (3 * i1) % 3 = 0 by omega, hx]; rfl)
                  have x1c : wj.cell? ⟨wm.heap.size, 3 * i1 + 1, none⟩ = some (.int .i64 x1) := (HNJ.out (3 * i1 + 1) (by omega)).1.trans (by dsimp only; rw [if_pos (by omega), show (3 * i1 + 1) / 3 = i1 by omega, show (3 * i1 + 1) % 3 = 1 by omega, hx]; rfl)
                  have x2c : wj.cell? ⟨wm.heap.size, 3 * i1 + 2, none⟩ = some (.int .i64 x2) := (HNJ.out (3 * i1 + 2) (by omega)).1.trans (by dsimp only; rw [if_pos (by omega), show (3 * i1 + 2) / 3 = i1 by omega, show (3 * i1 + 2) % 3 = 2 by omega, hx]; rfl)
                  have w0c : wj.cell? ⟨w.heap.size + 1 + 1 + 1, 0, none⟩ = some (.int .i64 a0) := (HWJ.out 0 (by omega)).1
                  have w1c : wj.cell? ⟨w.heap.size + 1 + 1 + 1, 1, none⟩ = some (.int .i64 a1) := (HWJ.out 1 (by omega)).1
                  have w2c : wj.cell? ⟨w.heap.size + 1 + 1 + 1, 2, none⟩ = some (.int .i64 a2) := (HWJ.out 2 (by omega)).1
                  have w3c : wj.cell? ⟨w.heap.size + 1 + 1 + 1, 3, none⟩ = some (.int .i64 a3) := (HWJ.out 3 (by omega)).1
                  have w4c : wj.cell? ⟨w.heap.size + 1 + 1 + 1, 4, none⟩ = some (.int .i64 a4) := (HWJ.out 4 (by omega)).1
                  have w5c : wj.cell? ⟨w.heap.size + 1 + 1 + 1, 5, none⟩ = some (.int .i64 a5) := (HWJ.out 5 (by omega)).1
                  have w6c : wj.cell? ⟨w.heap.size + 1 + 1 + 1, 6, none⟩ = some (.int .i64 a6) := (HWJ.out 6 (by omega)).1
                  have w7c : wj.cell? ⟨w.heap.size + 1 + 1 + 1, 7, none⟩ = some (.int .i64 a7) := (HWJ.out 7 (by omega)).1
                  have w8c : wj.cell? ⟨w.heap.size + 1 + 1 + 1, 8, none⟩ = some (.int .i64 a8) := (HWJ.out 8 (by omega)).1
                  have HX := Lib.hid hx
                  have HNZ := Lib.hid hnz
                  clear hx hnz hnn hbl
                  cases hg : gdB p a0 a1 a2 a3 a4 a5 a6 a7 a8
                  · have HG := Lib.hid hg
                    clear hg
                    go_upto_region 39 with fail
                    go_cut [27, 28] (fun s er wx => er = .int .i64 5 ∧ Below wj.heap.size wj wx)
                    case first =>
                      refine wp_region_T (Below (wj.heap.size) (wj)) 10 (by kernel_rfl) ?_ ?_
                      · exact Below.drew (Below.refl _ _)
                      intro HS
                      refine wpT_takeP 0 (v := ?_) rfl (by kernel_rfl) (fun _ _ _ h => h) (by rfl) ?_ ?_ ?_
                      rotate_left
                      · (intro W; go_simp; first | done | with_reducible rfl)
                      · (first | (intro _; with_reducible assumption) | (intro h0; cases h0))
                      try simp only [Act.put, List.getElem_toArray, List.getElem_cons_zero, List.getElem_cons_succ, List.setIfInBounds_toArray, List.set_cons_zero, List.set_cons_succ]
                      refine wpT_takeP 2 (v := ?_) rfl (by kernel_rfl) (fun _ _ _ h => h) (by rfl) ?_ ?_ ?_
                      rotate_left
                      · (intro W; go_simp; first | done | with_reducible rfl)
                      · (first | (intro _; with_reducible assumption) | (intro h0; cases h0))
                      try simp only [Act.put, List.getElem_toArray, List.getElem_cons_zero, List.getElem_cons_succ, List.setIfInBounds_toArray, List.set_cons_zero, List.set_cons_succ]
                      refine wpT_takeP 3 (v := ?_) rfl (by kernel_rfl) (fun _ _ _ h => h) (by rfl) ?_ ?_ ?_
                      rotate_left
                      · (intro W; go_simp; first | done | with_reducible rfl)
                      · (first | (intro _; with_reducible assumption) | (intro h0; cases h0))
                      try simp only [Act.put, List.getElem_toArray, List.getElem_cons_zero, List.getElem_cons_succ, List.setIfInBounds_toArray, List.set_cons_zero, List.set_cons_succ]
                      refine wpT_take 1 30 (v := ?_) rfl (by kernel_rfl) (fun _ _ _ h => h) (by rfl) ?_ HS ?_
                      rotate_left
                      · (intro W hW; have hq0 := fun o => hW.cell (p := ⟨w.heap.size + 1 + 1 + 1, o, none⟩) (by simp <;> omega); have hq1 := fun o => hW.cell (p := ⟨wm.heap.size, o, none⟩) (by simp <;> omega); go_simp; first | done | with_reducible rfl)
                      try simp only [Act.put, List.getElem_toArray, List.getElem_cons_zero, List.getElem_cons_succ, List.setIfInBounds_toArray, List.set_cons_zero, List.set_cons_succ]
                      refine wpT_take 4 30 (v := ?_) rfl (by kernel_rfl) (fun _ _ _ h => h) (by rfl) ?_ HS ?_
                      rotate_left
                      · (intro W hW; have hq0 := fun o => hW.cell (p := ⟨w.heap.size + 1 + 1 + 1, o, none⟩) (by simp <;> omega); have hq1 := fun o => hW.cell (p := ⟨wm.heap.size, o, none⟩) (by simp <;> omega); go_simp; first | done | with_reducible rfl)
                      try simp only [Act.put, List.getElem_toArray, List.getElem_cons_zero, List.getElem_cons_succ, List.setIfInBounds_toArray, List.set_cons_zero, List.set_cons_succ]
                      refine wpT_two 5 9 (by kernel_rfl) rfl rfl (fun K hK => ?_) (fun K hK => ?_)
                      · skip
                        go_simp
                        refine (Apply18_no _ _ _ _ _ _ _ _ _ _ _ _ _ _ HP.out HG.out rfl _).mono ?_
                        rintro e v1 ⟨rfl, hb⟩
                        have HS := Below.trans HS (hb.mono HS.size)
                        have HSV := HS
                        clear hb
                        refine hK.out _ _ ?_ ?_
                        · (first | (intro _; with_reducible assumption) | (intro h0; cases h0))
                        clear hK K
                        try simp only [Act.put, List.getElem_toArray, List.getElem_cons_zero, List.getElem_cons_succ, List.setIfInBounds_toArray, List.set_cons_zero, List.set_cons_succ]
                        refine wpT_takeP 6 (v := ?_) rfl (by kernel_rfl) (fun _ _ _ h => h) (by rfl) ?_ ?_ ?_
                        rotate_left
                        · (intro W; go_simp; first | done | with_reducible rfl)
                        · (first | (intro _; with_reducible assumption) | (intro h0; cases h0))
                        try simp only [Act.put, List.getElem_toArray, List.getElem_cons_zero, List.getElem_cons_succ, List.setIfInBounds_toArray, List.set_cons_zero, List.set_cons_succ]
                        refine wpT_takeP 7 (v := ?_) rfl (by kernel_rfl) (fun _ _ _ h => h) (by rfl) ?_ ?_ ?_
                        rotate_left
                        · (intro W; go_simp; first | done | with_reducible rfl)
                        · (first | (intro _; with_reducible assumption) | (intro h0; cases h0))
                        try simp only [Act.put, List.getElem_toArray, List.getElem_cons_zero, List.getElem_cons_succ, List.setIfInBounds_toArray, List.set_cons_zero, List.set_cons_succ]
                        refine wpT_takeP 8 (v := ?_) rfl (by kernel_rfl) (fun _ _ _ h => h) (by rfl) ?_ ?_ ?_
                        rotate_left
                        · (intro W; go_simp; first | done | with_reducible rfl)
                        · (first | (intro _; with_reducible assumption) | (intro h0; cases h0))
                        try simp only [Act.put, List.getElem_toArray, List.getElem_cons_zero, List.getElem_cons_succ, List.setIfInBounds_toArray, List.set_cons_zero, List.set_cons_succ]
                        refine wpT_one 9 (by kernel_rfl) rfl (fun K hK => ?_)
                        go_simp
                        have HZ : Zc (v1.alloc (Obj.cells #[.int .i64 0, .int .i64 0, .int .i64 0] 27)) v1.heap.size := Zc.new (v1) 27
                        have HS := ba_c HS (Nat.le_refl _) (Obj.cells #[.int .i64 0, .int .i64 0, .int .i64 0] 27)
                        refine hK.out _ _ ?_ ?_
                        · (intro _; with_reducible exact HS)
                        clear hK K
                        try simp only [Act.put, List.getElem_toArray, List.getElem_cons_zero, List.getElem_cons_succ, List.setIfInBounds_toArray, List.set_cons_zero, List.set_cons_succ]
                        obtain ⟨z0, ⟨z1, z2, z3⟩, z4, z5, z6⟩ := HZ
                        refine wpT_one 10 (by kernel_rfl) rfl (fun K hK => ?_)
                        go_simp
                        refine hK.out _ _ ?_ ?_
                        · (first | (intro _; with_reducible assumption) | (intro h0; cases h0; done) | (intro _; simp [go_sem]))
                        clear hK K
                        try simp only [Act.put, List.getElem_toArray, List.getElem_cons_zero, List.getElem_cons_succ, List.setIfInBounds_toArray, List.set_cons_zero, List.set_cons_succ]
                        refine wpT_one 11 (by kernel_rfl) rfl (fun K hK => ?_)
                        go_simp
                        refine hK.out _ _ ?_ ?_
                        · (first | (intro _; with_reducible assumption) | (intro h0; cases h0; done) | (intro _; simp [go_sem]))
                        clear hK K
                        try simp only [Act.put, List.getElem_toArray, List.getElem_cons_zero, List.getElem_cons_succ, List.setIfInBounds_toArray, List.set_cons_zero, List.set_cons_succ]
                        refine wpT_done (by kernel_rfl) ?_ _
                        go_wp2_with fail
                        go_meet
                        refine ⟨rfl, ?_⟩
                        (have hsz1 : wj.heap.size ≤ v1.heap.size := HSV.size); go_grown
                      · skip
                        go_simp
                        have HZ : Zc (wj.alloc (Obj.cells #[.int .i64 0, .int .i64 0, .int .i64 0] 27)).drew wj.heap.size := Zc.new (wj) 27
                        have HS : Below (wj.heap.size) (wj) (wj.alloc (Obj.cells #[.int .i64 0, .int .i64 0, .int .i64 0] 27)).drew := Below.drew (ba_c (Below.refl _ _) (Nat.le_refl _) _)
                        refine hK.out _ _ ?_ ?_
                        · (intro _; with_reducible exact HS)
                        clear hK K
                        try simp only [Act.put, List.getElem_toArray, List.getElem_cons_zero, List.getElem_cons_succ, List.setIfInBounds_toArray, List.set_cons_zero, List.set_cons_succ]
                        refine wpT_one 5 (by kernel_rfl) rfl (fun K hK => ?_)
                        go_simp
                        refine (Apply18_no _ _ _ _ _ _ _ _ _ _ _ _ _ _ HP.out HG.out rfl _).mono ?_
                        rintro e v1 ⟨rfl, hb⟩
                        have HZ := Zc.below HZ hb HZ.1
                        have HS := Below.trans HS (hb.mono HS.size)
                        have HSV := HS
                        clear hb
                        refine hK.out _ _ ?_ ?_
                        · (first | (intro _; with_reducible assumption) | (intro h0; cases h0))
                        clear hK K
                        try simp only [Act.put, List.getElem_toArray, List.getElem_cons_zero, List.getElem_cons_succ, List.setIfInBounds_toArray, List.set_cons_zero, List.set_cons_succ]
                        refine wpT_takeP 6 (v := ?_) rfl (by kernel_rfl) (fun _ _ _ h => h) (by rfl) ?_ ?_ ?_
                        rotate_left
                        · (intro W; go_simp; first | done | with_reducible rfl)
                        · (first | (intro _; with_reducible assumption) | (intro h0; cases h0))
                        try simp only [Act.put, List.getElem_toArray, List.getElem_cons_zero, List.getElem_cons_succ, List.setIfInBounds_toArray, List.set_cons_zero, List.set_cons_succ]
                        refine wpT_takeP 7 (v := ?_) rfl (by kernel_rfl) (fun _ _ _ h => h) (by rfl) ?_ ?_ ?_
                        rotate_left
                        · (intro W; go_simp; first | done | with_reducible rfl)
                        · (first | (intro _; with_reducible assumption) | (intro h0; cases h0))
                        try simp only [Act.put, List.getElem_toArray, List.getElem_cons_zero, List.getElem_cons_succ, List.setIfInBounds_toArray, List.set_cons_zero, List.set_cons_succ]
                        refine wpT_takeP 8 (v := ?_) rfl (by kernel_rfl) (fun _ _ _ h => h) (by rfl) ?_ ?_ ?_
                        rotate_left
                        · (intro W; go_simp; first | done | with_reducible rfl)
                        · (first | (intro _; with_reducible assumption) | (intro h0; cases h0))
                        try simp only [Act.put, List.getElem_toArray, List.getElem_cons_zero, List.getElem_cons_succ, List.setIfInBounds_toArray, List.set_cons_zero, List.set_cons_succ]
                        obtain ⟨z0, ⟨z1, z2, z3⟩, z4, z5, z6⟩ := HZ
                        refine wpT_one 10 (by kernel_rfl) rfl (fun K hK => ?_)
                        go_simp
                        refine hK.out _ _ ?_ ?_
                        · (first | (intro _; with_reducible assumption) | (intro h0; cases h0; done) | (intro _; simp [go_sem]))
                        clear hK K
                        try simp only [Act.put, List.getElem_toArray, List.getElem_cons_zero, List.getElem_cons_succ, List.setIfInBounds_toArray, List.set_cons_zero, List.set_cons_succ]
                        refine wpT_one 11 (by kernel_rfl) rfl (fun K hK => ?_)
                        go_simp
                        refine hK.out _ _ ?_ ?_
                        · (first | (intro _; with_reducible assumption) | (intro h0; cases h0; done) | (intro _; simp [go_sem]))
                        clear hK K
                        try simp only [Act.put, List.getElem_toArray, List.getElem_cons_zero, List.getElem_cons_succ, List.setIfInBounds_toArray, List.set_cons_zero, List.set_cons_succ]
                        refine wpT_done (by kernel_rfl) ?_ _
                        go_wp2_with fail
                        go_meet
                        refine ⟨rfl, ?_⟩
                        (have hsz1 : wj.heap.size ≤ v1.heap.size := HSV.size); go_grown
                    case rest =>
                      obtain ⟨rfl, hbc⟩ := hcut
                      have HBC := Lib.hid (HBB.out.trans ((HBL.out.trans (hbc.mono (by have := HBL.out.size; omega))).mono (by have := HBB.out.size; omega)))
                      clear hbc
                      go_wp2_with fail
                      go_ret
                      exact ⟨rfl, HBC.out⟩
                  · have HG := Lib.hid hg
                    obtain ⟨⟨q0, q1, q2⟩, hq⟩ : ∃ u, sT p a0 a1 a2 a3 a4 a5 a6 a7 a8 (x0, x1, x2) = u := ⟨_, rfl⟩
                    have HQ := Lib.hid hq
                    clear hg hq
                    go_upto_region 39 with fail
                    go_cut [27, 28] (fun s er wx => (∃ g, s = .pointer (some ⟨g, 0, none⟩) ∧ g < wx.heap.size ∧ wx.cell? ⟨g, 0, none⟩ = some (.int .i64 q0) ∧ wx.cell? ⟨g, 1, none⟩ = some (.int .i64 q1) ∧ wx.cell? ⟨g, 2, none⟩ = some (.int .i64 q2)) ∧ er = .int .i64 0 ∧ Below wj.heap.size wj wx)
                    case first =>
                      refine wp_region_T (Below (wj.heap.size) (wj)) 10 (by kernel_rfl) ?_ ?_
                      · exact Below.drew (Below.refl _ _)
                      intro HS
                      refine wpT_takeP 0 (v := ?_) rfl (by kernel_rfl) (fun _ _ _ h => h) (by rfl) ?_ ?_ ?_
                      rotate_left
                      · (intro W; go_simp; first | done | with_reducible rfl)
                      · (first | (intro _; with_reducible assumption) | (intro h0; cases h0))
                      try simp only [Act.put, List.getElem_toArray, List.getElem_cons_zero, List.getElem_cons_succ, List.setIfInBounds_toArray, List.set_cons_zero, List.set_cons_succ]
                      refine wpT_takeP 2 (v := ?_) rfl (by kernel_rfl) (fun _ _ _ h => h) (by rfl) ?_ ?_ ?_
                      rotate_left
                      · (intro W; go_simp; first | done | with_reducible rfl)
                      · (first | (intro _; with_reducible assumption) | (intro h0; cases h0))
                      try simp only [Act.put, List.getElem_toArray, List.getElem_cons_zero, List.getElem_cons_succ, List.setIfInBounds_toArray, List.set_cons_zero, List.set_cons_succ]
                      refine wpT_takeP 3 (v := ?_) rfl (by kernel_rfl) (fun _ _ _ h => h) (by rfl) ?_ ?_ ?_
                      rotate_left
                      · (intro W; go_simp; first | done | with_reducible rfl)
                      · (first | (intro _; with_reducible assumption) | (intro h0; cases h0))
                      try simp only [Act.put, List.getElem_toArray, List.getElem_cons_zero, List.getElem_cons_succ, List.setIfInBounds_toArray, List.set_cons_zero, List.set_cons_succ]
                      refine wpT_take 1 30 (v := ?_) rfl (by kernel_rfl) (fun _ _ _ h => h) (by rfl) ?_ HS ?_
                      rotate_left
                      · (intro W hW; have hq0 := fun o => hW.cell (p := ⟨w.heap.size + 1 + 1 + 1, o, none⟩) (by simp <;> omega); have hq1 := fun o => hW.cell (p := ⟨wm.heap.size, o, none⟩) (by simp <;> omega); go_simp; first | done | with_reducible rfl)
                      try simp only [Act.put, List.getElem_toArray, List.getElem_cons_zero, List.getElem_cons_succ, List.setIfInBounds_toArray, List.set_cons_zero, List.set_cons_succ]
                      refine wpT_take 4 30 (v := ?_) rfl (by kernel_rfl) (fun _ _ _ h => h) (by rfl) ?_ HS ?_
                      rotate_left
                      · (intro W hW; have hq0 := fun o => hW.cell (p := ⟨w.heap.size + 1 + 1 + 1, o, none⟩) (by simp <;> omega); have hq1 := fun o => hW.cell (p := ⟨wm.heap.size, o, none⟩) (by simp <;> omega); go_simp; first | done | with_reducible rfl)
                      try simp only [Act.put, List.getElem_toArray, List.getElem_cons_zero, List.getElem_cons_succ, List.setIfInBounds_toArray, List.set_cons_zero, List.set_cons_succ]
                      refine wpT_two 5 9 (by kernel_rfl) rfl rfl (fun K hK => ?_) (fun K hK => ?_)
                      · skip
                        go_simp
                        refine (Apply18_go _ _ _ _ _ _ _ _ _ _ _ _ _ _ _ _ HP.out HG.out HNZ.out HQ.out _).mono ?_
                        rintro e v1 ⟨rfl, hb⟩
                        have HS := Below.trans HS (hb.mono HS.size)
                        have HSV := HS
                        clear hb
                        refine hK.out _ _ ?_ ?_
                        · (first | (intro _; with_reducible assumption) | (intro h0; cases h0))
                        clear hK K
                        try simp only [Act.put, List.getElem_toArray, List.getElem_cons_zero, List.getElem_cons_succ, List.setIfInBounds_toArray, List.set_cons_zero, List.set_cons_succ]
                        refine wpT_takeP 6 (v := ?_) rfl (by kernel_rfl) (fun _ _ _ h => h) (by rfl) ?_ ?_ ?_
                        rotate_left
                        · (intro W; go_simp; first | done | with_reducible rfl)
                        · (first | (intro _; with_reducible assumption) | (intro h0; cases h0))
                        try simp only [Act.put, List.getElem_toArray, List.getElem_cons_zero, List.getElem_cons_succ, List.setIfInBounds_toArray, List.set_cons_zero, List.set_cons_succ]
                        refine wpT_takeP 7 (v := ?_) rfl (by kernel_rfl) (fun _ _ _ h => h) (by rfl) ?_ ?_ ?_
                        rotate_left
                        · (intro W; go_simp; first | done | with_reducible rfl)
                        · (first | (intro _; with_reducible assumption) | (intro h0; cases h0))
                        try simp only [Act.put, List.getElem_toArray, List.getElem_cons_zero, List.getElem_cons_succ, List.setIfInBounds_toArray, List.set_cons_zero, List.set_cons_succ]
                        refine wpT_takeP 8 (v := ?_) rfl (by kernel_rfl) (fun _ _ _ h => h) (by rfl) ?_ ?_ ?_
                        rotate_left
                        · (intro W; go_simp; first | done | with_reducible rfl)
                        · (first | (intro _; with_reducible assumption) | (intro h0; cases h0))
                        try simp only [Act.put, List.getElem_toArray, List.getElem_cons_zero, List.getElem_cons_succ, List.setIfInBounds_toArray, List.set_cons_zero, List.set_cons_succ]
                        refine wpT_one 9 (by kernel_rfl) rfl (fun K hK => ?_)
                        go_simp
                        have HZ : Zc (v1.alloc (Obj.cells #[.int .i64 0, .int .i64 0, .int .i64 0] 27)) v1.heap.size := Zc.new (v1) 27
                        have HS := ba_c HS (Nat.le_refl _) (Obj.cells #[.int .i64 0, .int .i64 0, .int .i64 0] 27)
                        refine hK.out _ _ ?_ ?_
                        · (intro _; with_reducible exact HS)
                        clear hK K
                        try simp only [Act.put, List.getElem_toArray, List.getElem_cons_zero, List.getElem_cons_succ, List.setIfInBounds_toArray, List.set_cons_zero, List.set_cons_succ]
                        obtain ⟨z0, ⟨z1, z2, z3⟩, z4, z5, z6⟩ := HZ
                        refine wpT_one 10 (by kernel_rfl) rfl (fun K hK => ?_)
                        go_simp
                        refine hK.out _ _ ?_ ?_
                        · (first | (intro _; with_reducible assumption) | (intro h0; cases h0; done) | (intro _; simp [go_sem]))
                        clear hK K
                        try simp only [Act.put, List.getElem_toArray, List.getElem_cons_zero, List.getElem_cons_succ, List.setIfInBounds_toArray, List.set_cons_zero, List.set_cons_succ]
                        refine wpT_one 11 (by kernel_rfl) rfl (fun K hK => ?_)
                        go_simp
                        refine hK.out _ _ ?_ ?_
                        · (first | (intro _; with_reducible assumption) | (intro h0; cases h0; done) | (intro _; simp [go_sem]))
                        clear hK K
                        try simp only [Act.put, List.getElem_toArray, List.getElem_cons_zero, List.getElem_cons_succ, List.setIfInBounds_toArray, List.set_cons_zero, List.set_cons_succ]
                        refine wpT_done (by kernel_rfl) ?_ _
                        go_wp2_with fail
                        go_meet
                        refine ⟨⟨v1.heap.size, rfl, ?_, ?_, ?_, ?_⟩, rfl, ?_⟩
                        · first | (simp [go_sem]; done) | (simpa using z0)
                        · simp [go_sem, z1, z2, z3]
                        · simp [go_sem, z1, z2, z3]
                        · simp [go_sem, z1, z2, z3]
                        · (have hsz1 : wj.heap.size ≤ v1.heap.size := HSV.size); go_grown
                      · skip
                        go_simp
                        have HZ : Zc (wj.alloc (Obj.cells #[.int .i64 0, .int .i64 0, .int .i64 0] 27)).drew wj.heap.size := Zc.new (wj) 27
                        have HS : Below (wj.heap.size) (wj) (wj.alloc (Obj.cells #[.int .i64 0, .int .i64 0, .int .i64 0] 27)).drew := Below.drew (ba_c (Below.refl _ _) (Nat.le_refl _) _)
                        refine hK.out _ _ ?_ ?_
                        · (intro _; with_reducible exact HS)
                        clear hK K
                        try simp only [Act.put, List.getElem_toArray, List.getElem_cons_zero, List.getElem_cons_succ, List.setIfInBounds_toArray, List.set_cons_zero, List.set_cons_succ]
                        refine wpT_one 5 (by kernel_rfl) rfl (fun K hK => ?_)
                        go_simp
                        refine (Apply18_go _ _ _ _ _ _ _ _ _ _ _ _ _ _ _ _ HP.out HG.out HNZ.out HQ.out _).mono ?_
                        rintro e v1 ⟨rfl, hb⟩
                        have HZ := Zc.below HZ hb HZ.1
                        have HS := Below.trans HS (hb.mono HS.size)
                        have HSV := HS
                        clear hb
                        refine hK.out _ _ ?_ ?_
                        · (first | (intro _; with_reducible assumption) | (intro h0; cases h0))
                        clear hK K
                        try simp only [Act.put, List.getElem_toArray, List.getElem_cons_zero, List.getElem_cons_succ, List.setIfInBounds_toArray, List.set_cons_zero, List.set_cons_succ]
                        refine wpT_takeP 6 (v := ?_) rfl (by kernel_rfl) (fun _ _ _ h => h) (by rfl) ?_ ?_ ?_
                        rotate_left
                        · (intro W; go_simp; first | done | with_reducible rfl)
                        · (first | (intro _; with_reducible assumption) | (intro h0; cases h0))
                        try simp only [Act.put, List.getElem_toArray, List.getElem_cons_zero, List.getElem_cons_succ, List.setIfInBounds_toArray, List.set_cons_zero, List.set_cons_succ]
                        refine wpT_takeP 7 (v := ?_) rfl (by kernel_rfl) (fun _ _ _ h => h) (by rfl) ?_ ?_ ?_
                        rotate_left
                        · (intro W; go_simp; first | done | with_reducible rfl)
                        · (first | (intro _; with_reducible assumption) | (intro h0; cases h0))
                        try simp only [Act.put, List.getElem_toArray, List.getElem_cons_zero, List.getElem_cons_succ, List.setIfInBounds_toArray, List.set_cons_zero, List.set_cons_succ]
                        refine wpT_takeP 8 (v := ?_) rfl (by kernel_rfl) (fun _ _ _ h => h) (by rfl) ?_ ?_ ?_
                        rotate_left
                        · (intro W; go_simp; first | done | with_reducible rfl)
                        · (first | (intro _; with_reducible assumption) | (intro h0; cases h0))
                        try simp only [Act.put, List.getElem_toArray, List.getElem_cons_zero, List.getElem_cons_succ, List.setIfInBounds_toArray, List.set_cons_zero, List.set_cons_succ]
                        obtain ⟨z0, ⟨z1, z2, z3⟩, z4, z5, z6⟩ := HZ
                        refine wpT_one 10 (by kernel_rfl) rfl (fun K hK => ?_)
                        go_simp
                        refine hK.out _ _ ?_ ?_
                        · (first | (intro _; with_reducible assumption) | (intro h0; cases h0; done) | (intro _; simp [go_sem]))
                        clear hK K
                        try simp only [Act.put, List.getElem_toArray, List.getElem_cons_zero, List.getElem_cons_succ, List.setIfInBounds_toArray, List.set_cons_zero, List.set_cons_succ]
                        refine wpT_one 11 (by kernel_rfl) rfl (fun K hK => ?_)
                        go_simp
                        refine hK.out _ _ ?_ ?_
                        · (first | (intro _; with_reducible assumption) | (intro h0; cases h0; done) | (intro _; simp [go_sem]))
                        clear hK K
                        try simp only [Act.put, List.getElem_toArray, List.getElem_cons_zero, List.getElem_cons_succ, List.setIfInBounds_toArray, List.set_cons_zero, List.set_cons_succ]
                        refine wpT_done (by kernel_rfl) ?_ _
                        go_wp2_with fail
                        go_meet
                        refine ⟨⟨wj.heap.size, rfl, ?_, ?_, ?_, ?_⟩, rfl, ?_⟩
                        · first | (simp [go_sem]; done) | (simpa using z0)
                        · simp [go_sem, z1, z2, z3]
                        · simp [go_sem, z1, z2, z3]
                        · simp [go_sem, z1, z2, z3]
                        · (have hsz1 : wj.heap.size ≤ v1.heap.size := HSV.size); go_grown
                    case rest =>
                      obtain ⟨⟨ga, rfl, hga, y0, y1, y2⟩, rfl, hbc⟩ := hcut
                      obtain ⟨w9, rfl⟩ : ∃ wo : World, wo = wc := ⟨_, rfl⟩
                      have HN9 := Lib.hid (HNN.out.below hbc hgs)
                      have HB9 := Lib.hid (HBL.out.trans (hbc.mono (by have := HBL.out.size; omega)))
                      have hgs9 : wa.heap.size < w9.heap.size := Nat.lt_of_lt_of_le hgs hbc.size
                      clear hbc
                      obtain ⟨n0, m0⟩ := HN9.out (3 * i1) (by omega)
                      obtain ⟨n1, m1⟩ := HN9.out (3 * i1 + 1) (by omega)
                      obtain ⟨n2, m2⟩ := HN9.out (3 * i1 + 2) (by omega)
                      go_wp2_with fail
                      refine ⟨⟨i1 + 1, by omega, by go_num, ?_, ?_, by simp; omega⟩, by simp [intOf]; omega⟩
                      · exact NumsAt.congr (((HN9.out.set (3 * i1) (by omega) q0).set (3 * i1 + 1) (by omega) q1).set (3 * i1 + 2) (by omega) q2) (up_step (F := fun i => sT p a0 a1 a2 a3 a4 a5 a6 a7 a8 (jm p [t0, t1, t2, t3, t4, t5, t6, t7, t8] [u0, u1, u2, u3, u4, u5, u6, u7, u8] i)) (by show sT p a0 a1 a2 a3 a4 a5 a6 a7 a8 (jm p [t0, t1, t2, t3, t4, t5, t6, t7, t8] [u0, u1, u2, u3, u4, u5, u6, u7, u8] i1) = _; rw [HX.out]; exact HQ.out))
                      · exact ((HB9.out.setCell (p := ⟨wa.heap.size, 3 * i1, none⟩) (Nat.le_refl _) _).setCell (p := ⟨wa.heap.size, 3 * i1 + 1, none⟩) (Nat.le_refl _) _).setCell (p := ⟨wa.heap.size, 3 * i1 + 2, none⟩) (Nat.le_refl _) _
                · have hi3 : i1 = 3 := by omega
                  subst hi3
                  have rm0 : wj.cell? ⟨wa.heap.size, 0, none⟩ = some (.int .i64 r0) := (hnn 0 (by omega)).1.trans (by show some (Value.int .i64 (cmp (sT p a0 a1 a2 a3 a4 a5 a6 a7 a8 (jm p [t0, t1, t2, t3, t4, t5, t6, t7, t8] [u0, u1, u2, u3, u4, u5, u6, u7, u8] 0)) 0)) = _; rw [HC0.out, HR0.out]; rfl)
                  have rm1 : wj.cell? ⟨wa.heap.size, 1, none⟩ = some (.int .i64 r1) := (hnn 1 (by omega)).1.trans (by show some (Value.int .i64 (cmp (sT p a0 a1 a2 a3 a4 a5 a6 a7 a8 (jm p [t0, t1, t2, t3, t4, t5, t6, t7, t8] [u0, u1, u2, u3, u4, u5, u6, u7, u8] 0)) 1)) = _; rw [HC0.out, HR0.out]; rfl)
                  have rm2 : wj.cell? ⟨wa.heap.size, 2, none⟩ = some (.int .i64 r2) := (hnn 2 (by omega)).1.trans (by show some (Value.int .i64 (cmp (sT p a0 a1 a2 a3 a4 a5 a6 a7 a8 (jm p [t0, t1, t2, t3, t4, t5, t6, t7, t8] [u0, u1, u2, u3, u4, u5, u6, u7, u8] 0)) 2)) = _; rw [HC0.out, HR0.out]; rfl)
                  have rm3 : wj.cell? ⟨wa.heap.size, 3, none⟩ = some (.int .i64 r3) := (hnn 3 (by omega)).1.trans (by show some (Value.int .i64 (cmp (sT p a0 a1 a2 a3 a4 a5 a6 a7 a8 (jm p [t0, t1, t2, t3, t4, t5, t6, t7, t8] [u0, u1, u2, u3, u4, u5, u6, u7, u8] 1)) 0)) = _; rw [HC1.out, HR1.out]; rfl)
                  have rm4 : wj.cell? ⟨wa.heap.size, 4, none⟩ = some (.int .i64 r4) := (hnn 4 (by omega)).1.trans (by show some (Value.int .i64 (cmp (sT p a0 a1 a2 a3 a4 a5 a6 a7 a8 (jm p [t0, t1, t2, t3, t4, t5, t6, t7, t8] [u0, u1, u2, u3, u4, u5, u6, u7, u8] 1)) 1)) = _; rw [HC1.out, HR1.out]; rfl)
                  have rm5 : wj.cell? ⟨wa.heap.size, 5, none⟩ = some (.int .i64 r5) := (hnn 5 (by omega)).1.trans (by show some (Value.int .i64 (cmp (sT p a0 a1 a2 a3 a4 a5 a6 a7 a8 (jm p [t0, t1, t2, t3, t4, t5, t6, t7, t8] [u0, u1, u2, u3, u4, u5, u6, u7, u8] 1)) 2)) = _; rw [HC1.out, HR1.out]; rfl)
                  have rm6 : wj.cell? ⟨wa.heap.size, 6, none⟩ = some (.int .i64 r6) := (hnn 6 (by omega)).1.trans (by show some (Value.int .i64 (cmp (sT p a0 a1 a2 a3 a4 a5 a6 a7 a8 (jm p [t0, t1, t2, t3, t4, t5, t6, t7, t8] [u0, u1, u2, u3, u4, u5, u6, u7, u8] 2)) 0)) = _; rw [HC2.out, HR2.out]; rfl)
                  have rm7 : wj.cell? ⟨wa.heap.size, 7, none⟩ = some (.int .i64 r7) := (hnn 7 (by omega)).1.trans (by show some (Value.int .i64 (cmp (sT p a0 a1 a2 a3 a4 a5 a6 a7 a8 (jm p [t0, t1, t2, t3, t4, t5, t6, t7, t8] [u0, u1, u2, u3, u4, u5, u6, u7, u8] 2)) 1)) = _; rw [HC2.out, HR2.out]; rfl)
                  have rm8 : wj.cell? ⟨wa.heap.size, 8, none⟩ = some (.int .i64 r8) := (hnn 8 (by omega)).1.trans (by show some (Value.int .i64 (cmp (sT p a0 a1 a2 a3 a4 a5 a6 a7 a8 (jm p [t0, t1, t2, t3, t4, t5, t6, t7, t8] [u0, u1, u2, u3, u4, u5, u6, u7, u8] 2)) 2)) = _; rw [HC2.out, HR2.out]; rfl)
                  have HBZ := Lib.hid (HBB.out.trans (hbl.mono (by have := HBB.out.size; omega)))
                  clear hbl hnn HNN HBL
                  rw [show ((3 : Nat) : Int) = 3 from rfl]
                  go_wp2_with fail
                  refine (detF16_d _ _ _ _ _ _ _ _ _ _ _ HP.out DN.out _).mono ?_
                  rintro e wz ⟨rfl, hb⟩
                  have HZZ := Lib.hid (HBZ.out.trans (hb.mono HBZ.out.size))
                  clear hb
                  go_wp2_with fail
                  go_ret
                  exact ⟨rfl, HZZ.out⟩

end Go.Proofs.Ytfdbkocpljiehaa
