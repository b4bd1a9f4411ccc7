/- Walks: the law FinitePlain, case by case. -/
import Derived.Test.YtfdbkocpljiehaaWk
import Derived.Test.YtfdbkocpljiehaaWr
import Derived.Test.YtfdbkocpljiehaaWe
set_option linter.unusedSimpArgs false
set_option linter.unusedVariables false
namespace Go.Proofs.Ytfdbkocpljiehaa
open Go.RowKit

theorem ba_c {B : Nat} {a w : World} (h : Below B a w) (hs : B ≤ a.heap.size) (o : Obj) : Below B a (w.alloc o) := h.alloc (Nat.le_trans hs h.size) o
theorem On20_okq (p a b c x y z u0 u1 u2 v0 v1 v2 : Int) (q : Bool) (hp : isP p = true) (hu : pl p a b c = (u0, u1, u2)) (hz : zz p a b c = false) (hv : pl p x y z = (v0, v1, v2)) (hy : zz p x y z = false)
    (hq : ((u0 * v0 + u1 * v1 + u2 * v2) % p == 0) = q) (w : World) :
    Calls Try.prog 20 #[.int .i64 p, .agg #[.int .i64 a, .int .i64 b, .int .i64 c], .agg #[.int .i64 x, .int .i64 y, .int .i64 z]] w fun e w' =>
      e = .returned (.tuple #[.bool q, .int .i64 0]) ∧ Below w.heap.size w w' := by
  subst hq; exact On20_ok p a b c x y z u0 u1 u2 v0 v1 v2 hp hu hz hv hy w
theorem dotF22q (a b c x y z p d : Int) (hp : isP p = true) (hd : (a % p * (x % p) + b % p * (y % p) + c % p * (z % p)) % p = d) (w : World) :
    Calls Try.prog 22 #[.agg #[.int .i64 a, .int .i64 b, .int .i64 c], .agg #[.int .i64 x, .int .i64 y, .int .i64 z], .int .i64 p] w fun e w' =>
      e = .returned (.int .i64 d) ∧ Below w.heap.size w w' := by
  subst hd; obtain ⟨h, h'⟩ := isP_bd hp; exact dotF22 a b c x y z p h h' w

set_option maxRecDepth 100000 in
set_option maxHeartbeats 4000000 in
theorem FinitePlain5_bad (p a b c x y z : Int) (hp : isP p = false) (w : World) :
    Calls Try.prog 5 #[.int .i64 p, .agg #[.int .i64 a, .int .i64 b, .int .i64 c], .agg #[.int .i64 x, .int .i64 y, .int .i64 z]] w fun e w' => e = .returned (.bool true) ∧ Below w.heap.size w w' := by
  have Hhp := Lib.hid hp
  clear hp
  go_enter Try.func5, Try.ntmps5
  go_wp2_with fail
  refine (Plain19_bad _ _ _ _ Hhp.out _).mono ?_
  rintro e w1 ⟨rfl, hb⟩
  have hsz : w.heap.size + 2 ≤ w1.heap.size := by have := hb.size; simp at this; omega
  have hs1_0 : w.heap.size < w1.heap.size := by omega
  have c1_0_0 : w1.cell? ⟨w.heap.size, 0, none⟩ = some (.int .i64 a) := by rw [hb.cell (by simp <;> omega)]; first | (simp [go_sem]; done)
  have c1_0_1 : w1.cell? ⟨w.heap.size, 1, none⟩ = some (.int .i64 b) := by rw [hb.cell (by simp <;> omega)]; first | (simp [go_sem]; done)
  have c1_0_2 : w1.cell? ⟨w.heap.size, 2, none⟩ = some (.int .i64 c) := by rw [hb.cell (by simp <;> omega)]; first | (simp [go_sem]; done)
  have hs1_1 : w.heap.size + 1 < w1.heap.size := by omega
  have c1_1_0 : w1.cell? ⟨w.heap.size + 1, 0, none⟩ = some (.int .i64 x) := by rw [hb.cell (by simp <;> omega)]; first | (simp [go_sem]; done)
  have c1_1_1 : w1.cell? ⟨w.heap.size + 1, 1, none⟩ = some (.int .i64 y) := by rw [hb.cell (by simp <;> omega)]; first | (simp [go_sem]; done)
  have c1_1_2 : w1.cell? ⟨w.heap.size + 1, 2, none⟩ = some (.int .i64 z) := by rw [hb.cell (by simp <;> omega)]; first | (simp [go_sem]; done)
  have HB1 := Lib.hid (Below.trans ((ba_c ((ba_c (Below.refl w.heap.size w) (Nat.le_refl _) _)) (Nat.le_refl _) _)) (hb.mono (Below.size (ba_c ((ba_c (Below.refl w.heap.size w) (Nat.le_refl _) _)) (Nat.le_refl _) _))))
  clear hb hsz
  go_wp2_with fail
  refine (Join17_bad _ _ _ _ _ _ _ Hhp.out _).mono ?_
  rintro e w2 ⟨rfl, hb⟩
  have hsz : w1.heap.size + 1 ≤ w2.heap.size := by have := hb.size; simp at this; omega
  have hs2_0 : w.heap.size < w2.heap.size := by omega
  have c2_0_0 : w2.cell? ⟨w.heap.size, 0, none⟩ = some (.int .i64 a) := by rw [hb.cell (by simp <;> omega)]; first | exact c1_0_0 | (rw [World.cell?_alloc_lt _ _ _ hs1_0]; exact c1_0_0) | (simp [go_sem]; done)
  have c2_0_1 : w2.cell? ⟨w.heap.size, 1, none⟩ = some (.int .i64 b) := by rw [hb.cell (by simp <;> omega)]; first | exact c1_0_1 | (rw [World.cell?_alloc_lt _ _ _ hs1_0]; exact c1_0_1) | (simp [go_sem]; done)
  have c2_0_2 : w2.cell? ⟨w.heap.size, 2, none⟩ = some (.int .i64 c) := by rw [hb.cell (by simp <;> omega)]; first | exact c1_0_2 | (rw [World.cell?_alloc_lt _ _ _ hs1_0]; exact c1_0_2) | (simp [go_sem]; done)
  have hs2_1 : w.heap.size + 1 < w2.heap.size := by omega
  have c2_1_0 : w2.cell? ⟨w.heap.size + 1, 0, none⟩ = some (.int .i64 x) := by rw [hb.cell (by simp <;> omega)]; first | exact c1_1_0 | (rw [World.cell?_alloc_lt _ _ _ hs1_1]; exact c1_1_0) | (simp [go_sem]; done)
  have c2_1_1 : w2.cell? ⟨w.heap.size + 1, 1, none⟩ = some (.int .i64 y) := by rw [hb.cell (by simp <;> omega)]; first | exact c1_1_1 | (rw [World.cell?_alloc_lt _ _ _ hs1_1]; exact c1_1_1) | (simp [go_sem]; done)
  have c2_1_2 : w2.cell? ⟨w.heap.size + 1, 2, none⟩ = some (.int .i64 z) := by rw [hb.cell (by simp <;> omega)]; first | exact c1_1_2 | (rw [World.cell?_alloc_lt _ _ _ hs1_1]; exact c1_1_2) | (simp [go_sem]; done)
  have hs2_2 : w1.heap.size < w2.heap.size := by omega
  have c2_2_0 : w2.cell? ⟨w1.heap.size, 0, none⟩ = some (.int .i64 0) := by rw [hb.cell (by simp <;> omega)]; first | (simp [go_sem]; done)
  have c2_2_1 : w2.cell? ⟨w1.heap.size, 1, none⟩ = some (.int .i64 0) := by rw [hb.cell (by simp <;> omega)]; first | (simp [go_sem]; done)
  have c2_2_2 : w2.cell? ⟨w1.heap.size, 2, none⟩ = some (.int .i64 0) := by rw [hb.cell (by simp <;> omega)]; first | (simp [go_sem]; done)
  have HB2 := Lib.hid (Below.trans ((ba_c (HB1.out) (Nat.le_refl _) _)) (hb.mono (Below.size (ba_c (HB1.out) (Nat.le_refl _) _))))
  clear hb hsz c1_0_0 c1_0_1 c1_0_2 c1_1_0 c1_1_1 c1_1_2 hs1_0 hs1_1
  go_wp2_with fail
  refine (On20_bad _ _ _ _ _ _ _ Hhp.out _).mono ?_
  rintro e w3 ⟨rfl, hb⟩
  have hsz : w2.heap.size + 1 ≤ w3.heap.size := by have := hb.size; simp at this; omega
  have hs3_0 : w.heap.size < w3.heap.size := by omega
  have c3_0_0 : w3.cell? ⟨w.heap.size, 0, none⟩ = some (.int .i64 a) := by rw [hb.cell (by simp <;> omega)]; first | exact c2_0_0 | (rw [World.cell?_alloc_lt _ _ _ hs2_0]; exact c2_0_0) | (simp [go_sem]; done)
  have c3_0_1 : w3.cell? ⟨w.heap.size, 1, none⟩ = some (.int .i64 b) := by rw [hb.cell (by simp <;> omega)]; first | exact c2_0_1 | (rw [World.cell?_alloc_lt _ _ _ hs2_0]; exact c2_0_1) | (simp [go_sem]; done)
  have c3_0_2 : w3.cell? ⟨w.heap.size, 2, none⟩ = some (.int .i64 c) := by rw [hb.cell (by simp <;> omega)]; first | exact c2_0_2 | (rw [World.cell?_alloc_lt _ _ _ hs2_0]; exact c2_0_2) | (simp [go_sem]; done)
  have hs3_1 : w.heap.size + 1 < w3.heap.size := by omega
  have c3_1_0 : w3.cell? ⟨w.heap.size + 1, 0, none⟩ = some (.int .i64 x) := by rw [hb.cell (by simp <;> omega)]; first | exact c2_1_0 | (rw [World.cell?_alloc_lt _ _ _ hs2_1]; exact c2_1_0) | (simp [go_sem]; done)
  have c3_1_1 : w3.cell? ⟨w.heap.size + 1, 1, none⟩ = some (.int .i64 y) := by rw [hb.cell (by simp <;> omega)]; first | exact c2_1_1 | (rw [World.cell?_alloc_lt _ _ _ hs2_1]; exact c2_1_1) | (simp [go_sem]; done)
  have c3_1_2 : w3.cell? ⟨w.heap.size + 1, 2, none⟩ = some (.int .i64 z) := by rw [hb.cell (by simp <;> omega)]; first | exact c2_1_2 | (rw [World.cell?_alloc_lt _ _ _ hs2_1]; exact c2_1_2) | (simp [go_sem]; done)
  have hs3_2 : w1.heap.size < w3.heap.size := by omega
  have c3_2_0 : w3.cell? ⟨w1.heap.size, 0, none⟩ = some (.int .i64 0) := by rw [hb.cell (by simp <;> omega)]; first | exact c2_2_0 | (rw [World.cell?_alloc_lt _ _ _ hs2_2]; exact c2_2_0) | (simp [go_sem]; done)
  have c3_2_1 : w3.cell? ⟨w1.heap.size, 1, none⟩ = some (.int .i64 0) := by rw [hb.cell (by simp <;> omega)]; first | exact c2_2_1 | (rw [World.cell?_alloc_lt _ _ _ hs2_2]; exact c2_2_1) | (simp [go_sem]; done)
  have c3_2_2 : w3.cell? ⟨w1.heap.size, 2, none⟩ = some (.int .i64 0) := by rw [hb.cell (by simp <;> omega)]; first | exact c2_2_2 | (rw [World.cell?_alloc_lt _ _ _ hs2_2]; exact c2_2_2) | (simp [go_sem]; done)
  have hs3_3 : w2.heap.size < w3.heap.size := by omega
  have c3_3_0 : w3.cell? ⟨w2.heap.size, 0, none⟩ = some (.int .i64 0) := by rw [hb.cell (by simp <;> omega)]; first | (simp [go_sem]; done)
  have c3_3_1 : w3.cell? ⟨w2.heap.size, 1, none⟩ = some (.int .i64 0) := by rw [hb.cell (by simp <;> omega)]; first | (simp [go_sem]; done)
  have c3_3_2 : w3.cell? ⟨w2.heap.size, 2, none⟩ = some (.int .i64 0) := by rw [hb.cell (by simp <;> omega)]; first | (simp [go_sem]; done)
  have HB3 := Lib.hid (Below.trans ((ba_c (HB2.out) (Nat.le_refl _) _)) (hb.mono (Below.size (ba_c (HB2.out) (Nat.le_refl _) _))))
  clear hb hsz c2_0_0 c2_0_1 c2_0_2 c2_1_0 c2_1_1 c2_1_2 c2_2_0 c2_2_1 c2_2_2 hs2_0 hs2_1 hs2_2
  go_wp2_with fail
  refine (counted14 _).mono ?_
  rintro e w4 ⟨rfl, hb⟩
  have hsz : w3.heap.size + 1 ≤ w4.heap.size := by have := hb.size; simp at this; omega
  have hs4_0 : w.heap.size < w4.heap.size := by omega
  have c4_0_0 : w4.cell? ⟨w.heap.size, 0, none⟩ = some (.int .i64 a) := by rw [hb.cell (by simp <;> omega)]; first | exact c3_0_0 | (rw [World.cell?_alloc_lt _ _ _ hs3_0]; exact c3_0_0) | (simp [go_sem]; done)
  have c4_0_1 : w4.cell? ⟨w.heap.size, 1, none⟩ = some (.int .i64 b) := by rw [hb.cell (by simp <;> omega)]; first | exact c3_0_1 | (rw [World.cell?_alloc_lt _ _ _ hs3_0]; exact c3_0_1) | (simp [go_sem]; done)
  have c4_0_2 : w4.cell? ⟨w.heap.size, 2, none⟩ = some (.int .i64 c) := by rw [hb.cell (by simp <;> omega)]; first | exact c3_0_2 | (rw [World.cell?_alloc_lt _ _ _ hs3_0]; exact c3_0_2) | (simp [go_sem]; done)
  have hs4_1 : w.heap.size + 1 < w4.heap.size := by omega
  have c4_1_0 : w4.cell? ⟨w.heap.size + 1, 0, none⟩ = some (.int .i64 x) := by rw [hb.cell (by simp <;> omega)]; first | exact c3_1_0 | (rw [World.cell?_alloc_lt _ _ _ hs3_1]; exact c3_1_0) | (simp [go_sem]; done)
  have c4_1_1 : w4.cell? ⟨w.heap.size + 1, 1, none⟩ = some (.int .i64 y) := by rw [hb.cell (by simp <;> omega)]; first | exact c3_1_1 | (rw [World.cell?_alloc_lt _ _ _ hs3_1]; exact c3_1_1) | (simp [go_sem]; done)
  have c4_1_2 : w4.cell? ⟨w.heap.size + 1, 2, none⟩ = some (.int .i64 z) := by rw [hb.cell (by simp <;> omega)]; first | exact c3_1_2 | (rw [World.cell?_alloc_lt _ _ _ hs3_1]; exact c3_1_2) | (simp [go_sem]; done)
  have hs4_2 : w1.heap.size < w4.heap.size := by omega
  have c4_2_0 : w4.cell? ⟨w1.heap.size, 0, none⟩ = some (.int .i64 0) := by rw [hb.cell (by simp <;> omega)]; first | exact c3_2_0 | (rw [World.cell?_alloc_lt _ _ _ hs3_2]; exact c3_2_0) | (simp [go_sem]; done)
  have c4_2_1 : w4.cell? ⟨w1.heap.size, 1, none⟩ = some (.int .i64 0) := by rw [hb.cell (by simp <;> omega)]; first | exact c3_2_1 | (rw [World.cell?_alloc_lt _ _ _ hs3_2]; exact c3_2_1) | (simp [go_sem]; done)
  have c4_2_2 : w4.cell? ⟨w1.heap.size, 2, none⟩ = some (.int .i64 0) := by rw [hb.cell (by simp <;> omega)]; first | exact c3_2_2 | (rw [World.cell?_alloc_lt _ _ _ hs3_2]; exact c3_2_2) | (simp [go_sem]; done)
  have hs4_3 : w2.heap.size < w4.heap.size := by omega
  have c4_3_0 : w4.cell? ⟨w2.heap.size, 0, none⟩ = some (.int .i64 0) := by rw [hb.cell (by simp <;> omega)]; first | exact c3_3_0 | (rw [World.cell?_alloc_lt _ _ _ hs3_3]; exact c3_3_0) | (simp [go_sem]; done)
  have c4_3_1 : w4.cell? ⟨w2.heap.size, 1, none⟩ = some (.int .i64 0) := by rw [hb.cell (by simp <;> omega)]; first | exact c3_3_1 | (rw [World.cell?_alloc_lt _ _ _ hs3_3]; exact c3_3_1) | (simp [go_sem]; done)
  have c4_3_2 : w4.cell? ⟨w2.heap.size, 2, none⟩ = some (.int .i64 0) := by rw [hb.cell (by simp <;> omega)]; first | exact c3_3_2 | (rw [World.cell?_alloc_lt _ _ _ hs3_3]; exact c3_3_2) | (simp [go_sem]; done)
  have hs4_4 : w3.heap.size < w4.heap.size := by omega
  have c4_4_0 : w4.cell? ⟨w3.heap.size, 0, none⟩ = some (.int .i64 0) := by rw [hb.cell (by simp <;> omega)]; first | (simp [go_sem]; done)
  have c4_4_1 : w4.cell? ⟨w3.heap.size, 1, none⟩ = some (.int .i64 0) := by rw [hb.cell (by simp <;> omega)]; first | (simp [go_sem]; done)
  have c4_4_2 : w4.cell? ⟨w3.heap.size, 2, none⟩ = some (.int .i64 0) := by rw [hb.cell (by simp <;> omega)]; first | (simp [go_sem]; done)
  have HB4 := Lib.hid (Below.trans ((ba_c (HB3.out) (Nat.le_refl _) _)) (hb.mono (Below.size (ba_c (HB3.out) (Nat.le_refl _) _))))
  clear hb hsz c3_0_0 c3_0_1 c3_0_2 c3_1_0 c3_1_1 c3_1_2 c3_2_0 c3_2_1 c3_2_2 c3_3_0 c3_3_1 c3_3_2 hs3_0 hs3_1 hs3_2 hs3_3
  go_wp2_with fail
  refine (isPrime15_no _ Hhp.out _).mono ?_
  rintro e w5 ⟨rfl, hb⟩
  have hsz : w4.heap.size ≤ w5.heap.size := hb.size
  have hs5_0 : w.heap.size < w5.heap.size := by omega
  have c5_0_0 : w5.cell? ⟨w.heap.size, 0, none⟩ = some (.int .i64 a) := by rw [hb.cell (by simp <;> omega)]; first | exact c4_0_0 | (rw [World.cell?_alloc_lt _ _ _ hs4_0]; exact c4_0_0) | (simp [go_sem]; done)
  have c5_0_1 : w5.cell? ⟨w.heap.size, 1, none⟩ = some (.int .i64 b) := by rw [hb.cell (by simp <;> omega)]; first | exact c4_0_1 | (rw [World.cell?_alloc_lt _ _ _ hs4_0]; exact c4_0_1) | (simp [go_sem]; done)
  have c5_0_2 : w5.cell? ⟨w.heap.size, 2, none⟩ = some (.int .i64 c) := by rw [hb.cell (by simp <;> omega)]; first | exact c4_0_2 | (rw [World.cell?_alloc_lt _ _ _ hs4_0]; exact c4_0_2) | (simp [go_sem]; done)
  have hs5_1 : w.heap.size + 1 < w5.heap.size := by omega
  have c5_1_0 : w5.cell? ⟨w.heap.size + 1, 0, none⟩ = some (.int .i64 x) := by rw [hb.cell (by simp <;> omega)]; first | exact c4_1_0 | (rw [World.cell?_alloc_lt _ _ _ hs4_1]; exact c4_1_0) | (simp [go_sem]; done)
  have c5_1_1 : w5.cell? ⟨w.heap.size + 1, 1, none⟩ = some (.int .i64 y) := by rw [hb.cell (by simp <;> omega)]; first | exact c4_1_1 | (rw [World.cell?_alloc_lt _ _ _ hs4_1]; exact c4_1_1) | (simp [go_sem]; done)
  have c5_1_2 : w5.cell? ⟨w.heap.size + 1, 2, none⟩ = some (.int .i64 z) := by rw [hb.cell (by simp <;> omega)]; first | exact c4_1_2 | (rw [World.cell?_alloc_lt _ _ _ hs4_1]; exact c4_1_2) | (simp [go_sem]; done)
  have hs5_2 : w1.heap.size < w5.heap.size := by omega
  have c5_2_0 : w5.cell? ⟨w1.heap.size, 0, none⟩ = some (.int .i64 0) := by rw [hb.cell (by simp <;> omega)]; first | exact c4_2_0 | (rw [World.cell?_alloc_lt _ _ _ hs4_2]; exact c4_2_0) | (simp [go_sem]; done)
  have c5_2_1 : w5.cell? ⟨w1.heap.size, 1, none⟩ = some (.int .i64 0) := by rw [hb.cell (by simp <;> omega)]; first | exact c4_2_1 | (rw [World.cell?_alloc_lt _ _ _ hs4_2]; exact c4_2_1) | (simp [go_sem]; done)
  have c5_2_2 : w5.cell? ⟨w1.heap.size, 2, none⟩ = some (.int .i64 0) := by rw [hb.cell (by simp <;> omega)]; first | exact c4_2_2 | (rw [World.cell?_alloc_lt _ _ _ hs4_2]; exact c4_2_2) | (simp [go_sem]; done)
  have hs5_3 : w2.heap.size < w5.heap.size := by omega
  have c5_3_0 : w5.cell? ⟨w2.heap.size, 0, none⟩ = some (.int .i64 0) := by rw [hb.cell (by simp <;> omega)]; first | exact c4_3_0 | (rw [World.cell?_alloc_lt _ _ _ hs4_3]; exact c4_3_0) | (simp [go_sem]; done)
  have c5_3_1 : w5.cell? ⟨w2.heap.size, 1, none⟩ = some (.int .i64 0) := by rw [hb.cell (by simp <;> omega)]; first | exact c4_3_1 | (rw [World.cell?_alloc_lt _ _ _ hs4_3]; exact c4_3_1) | (simp [go_sem]; done)
  have c5_3_2 : w5.cell? ⟨w2.heap.size, 2, none⟩ = some (.int .i64 0) := by rw [hb.cell (by simp <;> omega)]; first | exact c4_3_2 | (rw [World.cell?_alloc_lt _ _ _ hs4_3]; exact c4_3_2) | (simp [go_sem]; done)
  have hs5_4 : w3.heap.size < w5.heap.size := by omega
  have c5_4_0 : w5.cell? ⟨w3.heap.size, 0, none⟩ = some (.int .i64 0) := by rw [hb.cell (by simp <;> omega)]; first | exact c4_4_0 | (rw [World.cell?_alloc_lt _ _ _ hs4_4]; exact c4_4_0) | (simp [go_sem]; done)
  have c5_4_1 : w5.cell? ⟨w3.heap.size, 1, none⟩ = some (.int .i64 0) := by rw [hb.cell (by simp <;> omega)]; first | exact c4_4_1 | (rw [World.cell?_alloc_lt _ _ _ hs4_4]; exact c4_4_1) | (simp [go_sem]; done)
  have c5_4_2 : w5.cell? ⟨w3.heap.size, 2, none⟩ = some (.int .i64 0) := by rw [hb.cell (by simp <;> omega)]; first | exact c4_4_2 | (rw [World.cell?_alloc_lt _ _ _ hs4_4]; exact c4_4_2) | (simp [go_sem]; done)
  have HB5 := Lib.hid (Below.trans (HB4.out) (hb.mono (Below.size HB4.out)))
  clear hb hsz c4_0_0 c4_0_1 c4_0_2 c4_1_0 c4_1_1 c4_1_2 c4_2_0 c4_2_1 c4_2_2 c4_3_0 c4_3_1 c4_3_2 c4_4_0 c4_4_1 c4_4_2 hs4_0 hs4_1 hs4_2 hs4_3 hs4_4
  go_wp2_with fail
  refine (counted14 _).mono ?_
  rintro e w6 ⟨rfl, hb⟩
  have hsz : w5.heap.size ≤ w6.heap.size := hb.size
  have hs6_0 : w.heap.size < w6.heap.size := by omega
  have c6_0_0 : w6.cell? ⟨w.heap.size, 0, none⟩ = some (.int .i64 a) := by rw [hb.cell (by simp <;> omega)]; first | exact c5_0_0 | (rw [World.cell?_alloc_lt _ _ _ hs5_0]; exact c5_0_0) | (simp [go_sem]; done)
  have c6_0_1 : w6.cell? ⟨w.heap.size, 1, none⟩ = some (.int .i64 b) := by rw [hb.cell (by simp <;> omega)]; first | exact c5_0_1 | (rw [World.cell?_alloc_lt _ _ _ hs5_0]; exact c5_0_1) | (simp [go_sem]; done)
  have c6_0_2 : w6.cell? ⟨w.heap.size, 2, none⟩ = some (.int .i64 c) := by rw [hb.cell (by simp <;> omega)]; first | exact c5_0_2 | (rw [World.cell?_alloc_lt _ _ _ hs5_0]; exact c5_0_2) | (simp [go_sem]; done)
  have hs6_1 : w.heap.size + 1 < w6.heap.size := by omega
  have c6_1_0 : w6.cell? ⟨w.heap.size + 1, 0, none⟩ = some (.int .i64 x) := by rw [hb.cell (by simp <;> omega)]; first | exact c5_1_0 | (rw [World.cell?_alloc_lt _ _ _ hs5_1]; exact c5_1_0) | (simp [go_sem]; done)
  have c6_1_1 : w6.cell? ⟨w.heap.size + 1, 1, none⟩ = some (.int .i64 y) := by rw [hb.cell (by simp <;> omega)]; first | exact c5_1_1 | (rw [World.cell?_alloc_lt _ _ _ hs5_1]; exact c5_1_1) | (simp [go_sem]; done)
  have c6_1_2 : w6.cell? ⟨w.heap.size + 1, 2, none⟩ = some (.int .i64 z) := by rw [hb.cell (by simp <;> omega)]; first | exact c5_1_2 | (rw [World.cell?_alloc_lt _ _ _ hs5_1]; exact c5_1_2) | (simp [go_sem]; done)
  have hs6_2 : w1.heap.size < w6.heap.size := by omega
  have c6_2_0 : w6.cell? ⟨w1.heap.size, 0, none⟩ = some (.int .i64 0) := by rw [hb.cell (by simp <;> omega)]; first | exact c5_2_0 | (rw [World.cell?_alloc_lt _ _ _ hs5_2]; exact c5_2_0) | (simp [go_sem]; done)
  have c6_2_1 : w6.cell? ⟨w1.heap.size, 1, none⟩ = some (.int .i64 0) := by rw [hb.cell (by simp <;> omega)]; first | exact c5_2_1 | (rw [World.cell?_alloc_lt _ _ _ hs5_2]; exact c5_2_1) | (simp [go_sem]; done)
  have c6_2_2 : w6.cell? ⟨w1.heap.size, 2, none⟩ = some (.int .i64 0) := by rw [hb.cell (by simp <;> omega)]; first | exact c5_2_2 | (rw [World.cell?_alloc_lt _ _ _ hs5_2]; exact c5_2_2) | (simp [go_sem]; done)
  have hs6_3 : w2.heap.size < w6.heap.size := by omega
  have c6_3_0 : w6.cell? ⟨w2.heap.size, 0, none⟩ = some (.int .i64 0) := by rw [hb.cell (by simp <;> omega)]; first | exact c5_3_0 | (rw [World.cell?_alloc_lt _ _ _ hs5_3]; exact c5_3_0) | (simp [go_sem]; done)
  have c6_3_1 : w6.cell? ⟨w2.heap.size, 1, none⟩ = some (.int .i64 0) := by rw [hb.cell (by simp <;> omega)]; first | exact c5_3_1 | (rw [World.cell?_alloc_lt _ _ _ hs5_3]; exact c5_3_1) | (simp [go_sem]; done)
  have c6_3_2 : w6.cell? ⟨w2.heap.size, 2, none⟩ = some (.int .i64 0) := by rw [hb.cell (by simp <;> omega)]; first | exact c5_3_2 | (rw [World.cell?_alloc_lt _ _ _ hs5_3]; exact c5_3_2) | (simp [go_sem]; done)
  have hs6_4 : w3.heap.size < w6.heap.size := by omega
  have c6_4_0 : w6.cell? ⟨w3.heap.size, 0, none⟩ = some (.int .i64 0) := by rw [hb.cell (by simp <;> omega)]; first | exact c5_4_0 | (rw [World.cell?_alloc_lt _ _ _ hs5_4]; exact c5_4_0) | (simp [go_sem]; done)
  have c6_4_1 : w6.cell? ⟨w3.heap.size, 1, none⟩ = some (.int .i64 0) := by rw [hb.cell (by simp <;> omega)]; first | exact c5_4_1 | (rw [World.cell?_alloc_lt _ _ _ hs5_4]; exact c5_4_1) | (simp [go_sem]; done)
  have c6_4_2 : w6.cell? ⟨w3.heap.size, 2, none⟩ = some (.int .i64 0) := by rw [hb.cell (by simp <;> omega)]; first | exact c5_4_2 | (rw [World.cell?_alloc_lt _ _ _ hs5_4]; exact c5_4_2) | (simp [go_sem]; done)
  have HB6 := Lib.hid (Below.trans (HB5.out) (hb.mono (Below.size HB5.out)))
  clear hb hsz c5_0_0 c5_0_1 c5_0_2 c5_1_0 c5_1_1 c5_1_2 c5_2_0 c5_2_1 c5_2_2 c5_3_0 c5_3_1 c5_3_2 c5_4_0 c5_4_1 c5_4_2 hs5_0 hs5_1 hs5_2 hs5_3 hs5_4
  go_wp2
  go_ret
  exact ⟨rfl, HB6.out⟩

set_option maxRecDepth 100000 in
set_option maxHeartbeats 4000000 in
theorem FinitePlain5_fa (p a b c x y z u0 u1 u2 v0 v1 v2 : Int) (zb : Bool) (hp : isP p = true) (hu : pl p a b c = (u0, u1, u2)) (hz : zz p a b c = true) (hv : pl p x y z = (v0, v1, v2)) (hy : zz p x y z = zb) (w : World) :
    Calls Try.prog 5 #[.int .i64 p, .agg #[.int .i64 a, .int .i64 b, .int .i64 c], .agg #[.int .i64 x, .int .i64 y, .int .i64 z]] w fun e w' => e = .returned (.bool true) ∧ Below w.heap.size w w' := by
  have Hhp := Lib.hid hp
  have Hhu := Lib.hid hu
  have Hhz := Lib.hid hz
  have Hhv := Lib.hid hv
  have Hhy := Lib.hid hy
  clear hp hu hz hv hy
  go_enter Try.func5, Try.ntmps5
  go_wp2_with fail
  refine (Plain19_flat _ _ _ _ _ _ _ Hhp.out Hhu.out Hhz.out _).mono ?_
  rintro e w1 ⟨rfl, hb⟩
  have hsz : w.heap.size + 2 ≤ w1.heap.size := by have := hb.size; simp at this; omega
  have hs1_0 : w.heap.size < w1.heap.size := by omega
  have c1_0_0 : w1.cell? ⟨w.heap.size, 0, none⟩ = some (.int .i64 a) := by rw [hb.cell (by simp <;> omega)]; first | (simp [go_sem]; done)
  have c1_0_1 : w1.cell? ⟨w.heap.size, 1, none⟩ = some (.int .i64 b) := by rw [hb.cell (by simp <;> omega)]; first | (simp [go_sem]; done)
  have c1_0_2 : w1.cell? ⟨w.heap.size, 2, none⟩ = some (.int .i64 c) := by rw [hb.cell (by simp <;> omega)]; first | (simp [go_sem]; done)
  have hs1_1 : w.heap.size + 1 < w1.heap.size := by omega
  have c1_1_0 : w1.cell? ⟨w.heap.size + 1, 0, none⟩ = some (.int .i64 x) := by rw [hb.cell (by simp <;> omega)]; first | (simp [go_sem]; done)
  have c1_1_1 : w1.cell? ⟨w.heap.size + 1, 1, none⟩ = some (.int .i64 y) := by rw [hb.cell (by simp <;> omega)]; first | (simp [go_sem]; done)
  have c1_1_2 : w1.cell? ⟨w.heap.size + 1, 2, none⟩ = some (.int .i64 z) := by rw [hb.cell (by simp <;> omega)]; first | (simp [go_sem]; done)
  have HB1 := Lib.hid (Below.trans ((ba_c ((ba_c (Below.refl w.heap.size w) (Nat.le_refl _) _)) (Nat.le_refl _) _)) (hb.mono (Below.size (ba_c ((ba_c (Below.refl w.heap.size w) (Nat.le_refl _) _)) (Nat.le_refl _) _))))
  clear hb hsz
  go_wp2_with fail
  refine (Join17_fa _ _ _ _ _ _ _ _ _ _ _ _ _ _ Hhp.out Hhu.out Hhz.out Hhv.out Hhy.out _).mono ?_
  rintro e w2 ⟨rfl, hb⟩
  have hsz : w1.heap.size + 1 ≤ w2.heap.size := by have := hb.size; simp at this; omega
  have hs2_0 : w.heap.size < w2.heap.size := by omega
  have c2_0_0 : w2.cell? ⟨w.heap.size, 0, none⟩ = some (.int .i64 a) := by rw [hb.cell (by simp <;> omega)]; first | exact c1_0_0 | (rw [World.cell?_alloc_lt _ _ _ hs1_0]; exact c1_0_0) | (simp [go_sem]; done)
  have c2_0_1 : w2.cell? ⟨w.heap.size, 1, none⟩ = some (.int .i64 b) := by rw [hb.cell (by simp <;> omega)]; first | exact c1_0_1 | (rw [World.cell?_alloc_lt _ _ _ hs1_0]; exact c1_0_1) | (simp [go_sem]; done)
  have c2_0_2 : w2.cell? ⟨w.heap.size, 2, none⟩ = some (.int .i64 c) := by rw [hb.cell (by simp <;> omega)]; first | exact c1_0_2 | (rw [World.cell?_alloc_lt _ _ _ hs1_0]; exact c1_0_2) | (simp [go_sem]; done)
  have hs2_1 : w.heap.size + 1 < w2.heap.size := by omega
  have c2_1_0 : w2.cell? ⟨w.heap.size + 1, 0, none⟩ = some (.int .i64 x) := by rw [hb.cell (by simp <;> omega)]; first | exact c1_1_0 | (rw [World.cell?_alloc_lt _ _ _ hs1_1]; exact c1_1_0) | (simp [go_sem]; done)
  have c2_1_1 : w2.cell? ⟨w.heap.size + 1, 1, none⟩ = some (.int .i64 y) := by rw [hb.cell (by simp <;> omega)]; first | exact c1_1_1 | (rw [World.cell?_alloc_lt _ _ _ hs1_1]; exact c1_1_1) | (simp [go_sem]; done)
  have c2_1_2 : w2.cell? ⟨w.heap.size + 1, 2, none⟩ = some (.int .i64 z) := by rw [hb.cell (by simp <;> omega)]; first | exact c1_1_2 | (rw [World.cell?_alloc_lt _ _ _ hs1_1]; exact c1_1_2) | (simp [go_sem]; done)
  have hs2_2 : w1.heap.size < w2.heap.size := by omega
  have c2_2_0 : w2.cell? ⟨w1.heap.size, 0, none⟩ = some (.int .i64 0) := by rw [hb.cell (by simp <;> omega)]; first | (simp [go_sem]; done)
  have c2_2_1 : w2.cell? ⟨w1.heap.size, 1, none⟩ = some (.int .i64 0) := by rw [hb.cell (by simp <;> omega)]; first | (simp [go_sem]; done)
  have c2_2_2 : w2.cell? ⟨w1.heap.size, 2, none⟩ = some (.int .i64 0) := by rw [hb.cell (by simp <;> omega)]; first | (simp [go_sem]; done)
  have HB2 := Lib.hid (Below.trans ((ba_c (HB1.out) (Nat.le_refl _) _)) (hb.mono (Below.size (ba_c (HB1.out) (Nat.le_refl _) _))))
  clear hb hsz c1_0_0 c1_0_1 c1_0_2 c1_1_0 c1_1_1 c1_1_2 hs1_0 hs1_1
  go_wp2_with fail
  refine (On20_fa _ _ _ _ _ _ _ _ _ _ _ _ _ _ Hhp.out Hhu.out Hhz.out Hhv.out Hhy.out _).mono ?_
  rintro e w3 ⟨rfl, hb⟩
  have hsz : w2.heap.size + 1 ≤ w3.heap.size := by have := hb.size; simp at this; omega
  have hs3_0 : w.heap.size < w3.heap.size := by omega
  have c3_0_0 : w3.cell? ⟨w.heap.size, 0, none⟩ = some (.int .i64 a) := by rw [hb.cell (by simp <;> omega)]; first | exact c2_0_0 | (rw [World.cell?_alloc_lt _ _ _ hs2_0]; exact c2_0_0) | (simp [go_sem]; done)
  have c3_0_1 : w3.cell? ⟨w.heap.size, 1, none⟩ = some (.int .i64 b) := by rw [hb.cell (by simp <;> omega)]; first | exact c2_0_1 | (rw [World.cell?_alloc_lt _ _ _ hs2_0]; exact c2_0_1) | (simp [go_sem]; done)
  have c3_0_2 : w3.cell? ⟨w.heap.size, 2, none⟩ = some (.int .i64 c) := by rw [hb.cell (by simp <;> omega)]; first | exact c2_0_2 | (rw [World.cell?_alloc_lt _ _ _ hs2_0]; exact c2_0_2) | (simp [go_sem]; done)
  have hs3_1 : w.heap.size + 1 < w3.heap.size := by omega
  have c3_1_0 : w3.cell? ⟨w.heap.size + 1, 0, none⟩ = some (.int .i64 x) := by rw [hb.cell (by simp <;> omega)]; first | exact c2_1_0 | (rw [World.cell?_alloc_lt _ _ _ hs2_1]; exact c2_1_0) | (simp [go_sem]; done)
  have c3_1_1 : w3.cell? ⟨w.heap.size + 1, 1, none⟩ = some (.int .i64 y) := by rw [hb.cell (by simp <;> omega)]; first | exact c2_1_1 | (rw [World.cell?_alloc_lt _ _ _ hs2_1]; exact c2_1_1) | (simp [go_sem]; done)
  have c3_1_2 : w3.cell? ⟨w.heap.size + 1, 2, none⟩ = some (.int .i64 z) := by rw [hb.cell (by simp <;> omega)]; first | exact c2_1_2 | (rw [World.cell?_alloc_lt _ _ _ hs2_1]; exact c2_1_2) | (simp [go_sem]; done)
  have hs3_2 : w1.heap.size < w3.heap.size := by omega
  have c3_2_0 : w3.cell? ⟨w1.heap.size, 0, none⟩ = some (.int .i64 0) := by rw [hb.cell (by simp <;> omega)]; first | exact c2_2_0 | (rw [World.cell?_alloc_lt _ _ _ hs2_2]; exact c2_2_0) | (simp [go_sem]; done)
  have c3_2_1 : w3.cell? ⟨w1.heap.size, 1, none⟩ = some (.int .i64 0) := by rw [hb.cell (by simp <;> omega)]; first | exact c2_2_1 | (rw [World.cell?_alloc_lt _ _ _ hs2_2]; exact c2_2_1) | (simp [go_sem]; done)
  have c3_2_2 : w3.cell? ⟨w1.heap.size, 2, none⟩ = some (.int .i64 0) := by rw [hb.cell (by simp <;> omega)]; first | exact c2_2_2 | (rw [World.cell?_alloc_lt _ _ _ hs2_2]; exact c2_2_2) | (simp [go_sem]; done)
  have hs3_3 : w2.heap.size < w3.heap.size := by omega
  have c3_3_0 : w3.cell? ⟨w2.heap.size, 0, none⟩ = some (.int .i64 0) := by rw [hb.cell (by simp <;> omega)]; first | (simp [go_sem]; done)
  have c3_3_1 : w3.cell? ⟨w2.heap.size, 1, none⟩ = some (.int .i64 0) := by rw [hb.cell (by simp <;> omega)]; first | (simp [go_sem]; done)
  have c3_3_2 : w3.cell? ⟨w2.heap.size, 2, none⟩ = some (.int .i64 0) := by rw [hb.cell (by simp <;> omega)]; first | (simp [go_sem]; done)
  have HB3 := Lib.hid (Below.trans ((ba_c (HB2.out) (Nat.le_refl _) _)) (hb.mono (Below.size (ba_c (HB2.out) (Nat.le_refl _) _))))
  clear hb hsz c2_0_0 c2_0_1 c2_0_2 c2_1_0 c2_1_1 c2_1_2 c2_2_0 c2_2_1 c2_2_2 hs2_0 hs2_1 hs2_2
  go_wp2_with fail
  refine (counted14 _).mono ?_
  rintro e w4 ⟨rfl, hb⟩
  have hsz : w3.heap.size + 1 ≤ w4.heap.size := by have := hb.size; simp at this; omega
  have hs4_0 : w.heap.size < w4.heap.size := by omega
  have c4_0_0 : w4.cell? ⟨w.heap.size, 0, none⟩ = some (.int .i64 a) := by rw [hb.cell (by simp <;> omega)]; first | exact c3_0_0 | (rw [World.cell?_alloc_lt _ _ _ hs3_0]; exact c3_0_0) | (simp [go_sem]; done)
  have c4_0_1 : w4.cell? ⟨w.heap.size, 1, none⟩ = some (.int .i64 b) := by rw [hb.cell (by simp <;> omega)]; first | exact c3_0_1 | (rw [World.cell?_alloc_lt _ _ _ hs3_0]; exact c3_0_1) | (simp [go_sem]; done)
  have c4_0_2 : w4.cell? ⟨w.heap.size, 2, none⟩ = some (.int .i64 c) := by rw [hb.cell (by simp <;> omega)]; first | exact c3_0_2 | (rw [World.cell?_alloc_lt _ _ _ hs3_0]; exact c3_0_2) | (simp [go_sem]; done)
  have hs4_1 : w.heap.size + 1 < w4.heap.size := by omega
  have c4_1_0 : w4.cell? ⟨w.heap.size + 1, 0, none⟩ = some (.int .i64 x) := by rw [hb.cell (by simp <;> omega)]; first | exact c3_1_0 | (rw [World.cell?_alloc_lt _ _ _ hs3_1]; exact c3_1_0) | (simp [go_sem]; done)
  have c4_1_1 : w4.cell? ⟨w.heap.size + 1, 1, none⟩ = some (.int .i64 y) := by rw [hb.cell (by simp <;> omega)]; first | exact c3_1_1 | (rw [World.cell?_alloc_lt _ _ _ hs3_1]; exact c3_1_1) | (simp [go_sem]; done)
  have c4_1_2 : w4.cell? ⟨w.heap.size + 1, 2, none⟩ = some (.int .i64 z) := by rw [hb.cell (by simp <;> omega)]; first | exact c3_1_2 | (rw [World.cell?_alloc_lt _ _ _ hs3_1]; exact c3_1_2) | (simp [go_sem]; done)
  have hs4_2 : w1.heap.size < w4.heap.size := by omega
  have c4_2_0 : w4.cell? ⟨w1.heap.size, 0, none⟩ = some (.int .i64 0) := by rw [hb.cell (by simp <;> omega)]; first | exact c3_2_0 | (rw [World.cell?_alloc_lt _ _ _ hs3_2]; exact c3_2_0) | (simp [go_sem]; done)
  have c4_2_1 : w4.cell? ⟨w1.heap.size, 1, none⟩ = some (.int .i64 0) := by rw [hb.cell (by simp <;> omega)]; first | exact c3_2_1 | (rw [World.cell?_alloc_lt _ _ _ hs3_2]; exact c3_2_1) | (simp [go_sem]; done)
  have c4_2_2 : w4.cell? ⟨w1.heap.size, 2, none⟩ = some (.int .i64 0) := by rw [hb.cell (by simp <;> omega)]; first | exact c3_2_2 | (rw [World.cell?_alloc_lt _ _ _ hs3_2]; exact c3_2_2) | (simp [go_sem]; done)
  have hs4_3 : w2.heap.size < w4.heap.size := by omega
  have c4_3_0 : w4.cell? ⟨w2.heap.size, 0, none⟩ = some (.int .i64 0) := by rw [hb.cell (by simp <;> omega)]; first | exact c3_3_0 | (rw [World.cell?_alloc_lt _ _ _ hs3_3]; exact c3_3_0) | (simp [go_sem]; done)
  have c4_3_1 : w4.cell? ⟨w2.heap.size, 1, none⟩ = some (.int .i64 0) := by rw [hb.cell (by simp <;> omega)]; first | exact c3_3_1 | (rw [World.cell?_alloc_lt _ _ _ hs3_3]; exact c3_3_1) | (simp [go_sem]; done)
  have c4_3_2 : w4.cell? ⟨w2.heap.size, 2, none⟩ = some (.int .i64 0) := by rw [hb.cell (by simp <;> omega)]; first | exact c3_3_2 | (rw [World.cell?_alloc_lt _ _ _ hs3_3]; exact c3_3_2) | (simp [go_sem]; done)
  have hs4_4 : w3.heap.size < w4.heap.size := by omega
  have c4_4_0 : w4.cell? ⟨w3.heap.size, 0, none⟩ = some (.int .i64 0) := by rw [hb.cell (by simp <;> omega)]; first | (simp [go_sem]; done)
  have c4_4_1 : w4.cell? ⟨w3.heap.size, 1, none⟩ = some (.int .i64 0) := by rw [hb.cell (by simp <;> omega)]; first | (simp [go_sem]; done)
  have c4_4_2 : w4.cell? ⟨w3.heap.size, 2, none⟩ = some (.int .i64 0) := by rw [hb.cell (by simp <;> omega)]; first | (simp [go_sem]; done)
  have HB4 := Lib.hid (Below.trans ((ba_c (HB3.out) (Nat.le_refl _) _)) (hb.mono (Below.size (ba_c (HB3.out) (Nat.le_refl _) _))))
  clear hb hsz c3_0_0 c3_0_1 c3_0_2 c3_1_0 c3_1_1 c3_1_2 c3_2_0 c3_2_1 c3_2_2 c3_3_0 c3_3_1 c3_3_2 hs3_0 hs3_1 hs3_2 hs3_3
  go_wp2_with fail
  refine (isPrime15_yes _ Hhp.out _).mono ?_
  rintro e w5 ⟨rfl, hb⟩
  have hsz : w4.heap.size ≤ w5.heap.size := hb.size
  have hs5_0 : w.heap.size < w5.heap.size := by omega
  have c5_0_0 : w5.cell? ⟨w.heap.size, 0, none⟩ = some (.int .i64 a) := by rw [hb.cell (by simp <;> omega)]; first | exact c4_0_0 | (rw [World.cell?_alloc_lt _ _ _ hs4_0]; exact c4_0_0) | (simp [go_sem]; done)
  have c5_0_1 : w5.cell? ⟨w.heap.size, 1, none⟩ = some (.int .i64 b) := by rw [hb.cell (by simp <;> omega)]; first | exact c4_0_1 | (rw [World.cell?_alloc_lt _ _ _ hs4_0]; exact c4_0_1) | (simp [go_sem]; done)
  have c5_0_2 : w5.cell? ⟨w.heap.size, 2, none⟩ = some (.int .i64 c) := by rw [hb.cell (by simp <;> omega)]; first | exact c4_0_2 | (rw [World.cell?_alloc_lt _ _ _ hs4_0]; exact c4_0_2) | (simp [go_sem]; done)
  have hs5_1 : w.heap.size + 1 < w5.heap.size := by omega
  have c5_1_0 : w5.cell? ⟨w.heap.size + 1, 0, none⟩ = some (.int .i64 x) := by rw [hb.cell (by simp <;> omega)]; first | exact c4_1_0 | (rw [World.cell?_alloc_lt _ _ _ hs4_1]; exact c4_1_0) | (simp [go_sem]; done)
  have c5_1_1 : w5.cell? ⟨w.heap.size + 1, 1, none⟩ = some (.int .i64 y) := by rw [hb.cell (by simp <;> omega)]; first | exact c4_1_1 | (rw [World.cell?_alloc_lt _ _ _ hs4_1]; exact c4_1_1) | (simp [go_sem]; done)
  have c5_1_2 : w5.cell? ⟨w.heap.size + 1, 2, none⟩ = some (.int .i64 z) := by rw [hb.cell (by simp <;> omega)]; first | exact c4_1_2 | (rw [World.cell?_alloc_lt _ _ _ hs4_1]; exact c4_1_2) | (simp [go_sem]; done)
  have hs5_2 : w1.heap.size < w5.heap.size := by omega
  have c5_2_0 : w5.cell? ⟨w1.heap.size, 0, none⟩ = some (.int .i64 0) := by rw [hb.cell (by simp <;> omega)]; first | exact c4_2_0 | (rw [World.cell?_alloc_lt _ _ _ hs4_2]; exact c4_2_0) | (simp [go_sem]; done)
  have c5_2_1 : w5.cell? ⟨w1.heap.size, 1, none⟩ = some (.int .i64 0) := by rw [hb.cell (by simp <;> omega)]; first | exact c4_2_1 | (rw [World.cell?_alloc_lt _ _ _ hs4_2]; exact c4_2_1) | (simp [go_sem]; done)
  have c5_2_2 : w5.cell? ⟨w1.heap.size, 2, none⟩ = some (.int .i64 0) := by rw [hb.cell (by simp <;> omega)]; first | exact c4_2_2 | (rw [World.cell?_alloc_lt _ _ _ hs4_2]; exact c4_2_2) | (simp [go_sem]; done)
  have hs5_3 : w2.heap.size < w5.heap.size := by omega
  have c5_3_0 : w5.cell? ⟨w2.heap.size, 0, none⟩ = some (.int .i64 0) := by rw [hb.cell (by simp <;> omega)]; first | exact c4_3_0 | (rw [World.cell?_alloc_lt _ _ _ hs4_3]; exact c4_3_0) | (simp [go_sem]; done)
  have c5_3_1 : w5.cell? ⟨w2.heap.size, 1, none⟩ = some (.int .i64 0) := by rw [hb.cell (by simp <;> omega)]; first | exact c4_3_1 | (rw [World.cell?_alloc_lt _ _ _ hs4_3]; exact c4_3_1) | (simp [go_sem]; done)
  have c5_3_2 : w5.cell? ⟨w2.heap.size, 2, none⟩ = some (.int .i64 0) := by rw [hb.cell (by simp <;> omega)]; first | exact c4_3_2 | (rw [World.cell?_alloc_lt _ _ _ hs4_3]; exact c4_3_2) | (simp [go_sem]; done)
  have hs5_4 : w3.heap.size < w5.heap.size := by omega
  have c5_4_0 : w5.cell? ⟨w3.heap.size, 0, none⟩ = some (.int .i64 0) := by rw [hb.cell (by simp <;> omega)]; first | exact c4_4_0 | (rw [World.cell?_alloc_lt _ _ _ hs4_4]; exact c4_4_0) | (simp [go_sem]; done)
  have c5_4_1 : w5.cell? ⟨w3.heap.size, 1, none⟩ = some (.int .i64 0) := by rw [hb.cell (by simp <;> omega)]; first | exact c4_4_1 | (rw [World.cell?_alloc_lt _ _ _ hs4_4]; exact c4_4_1) | (simp [go_sem]; done)
  have c5_4_2 : w5.cell? ⟨w3.heap.size, 2, none⟩ = some (.int .i64 0) := by rw [hb.cell (by simp <;> omega)]; first | exact c4_4_2 | (rw [World.cell?_alloc_lt _ _ _ hs4_4]; exact c4_4_2) | (simp [go_sem]; done)
  have HB5 := Lib.hid (Below.trans (HB4.out) (hb.mono (Below.size HB4.out)))
  clear hb hsz c4_0_0 c4_0_1 c4_0_2 c4_1_0 c4_1_1 c4_1_2 c4_2_0 c4_2_1 c4_2_2 c4_3_0 c4_3_1 c4_3_2 c4_4_0 c4_4_1 c4_4_2 hs4_0 hs4_1 hs4_2 hs4_3 hs4_4
  go_wp2_with fail
  refine (plainF21e _ _ _ _ _ _ _ true Hhu.out Hhz.out Hhp.out _).mono ?_
  rintro e w6 ⟨rfl, hb⟩
  have hsz : w5.heap.size ≤ w6.heap.size := hb.size
  have hs6_0 : w.heap.size < w6.heap.size := by omega
  have c6_0_0 : w6.cell? ⟨w.heap.size, 0, none⟩ = some (.int .i64 a) := by rw [hb.cell (by simp <;> omega)]; first | exact c5_0_0 | (rw [World.cell?_alloc_lt _ _ _ hs5_0]; exact c5_0_0) | (simp [go_sem]; done)
  have c6_0_1 : w6.cell? ⟨w.heap.size, 1, none⟩ = some (.int .i64 b) := by rw [hb.cell (by simp <;> omega)]; first | exact c5_0_1 | (rw [World.cell?_alloc_lt _ _ _ hs5_0]; exact c5_0_1) | (simp [go_sem]; done)
  have c6_0_2 : w6.cell? ⟨w.heap.size, 2, none⟩ = some (.int .i64 c) := by rw [hb.cell (by simp <;> omega)]; first | exact c5_0_2 | (rw [World.cell?_alloc_lt _ _ _ hs5_0]; exact c5_0_2) | (simp [go_sem]; done)
  have hs6_1 : w.heap.size + 1 < w6.heap.size := by omega
  have c6_1_0 : w6.cell? ⟨w.heap.size + 1, 0, none⟩ = some (.int .i64 x) := by rw [hb.cell (by simp <;> omega)]; first | exact c5_1_0 | (rw [World.cell?_alloc_lt _ _ _ hs5_1]; exact c5_1_0) | (simp [go_sem]; done)
  have c6_1_1 : w6.cell? ⟨w.heap.size + 1, 1, none⟩ = some (.int .i64 y) := by rw [hb.cell (by simp <;> omega)]; first | exact c5_1_1 | (rw [World.cell?_alloc_lt _ _ _ hs5_1]; exact c5_1_1) | (simp [go_sem]; done)
  have c6_1_2 : w6.cell? ⟨w.heap.size + 1, 2, none⟩ = some (.int .i64 z) := by rw [hb.cell (by simp <;> omega)]; first | exact c5_1_2 | (rw [World.cell?_alloc_lt _ _ _ hs5_1]; exact c5_1_2) | (simp [go_sem]; done)
  have hs6_2 : w1.heap.size < w6.heap.size := by omega
  have c6_2_0 : w6.cell? ⟨w1.heap.size, 0, none⟩ = some (.int .i64 0) := by rw [hb.cell (by simp <;> omega)]; first | exact c5_2_0 | (rw [World.cell?_alloc_lt _ _ _ hs5_2]; exact c5_2_0) | (simp [go_sem]; done)
  have c6_2_1 : w6.cell? ⟨w1.heap.size, 1, none⟩ = some (.int .i64 0) := by rw [hb.cell (by simp <;> omega)]; first | exact c5_2_1 | (rw [World.cell?_alloc_lt _ _ _ hs5_2]; exact c5_2_1) | (simp [go_sem]; done)
  have c6_2_2 : w6.cell? ⟨w1.heap.size, 2, none⟩ = some (.int .i64 0) := by rw [hb.cell (by simp <;> omega)]; first | exact c5_2_2 | (rw [World.cell?_alloc_lt _ _ _ hs5_2]; exact c5_2_2) | (simp [go_sem]; done)
  have hs6_3 : w2.heap.size < w6.heap.size := by omega
  have c6_3_0 : w6.cell? ⟨w2.heap.size, 0, none⟩ = some (.int .i64 0) := by rw [hb.cell (by simp <;> omega)]; first | exact c5_3_0 | (rw [World.cell?_alloc_lt _ _ _ hs5_3]; exact c5_3_0) | (simp [go_sem]; done)
  have c6_3_1 : w6.cell? ⟨w2.heap.size, 1, none⟩ = some (.int .i64 0) := by rw [hb.cell (by simp <;> omega)]; first | exact c5_3_1 | (rw [World.cell?_alloc_lt _ _ _ hs5_3]; exact c5_3_1) | (simp [go_sem]; done)
  have c6_3_2 : w6.cell? ⟨w2.heap.size, 2, none⟩ = some (.int .i64 0) := by rw [hb.cell (by simp <;> omega)]; first | exact c5_3_2 | (rw [World.cell?_alloc_lt _ _ _ hs5_3]; exact c5_3_2) | (simp [go_sem]; done)
  have hs6_4 : w3.heap.size < w6.heap.size := by omega
  have c6_4_0 : w6.cell? ⟨w3.heap.size, 0, none⟩ = some (.int .i64 0) := by rw [hb.cell (by simp <;> omega)]; first | exact c5_4_0 | (rw [World.cell?_alloc_lt _ _ _ hs5_4]; exact c5_4_0) | (simp [go_sem]; done)
  have c6_4_1 : w6.cell? ⟨w3.heap.size, 1, none⟩ = some (.int .i64 0) := by rw [hb.cell (by simp <;> omega)]; first | exact c5_4_1 | (rw [World.cell?_alloc_lt _ _ _ hs5_4]; exact c5_4_1) | (simp [go_sem]; done)
  have c6_4_2 : w6.cell? ⟨w3.heap.size, 2, none⟩ = some (.int .i64 0) := by rw [hb.cell (by simp <;> omega)]; first | exact c5_4_2 | (rw [World.cell?_alloc_lt _ _ _ hs5_4]; exact c5_4_2) | (simp [go_sem]; done)
  have HB6 := Lib.hid (Below.trans (HB5.out) (hb.mono (Below.size HB5.out)))
  clear hb hsz c5_0_0 c5_0_1 c5_0_2 c5_1_0 c5_1_1 c5_1_2 c5_2_0 c5_2_1 c5_2_2 c5_3_0 c5_3_1 c5_3_2 c5_4_0 c5_4_1 c5_4_2 hs5_0 hs5_1 hs5_2 hs5_3 hs5_4
  go_wp2_with fail
  refine (plainF21e _ _ _ _ _ _ _ _ Hhv.out Hhy.out Hhp.out _).mono ?_
  rintro e w7 ⟨rfl, hb⟩
  have hsz : w6.heap.size + 1 ≤ w7.heap.size := by have := hb.size; simp at this; omega
  have hs7_0 : w.heap.size < w7.heap.size := by omega
  have c7_0_0 : w7.cell? ⟨w.heap.size, 0, none⟩ = some (.int .i64 a) := by rw [hb.cell (by simp <;> omega)]; first | exact c6_0_0 | (rw [World.cell?_alloc_lt _ _ _ hs6_0]; exact c6_0_0) | (simp [go_sem]; done)
  have c7_0_1 : w7.cell? ⟨w.heap.size, 1, none⟩ = some (.int .i64 b) := by rw [hb.cell (by simp <;> omega)]; first | exact c6_0_1 | (rw [World.cell?_alloc_lt _ _ _ hs6_0]; exact c6_0_1) | (simp [go_sem]; done)
  have c7_0_2 : w7.cell? ⟨w.heap.size, 2, none⟩ = some (.int .i64 c) := by rw [hb.cell (by simp <;> omega)]; first | exact c6_0_2 | (rw [World.cell?_alloc_lt _ _ _ hs6_0]; exact c6_0_2) | (simp [go_sem]; done)
  have hs7_1 : w.heap.size + 1 < w7.heap.size := by omega
  have c7_1_0 : w7.cell? ⟨w.heap.size + 1, 0, none⟩ = some (.int .i64 x) := by rw [hb.cell (by simp <;> omega)]; first | exact c6_1_0 | (rw [World.cell?_alloc_lt _ _ _ hs6_1]; exact c6_1_0) | (simp [go_sem]; done)
  have c7_1_1 : w7.cell? ⟨w.heap.size + 1, 1, none⟩ = some (.int .i64 y) := by rw [hb.cell (by simp <;> omega)]; first | exact c6_1_1 | (rw [World.cell?_alloc_lt _ _ _ hs6_1]; exact c6_1_1) | (simp [go_sem]; done)
  have c7_1_2 : w7.cell? ⟨w.heap.size + 1, 2, none⟩ = some (.int .i64 z) := by rw [hb.cell (by simp <;> omega)]; first | exact c6_1_2 | (rw [World.cell?_alloc_lt _ _ _ hs6_1]; exact c6_1_2) | (simp [go_sem]; done)
  have hs7_2 : w1.heap.size < w7.heap.size := by omega
  have c7_2_0 : w7.cell? ⟨w1.heap.size, 0, none⟩ = some (.int .i64 0) := by rw [hb.cell (by simp <;> omega)]; first | exact c6_2_0 | (rw [World.cell?_alloc_lt _ _ _ hs6_2]; exact c6_2_0) | (simp [go_sem]; done)
  have c7_2_1 : w7.cell? ⟨w1.heap.size, 1, none⟩ = some (.int .i64 0) := by rw [hb.cell (by simp <;> omega)]; first | exact c6_2_1 | (rw [World.cell?_alloc_lt _ _ _ hs6_2]; exact c6_2_1) | (simp [go_sem]; done)
  have c7_2_2 : w7.cell? ⟨w1.heap.size, 2, none⟩ = some (.int .i64 0) := by rw [hb.cell (by simp <;> omega)]; first | exact c6_2_2 | (rw [World.cell?_alloc_lt _ _ _ hs6_2]; exact c6_2_2) | (simp [go_sem]; done)
  have hs7_3 : w2.heap.size < w7.heap.size := by omega
  have c7_3_0 : w7.cell? ⟨w2.heap.size, 0, none⟩ = some (.int .i64 0) := by rw [hb.cell (by simp <;> omega)]; first | exact c6_3_0 | (rw [World.cell?_alloc_lt _ _ _ hs6_3]; exact c6_3_0) | (simp [go_sem]; done)
  have c7_3_1 : w7.cell? ⟨w2.heap.size, 1, none⟩ = some (.int .i64 0) := by rw [hb.cell (by simp <;> omega)]; first | exact c6_3_1 | (rw [World.cell?_alloc_lt _ _ _ hs6_3]; exact c6_3_1) | (simp [go_sem]; done)
  have c7_3_2 : w7.cell? ⟨w2.heap.size, 2, none⟩ = some (.int .i64 0) := by rw [hb.cell (by simp <;> omega)]; first | exact c6_3_2 | (rw [World.cell?_alloc_lt _ _ _ hs6_3]; exact c6_3_2) | (simp [go_sem]; done)
  have hs7_4 : w3.heap.size < w7.heap.size := by omega
  have c7_4_0 : w7.cell? ⟨w3.heap.size, 0, none⟩ = some (.int .i64 0) := by rw [hb.cell (by simp <;> omega)]; first | exact c6_4_0 | (rw [World.cell?_alloc_lt _ _ _ hs6_4]; exact c6_4_0) | (simp [go_sem]; done)
  have c7_4_1 : w7.cell? ⟨w3.heap.size, 1, none⟩ = some (.int .i64 0) := by rw [hb.cell (by simp <;> omega)]; first | exact c6_4_1 | (rw [World.cell?_alloc_lt _ _ _ hs6_4]; exact c6_4_1) | (simp [go_sem]; done)
  have c7_4_2 : w7.cell? ⟨w3.heap.size, 2, none⟩ = some (.int .i64 0) := by rw [hb.cell (by simp <;> omega)]; first | exact c6_4_2 | (rw [World.cell?_alloc_lt _ _ _ hs6_4]; exact c6_4_2) | (simp [go_sem]; done)
  have hs7_5 : w6.heap.size < w7.heap.size := by omega
  have c7_5_0 : w7.cell? ⟨w6.heap.size, 0, none⟩ = some (.int .i64 u0) := by rw [hb.cell (by simp <;> omega)]; first | (simp [go_sem]; done)
  have c7_5_1 : w7.cell? ⟨w6.heap.size, 1, none⟩ = some (.int .i64 u1) := by rw [hb.cell (by simp <;> omega)]; first | (simp [go_sem]; done)
  have c7_5_2 : w7.cell? ⟨w6.heap.size, 2, none⟩ = some (.int .i64 u2) := by rw [hb.cell (by simp <;> omega)]; first | (simp [go_sem]; done)
  have HB7 := Lib.hid (Below.trans ((ba_c (HB6.out) (Nat.le_refl _) _)) (hb.mono (Below.size (ba_c (HB6.out) (Nat.le_refl _) _))))
  clear hb hsz c6_0_0 c6_0_1 c6_0_2 c6_1_0 c6_1_1 c6_1_2 c6_2_0 c6_2_1 c6_2_2 c6_3_0 c6_3_1 c6_3_2 c6_4_0 c6_4_1 c6_4_2 hs6_0 hs6_1 hs6_2 hs6_3 hs6_4
  go_wp2
  go_ret
  exact ⟨rfl, (ba_c (HB7.out) (Nat.le_refl _) _)⟩

set_option maxRecDepth 100000 in
set_option maxHeartbeats 4000000 in
theorem FinitePlain5_fb (p a b c x y z u0 u1 u2 v0 v1 v2 : Int) (hp : isP p = true) (hu : pl p a b c = (u0, u1, u2)) (hz : zz p a b c = false) (hv : pl p x y z = (v0, v1, v2)) (hy : zz p x y z = true) (w : World) :
    Calls Try.prog 5 #[.int .i64 p, .agg #[.int .i64 a, .int .i64 b, .int .i64 c], .agg #[.int .i64 x, .int .i64 y, .int .i64 z]] w fun e w' => e = .returned (.bool true) ∧ Below w.heap.size w w' := by
  have Hhp := Lib.hid hp
  have Hhu := Lib.hid hu
  have Hhz := Lib.hid hz
  have Hhv := Lib.hid hv
  have Hhy := Lib.hid hy
  clear hp hu hz hv hy
  go_enter Try.func5, Try.ntmps5
  go_wp2_with fail
  refine (Plain19_ok _ _ _ _ _ _ _ Hhp.out Hhu.out Hhz.out _).mono ?_
  rintro e w1 ⟨rfl, hb⟩
  have hsz : w.heap.size + 2 ≤ w1.heap.size := by have := hb.size; simp at this; omega
  have hs1_0 : w.heap.size < w1.heap.size := by omega
  have c1_0_0 : w1.cell? ⟨w.heap.size, 0, none⟩ = some (.int .i64 a) := by rw [hb.cell (by simp <;> omega)]; first | (simp [go_sem]; done)
  have c1_0_1 : w1.cell? ⟨w.heap.size, 1, none⟩ = some (.int .i64 b) := by rw [hb.cell (by simp <;> omega)]; first | (simp [go_sem]; done)
  have c1_0_2 : w1.cell? ⟨w.heap.size, 2, none⟩ = some (.int .i64 c) := by rw [hb.cell (by simp <;> omega)]; first | (simp [go_sem]; done)
  have hs1_1 : w.heap.size + 1 < w1.heap.size := by omega
  have c1_1_0 : w1.cell? ⟨w.heap.size + 1, 0, none⟩ = some (.int .i64 x) := by rw [hb.cell (by simp <;> omega)]; first | (simp [go_sem]; done)
  have c1_1_1 : w1.cell? ⟨w.heap.size + 1, 1, none⟩ = some (.int .i64 y) := by rw [hb.cell (by simp <;> omega)]; first | (simp [go_sem]; done)
  have c1_1_2 : w1.cell? ⟨w.heap.size + 1, 2, none⟩ = some (.int .i64 z) := by rw [hb.cell (by simp <;> omega)]; first | (simp [go_sem]; done)
  have HB1 := Lib.hid (Below.trans ((ba_c ((ba_c (Below.refl w.heap.size w) (Nat.le_refl _) _)) (Nat.le_refl _) _)) (hb.mono (Below.size (ba_c ((ba_c (Below.refl w.heap.size w) (Nat.le_refl _) _)) (Nat.le_refl _) _))))
  clear hb hsz
  go_wp2_with fail
  refine (Join17_fb _ _ _ _ _ _ _ _ _ _ _ _ _ Hhp.out Hhu.out Hhz.out Hhv.out Hhy.out _).mono ?_
  rintro e w2 ⟨rfl, hb⟩
  have hsz : w1.heap.size + 1 ≤ w2.heap.size := by have := hb.size; simp at this; omega
  have hs2_0 : w.heap.size < w2.heap.size := by omega
  have c2_0_0 : w2.cell? ⟨w.heap.size, 0, none⟩ = some (.int .i64 a) := by rw [hb.cell (by simp <;> omega)]; first | exact c1_0_0 | (rw [World.cell?_alloc_lt _ _ _ hs1_0]; exact c1_0_0) | (simp [go_sem]; done)
  have c2_0_1 : w2.cell? ⟨w.heap.size, 1, none⟩ = some (.int .i64 b) := by rw [hb.cell (by simp <;> omega)]; first | exact c1_0_1 | (rw [World.cell?_alloc_lt _ _ _ hs1_0]; exact c1_0_1) | (simp [go_sem]; done)
  have c2_0_2 : w2.cell? ⟨w.heap.size, 2, none⟩ = some (.int .i64 c) := by rw [hb.cell (by simp <;> omega)]; first | exact c1_0_2 | (rw [World.cell?_alloc_lt _ _ _ hs1_0]; exact c1_0_2) | (simp [go_sem]; done)
  have hs2_1 : w.heap.size + 1 < w2.heap.size := by omega
  have c2_1_0 : w2.cell? ⟨w.heap.size + 1, 0, none⟩ = some (.int .i64 x) := by rw [hb.cell (by simp <;> omega)]; first | exact c1_1_0 | (rw [World.cell?_alloc_lt _ _ _ hs1_1]; exact c1_1_0) | (simp [go_sem]; done)
  have c2_1_1 : w2.cell? ⟨w.heap.size + 1, 1, none⟩ = some (.int .i64 y) := by rw [hb.cell (by simp <;> omega)]; first | exact c1_1_1 | (rw [World.cell?_alloc_lt _ _ _ hs1_1]; exact c1_1_1) | (simp [go_sem]; done)
  have c2_1_2 : w2.cell? ⟨w.heap.size + 1, 2, none⟩ = some (.int .i64 z) := by rw [hb.cell (by simp <;> omega)]; first | exact c1_1_2 | (rw [World.cell?_alloc_lt _ _ _ hs1_1]; exact c1_1_2) | (simp [go_sem]; done)
  have hs2_2 : w1.heap.size < w2.heap.size := by omega
  have c2_2_0 : w2.cell? ⟨w1.heap.size, 0, none⟩ = some (.int .i64 u0) := by rw [hb.cell (by simp <;> omega)]; first | (simp [go_sem]; done)
  have c2_2_1 : w2.cell? ⟨w1.heap.size, 1, none⟩ = some (.int .i64 u1) := by rw [hb.cell (by simp <;> omega)]; first | (simp [go_sem]; done)
  have c2_2_2 : w2.cell? ⟨w1.heap.size, 2, none⟩ = some (.int .i64 u2) := by rw [hb.cell (by simp <;> omega)]; first | (simp [go_sem]; done)
  have HB2 := Lib.hid (Below.trans ((ba_c (HB1.out) (Nat.le_refl _) _)) (hb.mono (Below.size (ba_c (HB1.out) (Nat.le_refl _) _))))
  clear hb hsz c1_0_0 c1_0_1 c1_0_2 c1_1_0 c1_1_1 c1_1_2 hs1_0 hs1_1
  go_wp2_with fail
  refine (On20_fb _ _ _ _ _ _ _ _ _ _ _ _ _ Hhp.out Hhu.out Hhz.out Hhv.out Hhy.out _).mono ?_
  rintro e w3 ⟨rfl, hb⟩
  have hsz : w2.heap.size + 1 ≤ w3.heap.size := by have := hb.size; simp at this; omega
  have hs3_0 : w.heap.size < w3.heap.size := by omega
  have c3_0_0 : w3.cell? ⟨w.heap.size, 0, none⟩ = some (.int .i64 a) := by rw [hb.cell (by simp <;> omega)]; first | exact c2_0_0 | (rw [World.cell?_alloc_lt _ _ _ hs2_0]; exact c2_0_0) | (simp [go_sem]; done)
  have c3_0_1 : w3.cell? ⟨w.heap.size, 1, none⟩ = some (.int .i64 b) := by rw [hb.cell (by simp <;> omega)]; first | exact c2_0_1 | (rw [World.cell?_alloc_lt _ _ _ hs2_0]; exact c2_0_1) | (simp [go_sem]; done)
  have c3_0_2 : w3.cell? ⟨w.heap.size, 2, none⟩ = some (.int .i64 c) := by rw [hb.cell (by simp <;> omega)]; first | exact c2_0_2 | (rw [World.cell?_alloc_lt _ _ _ hs2_0]; exact c2_0_2) | (simp [go_sem]; done)
  have hs3_1 : w.heap.size + 1 < w3.heap.size := by omega
  have c3_1_0 : w3.cell? ⟨w.heap.size + 1, 0, none⟩ = some (.int .i64 x) := by rw [hb.cell (by simp <;> omega)]; first | exact c2_1_0 | (rw [World.cell?_alloc_lt _ _ _ hs2_1]; exact c2_1_0) | (simp [go_sem]; done)
  have c3_1_1 : w3.cell? ⟨w.heap.size + 1, 1, none⟩ = some (.int .i64 y) := by rw [hb.cell (by simp <;> omega)]; first | exact c2_1_1 | (rw [World.cell?_alloc_lt _ _ _ hs2_1]; exact c2_1_1) | (simp [go_sem]; done)
  have c3_1_2 : w3.cell? ⟨w.heap.size + 1, 2, none⟩ = some (.int .i64 z) := by rw [hb.cell (by simp <;> omega)]; first | exact c2_1_2 | (rw [World.cell?_alloc_lt _ _ _ hs2_1]; exact c2_1_2) | (simp [go_sem]; done)
  have hs3_2 : w1.heap.size < w3.heap.size := by omega
  have c3_2_0 : w3.cell? ⟨w1.heap.size, 0, none⟩ = some (.int .i64 u0) := by rw [hb.cell (by simp <;> omega)]; first | exact c2_2_0 | (rw [World.cell?_alloc_lt _ _ _ hs2_2]; exact c2_2_0) | (simp [go_sem]; done)
  have c3_2_1 : w3.cell? ⟨w1.heap.size, 1, none⟩ = some (.int .i64 u1) := by rw [hb.cell (by simp <;> omega)]; first | exact c2_2_1 | (rw [World.cell?_alloc_lt _ _ _ hs2_2]; exact c2_2_1) | (simp [go_sem]; done)
  have c3_2_2 : w3.cell? ⟨w1.heap.size, 2, none⟩ = some (.int .i64 u2) := by rw [hb.cell (by simp <;> omega)]; first | exact c2_2_2 | (rw [World.cell?_alloc_lt _ _ _ hs2_2]; exact c2_2_2) | (simp [go_sem]; done)
  have hs3_3 : w2.heap.size < w3.heap.size := by omega
  have c3_3_0 : w3.cell? ⟨w2.heap.size, 0, none⟩ = some (.int .i64 0) := by rw [hb.cell (by simp <;> omega)]; first | (simp [go_sem]; done)
  have c3_3_1 : w3.cell? ⟨w2.heap.size, 1, none⟩ = some (.int .i64 0) := by rw [hb.cell (by simp <;> omega)]; first | (simp [go_sem]; done)
  have c3_3_2 : w3.cell? ⟨w2.heap.size, 2, none⟩ = some (.int .i64 0) := by rw [hb.cell (by simp <;> omega)]; first | (simp [go_sem]; done)
  have HB3 := Lib.hid (Below.trans ((ba_c (HB2.out) (Nat.le_refl _) _)) (hb.mono (Below.size (ba_c (HB2.out) (Nat.le_refl _) _))))
  clear hb hsz c2_0_0 c2_0_1 c2_0_2 c2_1_0 c2_1_1 c2_1_2 c2_2_0 c2_2_1 c2_2_2 hs2_0 hs2_1 hs2_2
  go_wp2_with fail
  refine (counted14 _).mono ?_
  rintro e w4 ⟨rfl, hb⟩
  have hsz : w3.heap.size + 1 ≤ w4.heap.size := by have := hb.size; simp at this; omega
  have hs4_0 : w.heap.size < w4.heap.size := by omega
  have c4_0_0 : w4.cell? ⟨w.heap.size, 0, none⟩ = some (.int .i64 a) := by rw [hb.cell (by simp <;> omega)]; first | exact c3_0_0 | (rw [World.cell?_alloc_lt _ _ _ hs3_0]; exact c3_0_0) | (simp [go_sem]; done)
  have c4_0_1 : w4.cell? ⟨w.heap.size, 1, none⟩ = some (.int .i64 b) := by rw [hb.cell (by simp <;> omega)]; first | exact c3_0_1 | (rw [World.cell?_alloc_lt _ _ _ hs3_0]; exact c3_0_1) | (simp [go_sem]; done)
  have c4_0_2 : w4.cell? ⟨w.heap.size, 2, none⟩ = some (.int .i64 c) := by rw [hb.cell (by simp <;> omega)]; first | exact c3_0_2 | (rw [World.cell?_alloc_lt _ _ _ hs3_0]; exact c3_0_2) | (simp [go_sem]; done)
  have hs4_1 : w.heap.size + 1 < w4.heap.size := by omega
  have c4_1_0 : w4.cell? ⟨w.heap.size + 1, 0, none⟩ = some (.int .i64 x) := by rw [hb.cell (by simp <;> omega)]; first | exact c3_1_0 | (rw [World.cell?_alloc_lt _ _ _ hs3_1]; exact c3_1_0) | (simp [go_sem]; done)
  have c4_1_1 : w4.cell? ⟨w.heap.size + 1, 1, none⟩ = some (.int .i64 y) := by rw [hb.cell (by simp <;> omega)]; first | exact c3_1_1 | (rw [World.cell?_alloc_lt _ _ _ hs3_1]; exact c3_1_1) | (simp [go_sem]; done)
  have c4_1_2 : w4.cell? ⟨w.heap.size + 1, 2, none⟩ = some (.int .i64 z) := by rw [hb.cell (by simp <;> omega)]; first | exact c3_1_2 | (rw [World.cell?_alloc_lt _ _ _ hs3_1]; exact c3_1_2) | (simp [go_sem]; done)
  have hs4_2 : w1.heap.size < w4.heap.size := by omega
  have c4_2_0 : w4.cell? ⟨w1.heap.size, 0, none⟩ = some (.int .i64 u0) := by rw [hb.cell (by simp <;> omega)]; first | exact c3_2_0 | (rw [World.cell?_alloc_lt _ _ _ hs3_2]; exact c3_2_0) | (simp [go_sem]; done)
  have c4_2_1 : w4.cell? ⟨w1.heap.size, 1, none⟩ = some (.int .i64 u1) := by rw [hb.cell (by simp <;> omega)]; first | exact c3_2_1 | (rw [World.cell?_alloc_lt _ _ _ hs3_2]; exact c3_2_1) | (simp [go_sem]; done)
  have c4_2_2 : w4.cell? ⟨w1.heap.size, 2, none⟩ = some (.int .i64 u2) := by rw [hb.cell (by simp <;> omega)]; first | exact c3_2_2 | (rw [World.cell?_alloc_lt _ _ _ hs3_2]; exact c3_2_2) | (simp [go_sem]; done)
  have hs4_3 : w2.heap.size < w4.heap.size := by omega
  have c4_3_0 : w4.cell? ⟨w2.heap.size, 0, none⟩ = some (.int .i64 0) := by rw [hb.cell (by simp <;> omega)]; first | exact c3_3_0 | (rw [World.cell?_alloc_lt _ _ _ hs3_3]; exact c3_3_0) | (simp [go_sem]; done)
  have c4_3_1 : w4.cell? ⟨w2.heap.size, 1, none⟩ = some (.int .i64 0) := by rw [hb.cell (by simp <;> omega)]; first | exact c3_3_1 | (rw [World.cell?_alloc_lt _ _ _ hs3_3]; exact c3_3_1) | (simp [go_sem]; done)
  have c4_3_2 : w4.cell? ⟨w2.heap.size, 2, none⟩ = some (.int .i64 0) := by rw [hb.cell (by simp <;> omega)]; first | exact c3_3_2 | (rw [World.cell?_alloc_lt _ _ _ hs3_3]; exact c3_3_2) | (simp [go_sem]; done)
  have hs4_4 : w3.heap.size < w4.heap.size := by omega
  have c4_4_0 : w4.cell? ⟨w3.heap.size, 0, none⟩ = some (.int .i64 0) := by rw [hb.cell (by simp <;> omega)]; first | (simp [go_sem]; done)
  have c4_4_1 : w4.cell? ⟨w3.heap.size, 1, none⟩ = some (.int .i64 0) := by rw [hb.cell (by simp <;> omega)]; first | (simp [go_sem]; done)
  have c4_4_2 : w4.cell? ⟨w3.heap.size, 2, none⟩ = some (.int .i64 0) := by rw [hb.cell (by simp <;> omega)]; first | (simp [go_sem]; done)
  have HB4 := Lib.hid (Below.trans ((ba_c (HB3.out) (Nat.le_refl _) _)) (hb.mono (Below.size (ba_c (HB3.out) (Nat.le_refl _) _))))
  clear hb hsz c3_0_0 c3_0_1 c3_0_2 c3_1_0 c3_1_1 c3_1_2 c3_2_0 c3_2_1 c3_2_2 c3_3_0 c3_3_1 c3_3_2 hs3_0 hs3_1 hs3_2 hs3_3
  go_wp2_with fail
  refine (isPrime15_yes _ Hhp.out _).mono ?_
  rintro e w5 ⟨rfl, hb⟩
  have hsz : w4.heap.size ≤ w5.heap.size := hb.size
  have hs5_0 : w.heap.size < w5.heap.size := by omega
  have c5_0_0 : w5.cell? ⟨w.heap.size, 0, none⟩ = some (.int .i64 a) := by rw [hb.cell (by simp <;> omega)]; first | exact c4_0_0 | (rw [World.cell?_alloc_lt _ _ _ hs4_0]; exact c4_0_0) | (simp [go_sem]; done)
  have c5_0_1 : w5.cell? ⟨w.heap.size, 1, none⟩ = some (.int .i64 b) := by rw [hb.cell (by simp <;> omega)]; first | exact c4_0_1 | (rw [World.cell?_alloc_lt _ _ _ hs4_0]; exact c4_0_1) | (simp [go_sem]; done)
  have c5_0_2 : w5.cell? ⟨w.heap.size, 2, none⟩ = some (.int .i64 c) := by rw [hb.cell (by simp <;> omega)]; first | exact c4_0_2 | (rw [World.cell?_alloc_lt _ _ _ hs4_0]; exact c4_0_2) | (simp [go_sem]; done)
  have hs5_1 : w.heap.size + 1 < w5.heap.size := by omega
  have c5_1_0 : w5.cell? ⟨w.heap.size + 1, 0, none⟩ = some (.int .i64 x) := by rw [hb.cell (by simp <;> omega)]; first | exact c4_1_0 | (rw [World.cell?_alloc_lt _ _ _ hs4_1]; exact c4_1_0) | (simp [go_sem]; done)
  have c5_1_1 : w5.cell? ⟨w.heap.size + 1, 1, none⟩ = some (.int .i64 y) := by rw [hb.cell (by simp <;> omega)]; first | exact c4_1_1 | (rw [World.cell?_alloc_lt _ _ _ hs4_1]; exact c4_1_1) | (simp [go_sem]; done)
  have c5_1_2 : w5.cell? ⟨w.heap.size + 1, 2, none⟩ = some (.int .i64 z) := by rw [hb.cell (by simp <;> omega)]; first | exact c4_1_2 | (rw [World.cell?_alloc_lt _ _ _ hs4_1]; exact c4_1_2) | (simp [go_sem]; done)
  have hs5_2 : w1.heap.size < w5.heap.size := by omega
  have c5_2_0 : w5.cell? ⟨w1.heap.size, 0, none⟩ = some (.int .i64 u0) := by rw [hb.cell (by simp <;> omega)]; first | exact c4_2_0 | (rw [World.cell?_alloc_lt _ _ _ hs4_2]; exact c4_2_0) | (simp [go_sem]; done)
  have c5_2_1 : w5.cell? ⟨w1.heap.size, 1, none⟩ = some (.int .i64 u1) := by rw [hb.cell (by simp <;> omega)]; first | exact c4_2_1 | (rw [World.cell?_alloc_lt _ _ _ hs4_2]; exact c4_2_1) | (simp [go_sem]; done)
  have c5_2_2 : w5.cell? ⟨w1.heap.size, 2, none⟩ = some (.int .i64 u2) := by rw [hb.cell (by simp <;> omega)]; first | exact c4_2_2 | (rw [World.cell?_alloc_lt _ _ _ hs4_2]; exact c4_2_2) | (simp [go_sem]; done)
  have hs5_3 : w2.heap.size < w5.heap.size := by omega
  have c5_3_0 : w5.cell? ⟨w2.heap.size, 0, none⟩ = some (.int .i64 0) := by rw [hb.cell (by simp <;> omega)]; first | exact c4_3_0 | (rw [World.cell?_alloc_lt _ _ _ hs4_3]; exact c4_3_0) | (simp [go_sem]; done)
  have c5_3_1 : w5.cell? ⟨w2.heap.size, 1, none⟩ = some (.int .i64 0) := by rw [hb.cell (by simp <;> omega)]; first | exact c4_3_1 | (rw [World.cell?_alloc_lt _ _ _ hs4_3]; exact c4_3_1) | (simp [go_sem]; done)
  have c5_3_2 : w5.cell? ⟨w2.heap.size, 2, none⟩ = some (.int .i64 0) := by rw [hb.cell (by simp <;> omega)]; first | exact c4_3_2 | (rw [World.cell?_alloc_lt _ _ _ hs4_3]; exact c4_3_2) | (simp [go_sem]; done)
  have hs5_4 : w3.heap.size < w5.heap.size := by omega
  have c5_4_0 : w5.cell? ⟨w3.heap.size, 0, none⟩ = some (.int .i64 0) := by rw [hb.cell (by simp <;> omega)]; first | exact c4_4_0 | (rw [World.cell?_alloc_lt _ _ _ hs4_4]; exact c4_4_0) | (simp [go_sem]; done)
  have c5_4_1 : w5.cell? ⟨w3.heap.size, 1, none⟩ = some (.int .i64 0) := by rw [hb.cell (by simp <;> omega)]; first | exact c4_4_1 | (rw [World.cell?_alloc_lt _ _ _ hs4_4]; exact c4_4_1) | (simp [go_sem]; done)
  have c5_4_2 : w5.cell? ⟨w3.heap.size, 2, none⟩ = some (.int .i64 0) := by rw [hb.cell (by simp <;> omega)]; first | exact c4_4_2 | (rw [World.cell?_alloc_lt _ _ _ hs4_4]; exact c4_4_2) | (simp [go_sem]; done)
  have HB5 := Lib.hid (Below.trans (HB4.out) (hb.mono (Below.size HB4.out)))
  clear hb hsz c4_0_0 c4_0_1 c4_0_2 c4_1_0 c4_1_1 c4_1_2 c4_2_0 c4_2_1 c4_2_2 c4_3_0 c4_3_1 c4_3_2 c4_4_0 c4_4_1 c4_4_2 hs4_0 hs4_1 hs4_2 hs4_3 hs4_4
  go_wp2_with fail
  refine (plainF21e _ _ _ _ _ _ _ false Hhu.out Hhz.out Hhp.out _).mono ?_
  rintro e w6 ⟨rfl, hb⟩
  have hsz : w5.heap.size ≤ w6.heap.size := hb.size
  have hs6_0 : w.heap.size < w6.heap.size := by omega
  have c6_0_0 : w6.cell? ⟨w.heap.size, 0, none⟩ = some (.int .i64 a) := by rw [hb.cell (by simp <;> omega)]; first | exact c5_0_0 | (rw [World.cell?_alloc_lt _ _ _ hs5_0]; exact c5_0_0) | (simp [go_sem]; done)
  have c6_0_1 : w6.cell? ⟨w.heap.size, 1, none⟩ = some (.int .i64 b) := by rw [hb.cell (by simp <;> omega)]; first | exact c5_0_1 | (rw [World.cell?_alloc_lt _ _ _ hs5_0]; exact c5_0_1) | (simp [go_sem]; done)
  have c6_0_2 : w6.cell? ⟨w.heap.size, 2, none⟩ = some (.int .i64 c) := by rw [hb.cell (by simp <;> omega)]; first | exact c5_0_2 | (rw [World.cell?_alloc_lt _ _ _ hs5_0]; exact c5_0_2) | (simp [go_sem]; done)
  have hs6_1 : w.heap.size + 1 < w6.heap.size := by omega
  have c6_1_0 : w6.cell? ⟨w.heap.size + 1, 0, none⟩ = some (.int .i64 x) := by rw [hb.cell (by simp <;> omega)]; first | exact c5_1_0 | (rw [World.cell?_alloc_lt _ _ _ hs5_1]; exact c5_1_0) | (simp [go_sem]; done)
  have c6_1_1 : w6.cell? ⟨w.heap.size + 1, 1, none⟩ = some (.int .i64 y) := by rw [hb.cell (by simp <;> omega)]; first | exact c5_1_1 | (rw [World.cell?_alloc_lt _ _ _ hs5_1]; exact c5_1_1) | (simp [go_sem]; done)
  have c6_1_2 : w6.cell? ⟨w.heap.size + 1, 2, none⟩ = some (.int .i64 z) := by rw [hb.cell (by simp <;> omega)]; first | exact c5_1_2 | (rw [World.cell?_alloc_lt _ _ _ hs5_1]; exact c5_1_2) | (simp [go_sem]; done)
  have hs6_2 : w1.heap.size < w6.heap.size := by omega
  have c6_2_0 : w6.cell? ⟨w1.heap.size, 0, none⟩ = some (.int .i64 u0) := by rw [hb.cell (by simp <;> omega)]; first | exact c5_2_0 | (rw [World.cell?_alloc_lt _ _ _ hs5_2]; exact c5_2_0) | (simp [go_sem]; done)
  have c6_2_1 : w6.cell? ⟨w1.heap.size, 1, none⟩ = some (.int .i64 u1) := by rw [hb.cell (by simp <;> omega)]; first | exact c5_2_1 | (rw [World.cell?_alloc_lt _ _ _ hs5_2]; exact c5_2_1) | (simp [go_sem]; done)
  have c6_2_2 : w6.cell? ⟨w1.heap.size, 2, none⟩ = some (.int .i64 u2) := by rw [hb.cell (by simp <;> omega)]; first | exact c5_2_2 | (rw [World.cell?_alloc_lt _ _ _ hs5_2]; exact c5_2_2) | (simp [go_sem]; done)
  have hs6_3 : w2.heap.size < w6.heap.size := by omega
  have c6_3_0 : w6.cell? ⟨w2.heap.size, 0, none⟩ = some (.int .i64 0) := by rw [hb.cell (by simp <;> omega)]; first | exact c5_3_0 | (rw [World.cell?_alloc_lt _ _ _ hs5_3]; exact c5_3_0) | (simp [go_sem]; done)
  have c6_3_1 : w6.cell? ⟨w2.heap.size, 1, none⟩ = some (.int .i64 0) := by rw [hb.cell (by simp <;> omega)]; first | exact c5_3_1 | (rw [World.cell?_alloc_lt _ _ _ hs5_3]; exact c5_3_1) | (simp [go_sem]; done)
  have c6_3_2 : w6.cell? ⟨w2.heap.size, 2, none⟩ = some (.int .i64 0) := by rw [hb.cell (by simp <;> omega)]; first | exact c5_3_2 | (rw [World.cell?_alloc_lt _ _ _ hs5_3]; exact c5_3_2) | (simp [go_sem]; done)
  have hs6_4 : w3.heap.size < w6.heap.size := by omega
  have c6_4_0 : w6.cell? ⟨w3.heap.size, 0, none⟩ = some (.int .i64 0) := by rw [hb.cell (by simp <;> omega)]; first | exact c5_4_0 | (rw [World.cell?_alloc_lt _ _ _ hs5_4]; exact c5_4_0) | (simp [go_sem]; done)
  have c6_4_1 : w6.cell? ⟨w3.heap.size, 1, none⟩ = some (.int .i64 0) := by rw [hb.cell (by simp <;> omega)]; first | exact c5_4_1 | (rw [World.cell?_alloc_lt _ _ _ hs5_4]; exact c5_4_1) | (simp [go_sem]; done)
  have c6_4_2 : w6.cell? ⟨w3.heap.size, 2, none⟩ = some (.int .i64 0) := by rw [hb.cell (by simp <;> omega)]; first | exact c5_4_2 | (rw [World.cell?_alloc_lt _ _ _ hs5_4]; exact c5_4_2) | (simp [go_sem]; done)
  have HB6 := Lib.hid (Below.trans (HB5.out) (hb.mono (Below.size HB5.out)))
  clear hb hsz c5_0_0 c5_0_1 c5_0_2 c5_1_0 c5_1_1 c5_1_2 c5_2_0 c5_2_1 c5_2_2 c5_3_0 c5_3_1 c5_3_2 c5_4_0 c5_4_1 c5_4_2 hs5_0 hs5_1 hs5_2 hs5_3 hs5_4
  go_wp2_with fail
  refine (plainF21e _ _ _ _ _ _ _ true Hhv.out Hhy.out Hhp.out _).mono ?_
  rintro e w7 ⟨rfl, hb⟩
  have hsz : w6.heap.size + 1 ≤ w7.heap.size := by have := hb.size; simp at this; omega
  have hs7_0 : w.heap.size < w7.heap.size := by omega
  have c7_0_0 : w7.cell? ⟨w.heap.size, 0, none⟩ = some (.int .i64 a) := by rw [hb.cell (by simp <;> omega)]; first | exact c6_0_0 | (rw [World.cell?_alloc_lt _ _ _ hs6_0]; exact c6_0_0) | (simp [go_sem]; done)
  have c7_0_1 : w7.cell? ⟨w.heap.size, 1, none⟩ = some (.int .i64 b) := by rw [hb.cell (by simp <;> omega)]; first | exact c6_0_1 | (rw [World.cell?_alloc_lt _ _ _ hs6_0]; exact c6_0_1) | (simp [go_sem]; done)
  have c7_0_2 : w7.cell? ⟨w.heap.size, 2, none⟩ = some (.int .i64 c) := by rw [hb.cell (by simp <;> omega)]; first | exact c6_0_2 | (rw [World.cell?_alloc_lt _ _ _ hs6_0]; exact c6_0_2) | (simp [go_sem]; done)
  have hs7_1 : w.heap.size + 1 < w7.heap.size := by omega
  have c7_1_0 : w7.cell? ⟨w.heap.size + 1, 0, none⟩ = some (.int .i64 x) := by rw [hb.cell (by simp <;> omega)]; first | exact c6_1_0 | (rw [World.cell?_alloc_lt _ _ _ hs6_1]; exact c6_1_0) | (simp [go_sem]; done)
  have c7_1_1 : w7.cell? ⟨w.heap.size + 1, 1, none⟩ = some (.int .i64 y) := by rw [hb.cell (by simp <;> omega)]; first | exact c6_1_1 | (rw [World.cell?_alloc_lt _ _ _ hs6_1]; exact c6_1_1) | (simp [go_sem]; done)
  have c7_1_2 : w7.cell? ⟨w.heap.size + 1, 2, none⟩ = some (.int .i64 z) := by rw [hb.cell (by simp <;> omega)]; first | exact c6_1_2 | (rw [World.cell?_alloc_lt _ _ _ hs6_1]; exact c6_1_2) | (simp [go_sem]; done)
  have hs7_2 : w1.heap.size < w7.heap.size := by omega
  have c7_2_0 : w7.cell? ⟨w1.heap.size, 0, none⟩ = some (.int .i64 u0) := by rw [hb.cell (by simp <;> omega)]; first | exact c6_2_0 | (rw [World.cell?_alloc_lt _ _ _ hs6_2]; exact c6_2_0) | (simp [go_sem]; done)
  have c7_2_1 : w7.cell? ⟨w1.heap.size, 1, none⟩ = some (.int .i64 u1) := by rw [hb.cell (by simp <;> omega)]; first | exact c6_2_1 | (rw [World.cell?_alloc_lt _ _ _ hs6_2]; exact c6_2_1) | (simp [go_sem]; done)
  have c7_2_2 : w7.cell? ⟨w1.heap.size, 2, none⟩ = some (.int .i64 u2) := by rw [hb.cell (by simp <;> omega)]; first | exact c6_2_2 | (rw [World.cell?_alloc_lt _ _ _ hs6_2]; exact c6_2_2) | (simp [go_sem]; done)
  have hs7_3 : w2.heap.size < w7.heap.size := by omega
  have c7_3_0 : w7.cell? ⟨w2.heap.size, 0, none⟩ = some (.int .i64 0) := by rw [hb.cell (by simp <;> omega)]; first | exact c6_3_0 | (rw [World.cell?_alloc_lt _ _ _ hs6_3]; exact c6_3_0) | (simp [go_sem]; done)
  have c7_3_1 : w7.cell? ⟨w2.heap.size, 1, none⟩ = some (.int .i64 0) := by rw [hb.cell (by simp <;> omega)]; first | exact c6_3_1 | (rw [World.cell?_alloc_lt _ _ _ hs6_3]; exact c6_3_1) | (simp [go_sem]; done)
  have c7_3_2 : w7.cell? ⟨w2.heap.size, 2, none⟩ = some (.int .i64 0) := by rw [hb.cell (by simp <;> omega)]; first | exact c6_3_2 | (rw [World.cell?_alloc_lt _ _ _ hs6_3]; exact c6_3_2) | (simp [go_sem]; done)
  have hs7_4 : w3.heap.size < w7.heap.size := by omega
  have c7_4_0 : w7.cell? ⟨w3.heap.size, 0, none⟩ = some (.int .i64 0) := by rw [hb.cell (by simp <;> omega)]; first | exact c6_4_0 | (rw [World.cell?_alloc_lt _ _ _ hs6_4]; exact c6_4_0) | (simp [go_sem]; done)
  have c7_4_1 : w7.cell? ⟨w3.heap.size, 1, none⟩ = some (.int .i64 0) := by rw [hb.cell (by simp <;> omega)]; first | exact c6_4_1 | (rw [World.cell?_alloc_lt _ _ _ hs6_4]; exact c6_4_1) | (simp [go_sem]; done)
  have c7_4_2 : w7.cell? ⟨w3.heap.size, 2, none⟩ = some (.int .i64 0) := by rw [hb.cell (by simp <;> omega)]; first | exact c6_4_2 | (rw [World.cell?_alloc_lt _ _ _ hs6_4]; exact c6_4_2) | (simp [go_sem]; done)
  have hs7_5 : w6.heap.size < w7.heap.size := by omega
  have c7_5_0 : w7.cell? ⟨w6.heap.size, 0, none⟩ = some (.int .i64 u0) := by rw [hb.cell (by simp <;> omega)]; first | (simp [go_sem]; done)
  have c7_5_1 : w7.cell? ⟨w6.heap.size, 1, none⟩ = some (.int .i64 u1) := by rw [hb.cell (by simp <;> omega)]; first | (simp [go_sem]; done)
  have c7_5_2 : w7.cell? ⟨w6.heap.size, 2, none⟩ = some (.int .i64 u2) := by rw [hb.cell (by simp <;> omega)]; first | (simp [go_sem]; done)
  have HB7 := Lib.hid (Below.trans ((ba_c (HB6.out) (Nat.le_refl _) _)) (hb.mono (Below.size (ba_c (HB6.out) (Nat.le_refl _) _))))
  clear hb hsz c6_0_0 c6_0_1 c6_0_2 c6_1_0 c6_1_1 c6_1_2 c6_2_0 c6_2_1 c6_2_2 c6_3_0 c6_3_1 c6_3_2 c6_4_0 c6_4_1 c6_4_2 hs6_0 hs6_1 hs6_2 hs6_3 hs6_4
  go_wp2
  go_ret
  exact ⟨rfl, (ba_c (HB7.out) (Nat.le_refl _) _)⟩

set_option maxRecDepth 100000 in
set_option maxHeartbeats 4000000 in
theorem FinitePlain5_free (p a b c x y z u0 u1 u2 v0 v1 v2 t0 t1 t2 d : Int) (q : Bool) (hp : isP p = true) (hu : pl p a b c = (u0, u1, u2)) (hz : zz p a b c = false) (hv : pl p x y z = (v0, v1, v2)) (hy : zz p x y z = false) (hw : pl p (u1 * v2 - u2 * v1) (u2 * v0 - u0 * v2) (u0 * v1 - u1 * v0) = (t0, t1, t2)) (hx : zz p (u1 * v2 - u2 * v1) (u2 * v0 - u0 * v2) (u0 * v1 - u1 * v0) = true) (hq : ((u0 * v0 + u1 * v1 + u2 * v2) % p == 0) = q) (hd : (a % p * (x % p) + b % p * (y % p) + c % p * (z % p)) % p = d) (hdq : (d == 0) = q) (huv : (u0 == v0 && (u1 == v1 && u2 == v2)) = true) (w : World) :
    Calls Try.prog 5 #[.int .i64 p, .agg #[.int .i64 a, .int .i64 b, .int .i64 c], .agg #[.int .i64 x, .int .i64 y, .int .i64 z]] w fun e w' => e = .returned (.bool true) ∧ Below w.heap.size w w' := by
  have Hhp := Lib.hid hp
  have Hhu := Lib.hid hu
  have Hhz := Lib.hid hz
  have Hhv := Lib.hid hv
  have Hhy := Lib.hid hy
  have Hhw := Lib.hid hw
  have Hhx := Lib.hid hx
  have Hhq := Lib.hid hq
  have Hhd := Lib.hid hd
  clear hp hu hz hv hy hw hx hq hd
  go_enter Try.func5, Try.ntmps5
  go_wp2_with fail
  refine (Plain19_ok _ _ _ _ _ _ _ Hhp.out Hhu.out Hhz.out _).mono ?_
  rintro e w1 ⟨rfl, hb⟩
  have hsz : w.heap.size + 2 ≤ w1.heap.size := by have := hb.size; simp at this; omega
  have hs1_0 : w.heap.size < w1.heap.size := by omega
  have c1_0_0 : w1.cell? ⟨w.heap.size, 0, none⟩ = some (.int .i64 a) := by rw [hb.cell (by simp <;> omega)]; first | (simp [go_sem]; done)
  have c1_0_1 : w1.cell? ⟨w.heap.size, 1, none⟩ = some (.int .i64 b) := by rw [hb.cell (by simp <;> omega)]; first | (simp [go_sem]; done)
  have c1_0_2 : w1.cell? ⟨w.heap.size, 2, none⟩ = some (.int .i64 c) := by rw [hb.cell (by simp <;> omega)]; first | (simp [go_sem]; done)
  have hs1_1 : w.heap.size + 1 < w1.heap.size := by omega
  have c1_1_0 : w1.cell? ⟨w.heap.size + 1, 0, none⟩ = some (.int .i64 x) := by rw [hb.cell (by simp <;> omega)]; first | (simp [go_sem]; done)
  have c1_1_1 : w1.cell? ⟨w.heap.size + 1, 1, none⟩ = some (.int .i64 y) := by rw [hb.cell (by simp <;> omega)]; first | (simp [go_sem]; done)
  have c1_1_2 : w1.cell? ⟨w.heap.size + 1, 2, none⟩ = some (.int .i64 z) := by rw [hb.cell (by simp <;> omega)]; first | (simp [go_sem]; done)
  have HB1 := Lib.hid (Below.trans ((ba_c ((ba_c (Below.refl w.heap.size w) (Nat.le_refl _) _)) (Nat.le_refl _) _)) (hb.mono (Below.size (ba_c ((ba_c (Below.refl w.heap.size w) (Nat.le_refl _) _)) (Nat.le_refl _) _))))
  clear hb hsz
  go_wp2_with fail
  refine (Join17_free _ _ _ _ _ _ _ _ _ _ _ _ _ _ _ _ Hhp.out Hhu.out Hhz.out Hhv.out Hhy.out Hhw.out Hhx.out _).mono ?_
  rintro e w2 ⟨rfl, hb⟩
  have hsz : w1.heap.size + 1 ≤ w2.heap.size := by have := hb.size; simp at this; omega
  have hs2_0 : w.heap.size < w2.heap.size := by omega
  have c2_0_0 : w2.cell? ⟨w.heap.size, 0, none⟩ = some (.int .i64 a) := by rw [hb.cell (by simp <;> omega)]; first | exact c1_0_0 | (rw [World.cell?_alloc_lt _ _ _ hs1_0]; exact c1_0_0) | (simp [go_sem]; done)
  have c2_0_1 : w2.cell? ⟨w.heap.size, 1, none⟩ = some (.int .i64 b) := by rw [hb.cell (by simp <;> omega)]; first | exact c1_0_1 | (rw [World.cell?_alloc_lt _ _ _ hs1_0]; exact c1_0_1) | (simp [go_sem]; done)
  have c2_0_2 : w2.cell? ⟨w.heap.size, 2, none⟩ = some (.int .i64 c) := by rw [hb.cell (by simp <;> omega)]; first | exact c1_0_2 | (rw [World.cell?_alloc_lt _ _ _ hs1_0]; exact c1_0_2) | (simp [go_sem]; done)
  have hs2_1 : w.heap.size + 1 < w2.heap.size := by omega
  have c2_1_0 : w2.cell? ⟨w.heap.size + 1, 0, none⟩ = some (.int .i64 x) := by rw [hb.cell (by simp <;> omega)]; first | exact c1_1_0 | (rw [World.cell?_alloc_lt _ _ _ hs1_1]; exact c1_1_0) | (simp [go_sem]; done)
  have c2_1_1 : w2.cell? ⟨w.heap.size + 1, 1, none⟩ = some (.int .i64 y) := by rw [hb.cell (by simp <;> omega)]; first | exact c1_1_1 | (rw [World.cell?_alloc_lt _ _ _ hs1_1]; exact c1_1_1) | (simp [go_sem]; done)
  have c2_1_2 : w2.cell? ⟨w.heap.size + 1, 2, none⟩ = some (.int .i64 z) := by rw [hb.cell (by simp <;> omega)]; first | exact c1_1_2 | (rw [World.cell?_alloc_lt _ _ _ hs1_1]; exact c1_1_2) | (simp [go_sem]; done)
  have hs2_2 : w1.heap.size < w2.heap.size := by omega
  have c2_2_0 : w2.cell? ⟨w1.heap.size, 0, none⟩ = some (.int .i64 u0) := by rw [hb.cell (by simp <;> omega)]; first | (simp [go_sem]; done)
  have c2_2_1 : w2.cell? ⟨w1.heap.size, 1, none⟩ = some (.int .i64 u1) := by rw [hb.cell (by simp <;> omega)]; first | (simp [go_sem]; done)
  have c2_2_2 : w2.cell? ⟨w1.heap.size, 2, none⟩ = some (.int .i64 u2) := by rw [hb.cell (by simp <;> omega)]; first | (simp [go_sem]; done)
  have HB2 := Lib.hid (Below.trans ((ba_c (HB1.out) (Nat.le_refl _) _)) (hb.mono (Below.size (ba_c (HB1.out) (Nat.le_refl _) _))))
  clear hb hsz c1_0_0 c1_0_1 c1_0_2 c1_1_0 c1_1_1 c1_1_2 hs1_0 hs1_1
  go_wp2_with fail
  refine (On20_okq _ _ _ _ _ _ _ _ _ _ _ _ _ _ Hhp.out Hhu.out Hhz.out Hhv.out Hhy.out Hhq.out _).mono ?_
  rintro e w3 ⟨rfl, hb⟩
  have hsz : w2.heap.size + 1 ≤ w3.heap.size := by have := hb.size; simp at this; omega
  have hs3_0 : w.heap.size < w3.heap.size := by omega
  have c3_0_0 : w3.cell? ⟨w.heap.size, 0, none⟩ = some (.int .i64 a) := by rw [hb.cell (by simp <;> omega)]; first | exact c2_0_0 | (rw [World.cell?_alloc_lt _ _ _ hs2_0]; exact c2_0_0) | (simp [go_sem]; done)
  have c3_0_1 : w3.cell? ⟨w.heap.size, 1, none⟩ = some (.int .i64 b) := by rw [hb.cell (by simp <;> omega)]; first | exact c2_0_1 | (rw [World.cell?_alloc_lt _ _ _ hs2_0]; exact c2_0_1) | (simp [go_sem]; done)
  have c3_0_2 : w3.cell? ⟨w.heap.size, 2, none⟩ = some (.int .i64 c) := by rw [hb.cell (by simp <;> omega)]; first | exact c2_0_2 | (rw [World.cell?_alloc_lt _ _ _ hs2_0]; exact c2_0_2) | (simp [go_sem]; done)
  have hs3_1 : w.heap.size + 1 < w3.heap.size := by omega
  have c3_1_0 : w3.cell? ⟨w.heap.size + 1, 0, none⟩ = some (.int .i64 x) := by rw [hb.cell (by simp <;> omega)]; first | exact c2_1_0 | (rw [World.cell?_alloc_lt _ _ _ hs2_1]; exact c2_1_0) | (simp [go_sem]; done)
  have c3_1_1 : w3.cell? ⟨w.heap.size + 1, 1, none⟩ = some (.int .i64 y) := by rw [hb.cell (by simp <;> omega)]; first | exact c2_1_1 | (rw [World.cell?_alloc_lt _ _ _ hs2_1]; exact c2_1_1) | (simp [go_sem]; done)
  have c3_1_2 : w3.cell? ⟨w.heap.size + 1, 2, none⟩ = some (.int .i64 z) := by rw [hb.cell (by simp <;> omega)]; first | exact c2_1_2 | (rw [World.cell?_alloc_lt _ _ _ hs2_1]; exact c2_1_2) | (simp [go_sem]; done)
  have hs3_2 : w1.heap.size < w3.heap.size := by omega
  have c3_2_0 : w3.cell? ⟨w1.heap.size, 0, none⟩ = some (.int .i64 u0) := by rw [hb.cell (by simp <;> omega)]; first | exact c2_2_0 | (rw [World.cell?_alloc_lt _ _ _ hs2_2]; exact c2_2_0) | (simp [go_sem]; done)
  have c3_2_1 : w3.cell? ⟨w1.heap.size, 1, none⟩ = some (.int .i64 u1) := by rw [hb.cell (by simp <;> omega)]; first | exact c2_2_1 | (rw [World.cell?_alloc_lt _ _ _ hs2_2]; exact c2_2_1) | (simp [go_sem]; done)
  have c3_2_2 : w3.cell? ⟨w1.heap.size, 2, none⟩ = some (.int .i64 u2) := by rw [hb.cell (by simp <;> omega)]; first | exact c2_2_2 | (rw [World.cell?_alloc_lt _ _ _ hs2_2]; exact c2_2_2) | (simp [go_sem]; done)
  have hs3_3 : w2.heap.size < w3.heap.size := by omega
  have c3_3_0 : w3.cell? ⟨w2.heap.size, 0, none⟩ = some (.int .i64 0) := by rw [hb.cell (by simp <;> omega)]; first | (simp [go_sem]; done)
  have c3_3_1 : w3.cell? ⟨w2.heap.size, 1, none⟩ = some (.int .i64 0) := by rw [hb.cell (by simp <;> omega)]; first | (simp [go_sem]; done)
  have c3_3_2 : w3.cell? ⟨w2.heap.size, 2, none⟩ = some (.int .i64 0) := by rw [hb.cell (by simp <;> omega)]; first | (simp [go_sem]; done)
  have HB3 := Lib.hid (Below.trans ((ba_c (HB2.out) (Nat.le_refl _) _)) (hb.mono (Below.size (ba_c (HB2.out) (Nat.le_refl _) _))))
  clear hb hsz c2_0_0 c2_0_1 c2_0_2 c2_1_0 c2_1_1 c2_1_2 c2_2_0 c2_2_1 c2_2_2 hs2_0 hs2_1 hs2_2
  go_wp2_with fail
  refine (counted14 _).mono ?_
  rintro e w4 ⟨rfl, hb⟩
  have hsz : w3.heap.size + 1 ≤ w4.heap.size := by have := hb.size; simp at this; omega
  have hs4_0 : w.heap.size < w4.heap.size := by omega
  have c4_0_0 : w4.cell? ⟨w.heap.size, 0, none⟩ = some (.int .i64 a) := by rw [hb.cell (by simp <;> omega)]; first | exact c3_0_0 | (rw [World.cell?_alloc_lt _ _ _ hs3_0]; exact c3_0_0) | (simp [go_sem]; done)
  have c4_0_1 : w4.cell? ⟨w.heap.size, 1, none⟩ = some (.int .i64 b) := by rw [hb.cell (by simp <;> omega)]; first | exact c3_0_1 | (rw [World.cell?_alloc_lt _ _ _ hs3_0]; exact c3_0_1) | (simp [go_sem]; done)
  have c4_0_2 : w4.cell? ⟨w.heap.size, 2, none⟩ = some (.int .i64 c) := by rw [hb.cell (by simp <;> omega)]; first | exact c3_0_2 | (rw [World.cell?_alloc_lt _ _ _ hs3_0]; exact c3_0_2) | (simp [go_sem]; done)
  have hs4_1 : w.heap.size + 1 < w4.heap.size := by omega
  have c4_1_0 : w4.cell? ⟨w.heap.size + 1, 0, none⟩ = some (.int .i64 x) := by rw [hb.cell (by simp <;> omega)]; first | exact c3_1_0 | (rw [World.cell?_alloc_lt _ _ _ hs3_1]; exact c3_1_0) | (simp [go_sem]; done)
  have c4_1_1 : w4.cell? ⟨w.heap.size + 1, 1, none⟩ = some (.int .i64 y) := by rw [hb.cell (by simp <;> omega)]; first | exact c3_1_1 | (rw [World.cell?_alloc_lt _ _ _ hs3_1]; exact c3_1_1) | (simp [go_sem]; done)
  have c4_1_2 : w4.cell? ⟨w.heap.size + 1, 2, none⟩ = some (.int .i64 z) := by rw [hb.cell (by simp <;> omega)]; first | exact c3_1_2 | (rw [World.cell?_alloc_lt _ _ _ hs3_1]; exact c3_1_2) | (simp [go_sem]; done)
  have hs4_2 : w1.heap.size < w4.heap.size := by omega
  have c4_2_0 : w4.cell? ⟨w1.heap.size, 0, none⟩ = some (.int .i64 u0) := by rw [hb.cell (by simp <;> omega)]; first | exact c3_2_0 | (rw [World.cell?_alloc_lt _ _ _ hs3_2]; exact c3_2_0) | (simp [go_sem]; done)
  have c4_2_1 : w4.cell? ⟨w1.heap.size, 1, none⟩ = some (.int .i64 u1) := by rw [hb.cell (by simp <;> omega)]; first | exact c3_2_1 | (rw [World.cell?_alloc_lt _ _ _ hs3_2]; exact c3_2_1) | (simp [go_sem]; done)
  have c4_2_2 : w4.cell? ⟨w1.heap.size, 2, none⟩ = some (.int .i64 u2) := by rw [hb.cell (by simp <;> omega)]; first | exact c3_2_2 | (rw [World.cell?_alloc_lt _ _ _ hs3_2]; exact c3_2_2) | (simp [go_sem]; done)
  have hs4_3 : w2.heap.size < w4.heap.size := by omega
  have c4_3_0 : w4.cell? ⟨w2.heap.size, 0, none⟩ = some (.int .i64 0) := by rw [hb.cell (by simp <;> omega)]; first | exact c3_3_0 | (rw [World.cell?_alloc_lt _ _ _ hs3_3]; exact c3_3_0) | (simp [go_sem]; done)
  have c4_3_1 : w4.cell? ⟨w2.heap.size, 1, none⟩ = some (.int .i64 0) := by rw [hb.cell (by simp <;> omega)]; first | exact c3_3_1 | (rw [World.cell?_alloc_lt _ _ _ hs3_3]; exact c3_3_1) | (simp [go_sem]; done)
  have c4_3_2 : w4.cell? ⟨w2.heap.size, 2, none⟩ = some (.int .i64 0) := by rw [hb.cell (by simp <;> omega)]; first | exact c3_3_2 | (rw [World.cell?_alloc_lt _ _ _ hs3_3]; exact c3_3_2) | (simp [go_sem]; done)
  have hs4_4 : w3.heap.size < w4.heap.size := by omega
  have c4_4_0 : w4.cell? ⟨w3.heap.size, 0, none⟩ = some (.int .i64 0) := by rw [hb.cell (by simp <;> omega)]; first | (simp [go_sem]; done)
  have c4_4_1 : w4.cell? ⟨w3.heap.size, 1, none⟩ = some (.int .i64 0) := by rw [hb.cell (by simp <;> omega)]; first | (simp [go_sem]; done)
  have c4_4_2 : w4.cell? ⟨w3.heap.size, 2, none⟩ = some (.int .i64 0) := by rw [hb.cell (by simp <;> omega)]; first | (simp [go_sem]; done)
  have HB4 := Lib.hid (Below.trans ((ba_c (HB3.out) (Nat.le_refl _) _)) (hb.mono (Below.size (ba_c (HB3.out) (Nat.le_refl _) _))))
  clear hb hsz c3_0_0 c3_0_1 c3_0_2 c3_1_0 c3_1_1 c3_1_2 c3_2_0 c3_2_1 c3_2_2 c3_3_0 c3_3_1 c3_3_2 hs3_0 hs3_1 hs3_2 hs3_3
  go_wp2_with fail
  refine (isPrime15_yes _ Hhp.out _).mono ?_
  rintro e w5 ⟨rfl, hb⟩
  have hsz : w4.heap.size ≤ w5.heap.size := hb.size
  have hs5_0 : w.heap.size < w5.heap.size := by omega
  have c5_0_0 : w5.cell? ⟨w.heap.size, 0, none⟩ = some (.int .i64 a) := by rw [hb.cell (by simp <;> omega)]; first | exact c4_0_0 | (rw [World.cell?_alloc_lt _ _ _ hs4_0]; exact c4_0_0) | (simp [go_sem]; done)
  have c5_0_1 : w5.cell? ⟨w.heap.size, 1, none⟩ = some (.int .i64 b) := by rw [hb.cell (by simp <;> omega)]; first | exact c4_0_1 | (rw [World.cell?_alloc_lt _ _ _ hs4_0]; exact c4_0_1) | (simp [go_sem]; done)
  have c5_0_2 : w5.cell? ⟨w.heap.size, 2, none⟩ = some (.int .i64 c) := by rw [hb.cell (by simp <;> omega)]; first | exact c4_0_2 | (rw [World.cell?_alloc_lt _ _ _ hs4_0]; exact c4_0_2) | (simp [go_sem]; done)
  have hs5_1 : w.heap.size + 1 < w5.heap.size := by omega
  have c5_1_0 : w5.cell? ⟨w.heap.size + 1, 0, none⟩ = some (.int .i64 x) := by rw [hb.cell (by simp <;> omega)]; first | exact c4_1_0 | (rw [World.cell?_alloc_lt _ _ _ hs4_1]; exact c4_1_0) | (simp [go_sem]; done)
  have c5_1_1 : w5.cell? ⟨w.heap.size + 1, 1, none⟩ = some (.int .i64 y) := by rw [hb.cell (by simp <;> omega)]; first | exact c4_1_1 | (rw [World.cell?_alloc_lt _ _ _ hs4_1]; exact c4_1_1) | (simp [go_sem]; done)
  have c5_1_2 : w5.cell? ⟨w.heap.size + 1, 2, none⟩ = some (.int .i64 z) := by rw [hb.cell (by simp <;> omega)]; first | exact c4_1_2 | (rw [World.cell?_alloc_lt _ _ _ hs4_1]; exact c4_1_2) | (simp [go_sem]; done)
  have hs5_2 : w1.heap.size < w5.heap.size := by omega
  have c5_2_0 : w5.cell? ⟨w1.heap.size, 0, none⟩ = some (.int .i64 u0) := by rw [hb.cell (by simp <;> omega)]; first | exact c4_2_0 | (rw [World.cell?_alloc_lt _ _ _ hs4_2]; exact c4_2_0) | (simp [go_sem]; done)
  have c5_2_1 : w5.cell? ⟨w1.heap.size, 1, none⟩ = some (.int .i64 u1) := by rw [hb.cell (by simp <;> omega)]; first | exact c4_2_1 | (rw [World.cell?_alloc_lt _ _ _ hs4_2]; exact c4_2_1) | (simp [go_sem]; done)
  have c5_2_2 : w5.cell? ⟨w1.heap.size, 2, none⟩ = some (.int .i64 u2) := by rw [hb.cell (by simp <;> omega)]; first | exact c4_2_2 | (rw [World.cell?_alloc_lt _ _ _ hs4_2]; exact c4_2_2) | (simp [go_sem]; done)
  have hs5_3 : w2.heap.size < w5.heap.size := by omega
  have c5_3_0 : w5.cell? ⟨w2.heap.size, 0, none⟩ = some (.int .i64 0) := by rw [hb.cell (by simp <;> omega)]; first | exact c4_3_0 | (rw [World.cell?_alloc_lt _ _ _ hs4_3]; exact c4_3_0) | (simp [go_sem]; done)
  have c5_3_1 : w5.cell? ⟨w2.heap.size, 1, none⟩ = some (.int .i64 0) := by rw [hb.cell (by simp <;> omega)]; first | exact c4_3_1 | (rw [World.cell?_alloc_lt _ _ _ hs4_3]; exact c4_3_1) | (simp [go_sem]; done)
  have c5_3_2 : w5.cell? ⟨w2.heap.size, 2, none⟩ = some (.int .i64 0) := by rw [hb.cell (by simp <;> omega)]; first | exact c4_3_2 | (rw [World.cell?_alloc_lt _ _ _ hs4_3]; exact c4_3_2) | (simp [go_sem]; done)
  have hs5_4 : w3.heap.size < w5.heap.size := by omega
  have c5_4_0 : w5.cell? ⟨w3.heap.size, 0, none⟩ = some (.int .i64 0) := by rw [hb.cell (by simp <;> omega)]; first | exact c4_4_0 | (rw [World.cell?_alloc_lt _ _ _ hs4_4]; exact c4_4_0) | (simp [go_sem]; done)
  have c5_4_1 : w5.cell? ⟨w3.heap.size, 1, none⟩ = some (.int .i64 0) := by rw [hb.cell (by simp <;> omega)]; first | exact c4_4_1 | (rw [World.cell?_alloc_lt _ _ _ hs4_4]; exact c4_4_1) | (simp [go_sem]; done)
  have c5_4_2 : w5.cell? ⟨w3.heap.size, 2, none⟩ = some (.int .i64 0) := by rw [hb.cell (by simp <;> omega)]; first | exact c4_4_2 | (rw [World.cell?_alloc_lt _ _ _ hs4_4]; exact c4_4_2) | (simp [go_sem]; done)
  have HB5 := Lib.hid (Below.trans (HB4.out) (hb.mono (Below.size HB4.out)))
  clear hb hsz c4_0_0 c4_0_1 c4_0_2 c4_1_0 c4_1_1 c4_1_2 c4_2_0 c4_2_1 c4_2_2 c4_3_0 c4_3_1 c4_3_2 c4_4_0 c4_4_1 c4_4_2 hs4_0 hs4_1 hs4_2 hs4_3 hs4_4
  go_wp2_with fail
  refine (plainF21e _ _ _ _ _ _ _ false Hhu.out Hhz.out Hhp.out _).mono ?_
  rintro e w6 ⟨rfl, hb⟩
  have hsz : w5.heap.size ≤ w6.heap.size := hb.size
  have hs6_0 : w.heap.size < w6.heap.size := by omega
  have c6_0_0 : w6.cell? ⟨w.heap.size, 0, none⟩ = some (.int .i64 a) := by rw [hb.cell (by simp <;> omega)]; first | exact c5_0_0 | (rw [World.cell?_alloc_lt _ _ _ hs5_0]; exact c5_0_0) | (simp [go_sem]; done)
  have c6_0_1 : w6.cell? ⟨w.heap.size, 1, none⟩ = some (.int .i64 b) := by rw [hb.cell (by simp <;> omega)]; first | exact c5_0_1 | (rw [World.cell?_alloc_lt _ _ _ hs5_0]; exact c5_0_1) | (simp [go_sem]; done)
  have c6_0_2 : w6.cell? ⟨w.heap.size, 2, none⟩ = some (.int .i64 c) := by rw [hb.cell (by simp <;> omega)]; first | exact c5_0_2 | (rw [World.cell?_alloc_lt _ _ _ hs5_0]; exact c5_0_2) | (simp [go_sem]; done)
  have hs6_1 : w.heap.size + 1 < w6.heap.size := by omega
  have c6_1_0 : w6.cell? ⟨w.heap.size + 1, 0, none⟩ = some (.int .i64 x) := by rw [hb.cell (by simp <;> omega)]; first | exact c5_1_0 | (rw [World.cell?_alloc_lt _ _ _ hs5_1]; exact c5_1_0) | (simp [go_sem]; done)
  have c6_1_1 : w6.cell? ⟨w.heap.size + 1, 1, none⟩ = some (.int .i64 y) := by rw [hb.cell (by simp <;> omega)]; first | exact c5_1_1 | (rw [World.cell?_alloc_lt _ _ _ hs5_1]; exact c5_1_1) | (simp [go_sem]; done)
  have c6_1_2 : w6.cell? ⟨w.heap.size + 1, 2, none⟩ = some (.int .i64 z) := by rw [hb.cell (by simp <;> omega)]; first | exact c5_1_2 | (rw [World.cell?_alloc_lt _ _ _ hs5_1]; exact c5_1_2) | (simp [go_sem]; done)
  have hs6_2 : w1.heap.size < w6.heap.size := by omega
  have c6_2_0 : w6.cell? ⟨w1.heap.size, 0, none⟩ = some (.int .i64 u0) := by rw [hb.cell (by simp <;> omega)]; first | exact c5_2_0 | (rw [World.cell?_alloc_lt _ _ _ hs5_2]; exact c5_2_0) | (simp [go_sem]; done)
  have c6_2_1 : w6.cell? ⟨w1.heap.size, 1, none⟩ = some (.int .i64 u1) := by rw [hb.cell (by simp <;> omega)]; first | exact c5_2_1 | (rw [World.cell?_alloc_lt _ _ _ hs5_2]; exact c5_2_1) | (simp [go_sem]; done)
  have c6_2_2 : w6.cell? ⟨w1.heap.size, 2, none⟩ = some (.int .i64 u2) := by rw [hb.cell (by simp <;> omega)]; first | exact c5_2_2 | (rw [World.cell?_alloc_lt _ _ _ hs5_2]; exact c5_2_2) | (simp [go_sem]; done)
  have hs6_3 : w2.heap.size < w6.heap.size := by omega
  have c6_3_0 : w6.cell? ⟨w2.heap.size, 0, none⟩ = some (.int .i64 0) := by rw [hb.cell (by simp <;> omega)]; first | exact c5_3_0 | (rw [World.cell?_alloc_lt _ _ _ hs5_3]; exact c5_3_0) | (simp [go_sem]; done)
  have c6_3_1 : w6.cell? ⟨w2.heap.size, 1, none⟩ = some (.int .i64 0) := by rw [hb.cell (by simp <;> omega)]; first | exact c5_3_1 | (rw [World.cell?_alloc_lt _ _ _ hs5_3]; exact c5_3_1) | (simp [go_sem]; done)
  have c6_3_2 : w6.cell? ⟨w2.heap.size, 2, none⟩ = some (.int .i64 0) := by rw [hb.cell (by simp <;> omega)]; first | exact c5_3_2 | (rw [World.cell?_alloc_lt _ _ _ hs5_3]; exact c5_3_2) | (simp [go_sem]; done)
  have hs6_4 : w3.heap.size < w6.heap.size := by omega
  have c6_4_0 : w6.cell? ⟨w3.heap.size, 0, none⟩ = some (.int .i64 0) := by rw [hb.cell (by simp <;> omega)]; first | exact c5_4_0 | (rw [World.cell?_alloc_lt _ _ _ hs5_4]; exact c5_4_0) | (simp [go_sem]; done)
  have c6_4_1 : w6.cell? ⟨w3.heap.size, 1, none⟩ = some (.int .i64 0) := by rw [hb.cell (by simp <;> omega)]; first | exact c5_4_1 | (rw [World.cell?_alloc_lt _ _ _ hs5_4]; exact c5_4_1) | (simp [go_sem]; done)
  have c6_4_2 : w6.cell? ⟨w3.heap.size, 2, none⟩ = some (.int .i64 0) := by rw [hb.cell (by simp <;> omega)]; first | exact c5_4_2 | (rw [World.cell?_alloc_lt _ _ _ hs5_4]; exact c5_4_2) | (simp [go_sem]; done)
  have HB6 := Lib.hid (Below.trans (HB5.out) (hb.mono (Below.size HB5.out)))
  clear hb hsz c5_0_0 c5_0_1 c5_0_2 c5_1_0 c5_1_1 c5_1_2 c5_2_0 c5_2_1 c5_2_2 c5_3_0 c5_3_1 c5_3_2 c5_4_0 c5_4_1 c5_4_2 hs5_0 hs5_1 hs5_2 hs5_3 hs5_4
  go_wp2_with fail
  refine (plainF21e _ _ _ _ _ _ _ false Hhv.out Hhy.out Hhp.out _).mono ?_
  rintro e w7 ⟨rfl, hb⟩
  have hsz : w6.heap.size + 1 ≤ w7.heap.size := by have := hb.size; simp at this; omega
  have hs7_0 : w.heap.size < w7.heap.size := by omega
  have c7_0_0 : w7.cell? ⟨w.heap.size, 0, none⟩ = some (.int .i64 a) := by rw [hb.cell (by simp <;> omega)]; first | exact c6_0_0 | (rw [World.cell?_alloc_lt _ _ _ hs6_0]; exact c6_0_0) | (simp [go_sem]; done)
  have c7_0_1 : w7.cell? ⟨w.heap.size, 1, none⟩ = some (.int .i64 b) := by rw [hb.cell (by simp <;> omega)]; first | exact c6_0_1 | (rw [World.cell?_alloc_lt _ _ _ hs6_0]; exact c6_0_1) | (simp [go_sem]; done)
  have c7_0_2 : w7.cell? ⟨w.heap.size, 2, none⟩ = some (.int .i64 c) := by rw [hb.cell (by simp <;> omega)]; first | exact c6_0_2 | (rw [World.cell?_alloc_lt _ _ _ hs6_0]; exact c6_0_2) | (simp [go_sem]; done)
  have hs7_1 : w.heap.size + 1 < w7.heap.size := by omega
  have c7_1_0 : w7.cell? ⟨w.heap.size + 1, 0, none⟩ = some (.int .i64 x) := by rw [hb.cell (by simp <;> omega)]; first | exact c6_1_0 | (rw [World.cell?_alloc_lt _ _ _ hs6_1]; exact c6_1_0) | (simp [go_sem]; done)
  have c7_1_1 : w7.cell? ⟨w.heap.size + 1, 1, none⟩ = some (.int .i64 y) := by rw [hb.cell (by simp <;> omega)]; first | exact c6_1_1 | (rw [World.cell?_alloc_lt _ _ _ hs6_1]; exact c6_1_1) | (simp [go_sem]; done)
  have c7_1_2 : w7.cell? ⟨w.heap.size + 1, 2, none⟩ = some (.int .i64 z) := by rw [hb.cell (by simp <;> omega)]; first | exact c6_1_2 | (rw [World.cell?_alloc_lt _ _ _ hs6_1]; exact c6_1_2) | (simp [go_sem]; done)
  have hs7_2 : w1.heap.size < w7.heap.size := by omega
  have c7_2_0 : w7.cell? ⟨w1.heap.size, 0, none⟩ = some (.int .i64 u0) := by rw [hb.cell (by simp <;> omega)]; first | exact c6_2_0 | (rw [World.cell?_alloc_lt _ _ _ hs6_2]; exact c6_2_0) | (simp [go_sem]; done)
  have c7_2_1 : w7.cell? ⟨w1.heap.size, 1, none⟩ = some (.int .i64 u1) := by rw [hb.cell (by simp <;> omega)]; first | exact c6_2_1 | (rw [World.cell?_alloc_lt _ _ _ hs6_2]; exact c6_2_1) | (simp [go_sem]; done)
  have c7_2_2 : w7.cell? ⟨w1.heap.size, 2, none⟩ = some (.int .i64 u2) := by rw [hb.cell (by simp <;> omega)]; first | exact c6_2_2 | (rw [World.cell?_alloc_lt _ _ _ hs6_2]; exact c6_2_2) | (simp [go_sem]; done)
  have hs7_3 : w2.heap.size < w7.heap.size := by omega
  have c7_3_0 : w7.cell? ⟨w2.heap.size, 0, none⟩ = some (.int .i64 0) := by rw [hb.cell (by simp <;> omega)]; first | exact c6_3_0 | (rw [World.cell?_alloc_lt _ _ _ hs6_3]; exact c6_3_0) | (simp [go_sem]; done)
  have c7_3_1 : w7.cell? ⟨w2.heap.size, 1, none⟩ = some (.int .i64 0) := by rw [hb.cell (by simp <;> omega)]; first | exact c6_3_1 | (rw [World.cell?_alloc_lt _ _ _ hs6_3]; exact c6_3_1) | (simp [go_sem]; done)
  have c7_3_2 : w7.cell? ⟨w2.heap.size, 2, none⟩ = some (.int .i64 0) := by rw [hb.cell (by simp <;> omega)]; first | exact c6_3_2 | (rw [World.cell?_alloc_lt _ _ _ hs6_3]; exact c6_3_2) | (simp [go_sem]; done)
  have hs7_4 : w3.heap.size < w7.heap.size := by omega
  have c7_4_0 : w7.cell? ⟨w3.heap.size, 0, none⟩ = some (.int .i64 0) := by rw [hb.cell (by simp <;> omega)]; first | exact c6_4_0 | (rw [World.cell?_alloc_lt _ _ _ hs6_4]; exact c6_4_0) | (simp [go_sem]; done)
  have c7_4_1 : w7.cell? ⟨w3.heap.size, 1, none⟩ = some (.int .i64 0) := by rw [hb.cell (by simp <;> omega)]; first | exact c6_4_1 | (rw [World.cell?_alloc_lt _ _ _ hs6_4]; exact c6_4_1) | (simp [go_sem]; done)
  have c7_4_2 : w7.cell? ⟨w3.heap.size, 2, none⟩ = some (.int .i64 0) := by rw [hb.cell (by simp <;> omega)]; first | exact c6_4_2 | (rw [World.cell?_alloc_lt _ _ _ hs6_4]; exact c6_4_2) | (simp [go_sem]; done)
  have hs7_5 : w6.heap.size < w7.heap.size := by omega
  have c7_5_0 : w7.cell? ⟨w6.heap.size, 0, none⟩ = some (.int .i64 u0) := by rw [hb.cell (by simp <;> omega)]; first | (simp [go_sem]; done)
  have c7_5_1 : w7.cell? ⟨w6.heap.size, 1, none⟩ = some (.int .i64 u1) := by rw [hb.cell (by simp <;> omega)]; first | (simp [go_sem]; done)
  have c7_5_2 : w7.cell? ⟨w6.heap.size, 2, none⟩ = some (.int .i64 u2) := by rw [hb.cell (by simp <;> omega)]; first | (simp [go_sem]; done)
  have HB7 := Lib.hid (Below.trans ((ba_c (HB6.out) (Nat.le_refl _) _)) (hb.mono (Below.size (ba_c (HB6.out) (Nat.le_refl _) _))))
  clear hb hsz c6_0_0 c6_0_1 c6_0_2 c6_1_0 c6_1_1 c6_1_2 c6_2_0 c6_2_1 c6_2_2 c6_3_0 c6_3_1 c6_3_2 c6_4_0 c6_4_1 c6_4_2 hs6_0 hs6_1 hs6_2 hs6_3 hs6_4
  go_wp2_with fail
  refine (dotF22q _ _ _ _ _ _ _ _ Hhp.out Hhd.out _).mono ?_
  rintro e w8 ⟨rfl, hb⟩
  have hsz : w7.heap.size + 1 ≤ w8.heap.size := by have := hb.size; simp at this; omega
  have hs8_0 : w.heap.size < w8.heap.size := by omega
  have c8_0_0 : w8.cell? ⟨w.heap.size, 0, none⟩ = some (.int .i64 a) := by rw [hb.cell (by simp <;> omega)]; first | exact c7_0_0 | (rw [World.cell?_alloc_lt _ _ _ hs7_0]; exact c7_0_0) | (simp [go_sem]; done)
  have c8_0_1 : w8.cell? ⟨w.heap.size, 1, none⟩ = some (.int .i64 b) := by rw [hb.cell (by simp <;> omega)]; first | exact c7_0_1 | (rw [World.cell?_alloc_lt _ _ _ hs7_0]; exact c7_0_1) | (simp [go_sem]; done)
  have c8_0_2 : w8.cell? ⟨w.heap.size, 2, none⟩ = some (.int .i64 c) := by rw [hb.cell (by simp <;> omega)]; first | exact c7_0_2 | (rw [World.cell?_alloc_lt _ _ _ hs7_0]; exact c7_0_2) | (simp [go_sem]; done)
  have hs8_1 : w.heap.size + 1 < w8.heap.size := by omega
  have c8_1_0 : w8.cell? ⟨w.heap.size + 1, 0, none⟩ = some (.int .i64 x) := by rw [hb.cell (by simp <;> omega)]; first | exact c7_1_0 | (rw [World.cell?_alloc_lt _ _ _ hs7_1]; exact c7_1_0) | (simp [go_sem]; done)
  have c8_1_1 : w8.cell? ⟨w.heap.size + 1, 1, none⟩ = some (.int .i64 y) := by rw [hb.cell (by simp <;> omega)]; first | exact c7_1_1 | (rw [World.cell?_alloc_lt _ _ _ hs7_1]; exact c7_1_1) | (simp [go_sem]; done)
  have c8_1_2 : w8.cell? ⟨w.heap.size + 1, 2, none⟩ = some (.int .i64 z) := by rw [hb.cell (by simp <;> omega)]; first | exact c7_1_2 | (rw [World.cell?_alloc_lt _ _ _ hs7_1]; exact c7_1_2) | (simp [go_sem]; done)
  have hs8_2 : w1.heap.size < w8.heap.size := by omega
  have c8_2_0 : w8.cell? ⟨w1.heap.size, 0, none⟩ = some (.int .i64 u0) := by rw [hb.cell (by simp <;> omega)]; first | exact c7_2_0 | (rw [World.cell?_alloc_lt _ _ _ hs7_2]; exact c7_2_0) | (simp [go_sem]; done)
  have c8_2_1 : w8.cell? ⟨w1.heap.size, 1, none⟩ = some (.int .i64 u1) := by rw [hb.cell (by simp <;> omega)]; first | exact c7_2_1 | (rw [World.cell?_alloc_lt _ _ _ hs7_2]; exact c7_2_1) | (simp [go_sem]; done)
  have c8_2_2 : w8.cell? ⟨w1.heap.size, 2, none⟩ = some (.int .i64 u2) := by rw [hb.cell (by simp <;> omega)]; first | exact c7_2_2 | (rw [World.cell?_alloc_lt _ _ _ hs7_2]; exact c7_2_2) | (simp [go_sem]; done)
  have hs8_3 : w2.heap.size < w8.heap.size := by omega
  have c8_3_0 : w8.cell? ⟨w2.heap.size, 0, none⟩ = some (.int .i64 0) := by rw [hb.cell (by simp <;> omega)]; first | exact c7_3_0 | (rw [World.cell?_alloc_lt _ _ _ hs7_3]; exact c7_3_0) | (simp [go_sem]; done)
  have c8_3_1 : w8.cell? ⟨w2.heap.size, 1, none⟩ = some (.int .i64 0) := by rw [hb.cell (by simp <;> omega)]; first | exact c7_3_1 | (rw [World.cell?_alloc_lt _ _ _ hs7_3]; exact c7_3_1) | (simp [go_sem]; done)
  have c8_3_2 : w8.cell? ⟨w2.heap.size, 2, none⟩ = some (.int .i64 0) := by rw [hb.cell (by simp <;> omega)]; first | exact c7_3_2 | (rw [World.cell?_alloc_lt _ _ _ hs7_3]; exact c7_3_2) | (simp [go_sem]; done)
  have hs8_4 : w3.heap.size < w8.heap.size := by omega
  have c8_4_0 : w8.cell? ⟨w3.heap.size, 0, none⟩ = some (.int .i64 0) := by rw [hb.cell (by simp <;> omega)]; first | exact c7_4_0 | (rw [World.cell?_alloc_lt _ _ _ hs7_4]; exact c7_4_0) | (simp [go_sem]; done)
  have c8_4_1 : w8.cell? ⟨w3.heap.size, 1, none⟩ = some (.int .i64 0) := by rw [hb.cell (by simp <;> omega)]; first | exact c7_4_1 | (rw [World.cell?_alloc_lt _ _ _ hs7_4]; exact c7_4_1) | (simp [go_sem]; done)
  have c8_4_2 : w8.cell? ⟨w3.heap.size, 2, none⟩ = some (.int .i64 0) := by rw [hb.cell (by simp <;> omega)]; first | exact c7_4_2 | (rw [World.cell?_alloc_lt _ _ _ hs7_4]; exact c7_4_2) | (simp [go_sem]; done)
  have hs8_5 : w6.heap.size < w8.heap.size := by omega
  have c8_5_0 : w8.cell? ⟨w6.heap.size, 0, none⟩ = some (.int .i64 u0) := by rw [hb.cell (by simp <;> omega)]; first | exact c7_5_0 | (rw [World.cell?_alloc_lt _ _ _ hs7_5]; exact c7_5_0) | (simp [go_sem]; done)
  have c8_5_1 : w8.cell? ⟨w6.heap.size, 1, none⟩ = some (.int .i64 u1) := by rw [hb.cell (by simp <;> omega)]; first | exact c7_5_1 | (rw [World.cell?_alloc_lt _ _ _ hs7_5]; exact c7_5_1) | (simp [go_sem]; done)
  have c8_5_2 : w8.cell? ⟨w6.heap.size, 2, none⟩ = some (.int .i64 u2) := by rw [hb.cell (by simp <;> omega)]; first | exact c7_5_2 | (rw [World.cell?_alloc_lt _ _ _ hs7_5]; exact c7_5_2) | (simp [go_sem]; done)
  have hs8_6 : w7.heap.size < w8.heap.size := by omega
  have c8_6_0 : w8.cell? ⟨w7.heap.size, 0, none⟩ = some (.int .i64 v0) := by rw [hb.cell (by simp <;> omega)]; first | (simp [go_sem]; done)
  have c8_6_1 : w8.cell? ⟨w7.heap.size, 1, none⟩ = some (.int .i64 v1) := by rw [hb.cell (by simp <;> omega)]; first | (simp [go_sem]; done)
  have c8_6_2 : w8.cell? ⟨w7.heap.size, 2, none⟩ = some (.int .i64 v2) := by rw [hb.cell (by simp <;> omega)]; first | (simp [go_sem]; done)
  have HB8 := Lib.hid (Below.trans ((ba_c (HB7.out) (Nat.le_refl _) _)) (hb.mono (Below.size (ba_c (HB7.out) (Nat.le_refl _) _))))
  clear hb hsz c7_0_0 c7_0_1 c7_0_2 c7_1_0 c7_1_1 c7_1_2 c7_2_0 c7_2_1 c7_2_2 c7_3_0 c7_3_1 c7_3_2 c7_4_0 c7_4_1 c7_4_2 c7_5_0 c7_5_1 c7_5_2 hs7_0 hs7_1 hs7_2 hs7_3 hs7_4 hs7_5
  go_wp2
  go_ret
  exact ⟨rfl, HB8.out⟩

set_option maxRecDepth 100000 in
set_option maxHeartbeats 4000000 in
theorem FinitePlain5_ok (p a b c x y z u0 u1 u2 v0 v1 v2 t0 t1 t2 d : Int) (q : Bool) (hp : isP p = true) (hu : pl p a b c = (u0, u1, u2)) (hz : zz p a b c = false) (hv : pl p x y z = (v0, v1, v2)) (hy : zz p x y z = false) (hw : pl p (u1 * v2 - u2 * v1) (u2 * v0 - u0 * v2) (u0 * v1 - u1 * v0) = (t0, t1, t2)) (hx : zz p (u1 * v2 - u2 * v1) (u2 * v0 - u0 * v2) (u0 * v1 - u1 * v0) = false) (hq : ((u0 * v0 + u1 * v1 + u2 * v2) % p == 0) = q) (hd : (a % p * (x % p) + b % p * (y % p) + c % p * (z % p)) % p = d) (hdq : (d == 0) = q) (huv : (u0 == v0 && (u1 == v1 && u2 == v2)) = false) (ht : pl p t0 t1 t2 = (t0, t1, t2)) (htz : zz p t0 t1 t2 = false) (hd1 : (t0 % p * (a % p) + t1 % p * (b % p) + t2 % p * (c % p)) % p = 0) (hd2 : (t0 % p * (x % p) + t1 % p * (y % p) + t2 % p * (z % p)) % p = 0) (w : World) :
    Calls Try.prog 5 #[.int .i64 p, .agg #[.int .i64 a, .int .i64 b, .int .i64 c], .agg #[.int .i64 x, .int .i64 y, .int .i64 z]] w fun e w' => e = .returned (.bool true) ∧ Below w.heap.size w w' := by
  have Hhp := Lib.hid hp
  have Hhu := Lib.hid hu
  have Hhz := Lib.hid hz
  have Hhv := Lib.hid hv
  have Hhy := Lib.hid hy
  have Hhw := Lib.hid hw
  have Hhx := Lib.hid hx
  have Hhq := Lib.hid hq
  have Hhd := Lib.hid hd
  have Hht := Lib.hid ht
  have Hhtz := Lib.hid htz
  have Hhd1 := Lib.hid hd1
  have Hhd2 := Lib.hid hd2
  clear hp hu hz hv hy hw hx hq hd ht htz hd1 hd2
  go_enter Try.func5, Try.ntmps5
  go_wp2_with fail
  refine (Plain19_ok _ _ _ _ _ _ _ Hhp.out Hhu.out Hhz.out _).mono ?_
  rintro e w1 ⟨rfl, hb⟩
  have hsz : w.heap.size + 2 ≤ w1.heap.size := by have := hb.size; simp at this; omega
  have hs1_0 : w.heap.size < w1.heap.size := by omega
  have c1_0_0 : w1.cell? ⟨w.heap.size, 0, none⟩ = some (.int .i64 a) := by rw [hb.cell (by simp <;> omega)]; first | (simp [go_sem]; done)
  have c1_0_1 : w1.cell? ⟨w.heap.size, 1, none⟩ = some (.int .i64 b) := by rw [hb.cell (by simp <;> omega)]; first | (simp [go_sem]; done)
  have c1_0_2 : w1.cell? ⟨w.heap.size, 2, none⟩ = some (.int .i64 c) := by rw [hb.cell (by simp <;> omega)]; first | (simp [go_sem]; done)
  have hs1_1 : w.heap.size + 1 < w1.heap.size := by omega
  have c1_1_0 : w1.cell? ⟨w.heap.size + 1, 0, none⟩ = some (.int .i64 x) := by rw [hb.cell (by simp <;> omega)]; first | (simp [go_sem]; done)
  have c1_1_1 : w1.cell? ⟨w.heap.size + 1, 1, none⟩ = some (.int .i64 y) := by rw [hb.cell (by simp <;> omega)]; first | (simp [go_sem]; done)
  have c1_1_2 : w1.cell? ⟨w.heap.size + 1, 2, none⟩ = some (.int .i64 z) := by rw [hb.cell (by simp <;> omega)]; first | (simp [go_sem]; done)
  have HB1 := Lib.hid (Below.trans ((ba_c ((ba_c (Below.refl w.heap.size w) (Nat.le_refl _) _)) (Nat.le_refl _) _)) (hb.mono (Below.size (ba_c ((ba_c (Below.refl w.heap.size w) (Nat.le_refl _) _)) (Nat.le_refl _) _))))
  clear hb hsz
  go_wp2_with fail
  refine (Join17_ok _ _ _ _ _ _ _ _ _ _ _ _ _ _ _ _ Hhp.out Hhu.out Hhz.out Hhv.out Hhy.out Hhw.out Hhx.out _).mono ?_
  rintro e w2 ⟨rfl, hb⟩
  have hsz : w1.heap.size + 1 ≤ w2.heap.size := by have := hb.size; simp at this; omega
  have hs2_0 : w.heap.size < w2.heap.size := by omega
  have c2_0_0 : w2.cell? ⟨w.heap.size, 0, none⟩ = some (.int .i64 a) := by rw [hb.cell (by simp <;> omega)]; first | exact c1_0_0 | (rw [World.cell?_alloc_lt _ _ _ hs1_0]; exact c1_0_0) | (simp [go_sem]; done)
  have c2_0_1 : w2.cell? ⟨w.heap.size, 1, none⟩ = some (.int .i64 b) := by rw [hb.cell (by simp <;> omega)]; first | exact c1_0_1 | (rw [World.cell?_alloc_lt _ _ _ hs1_0]; exact c1_0_1) | (simp [go_sem]; done)
  have c2_0_2 : w2.cell? ⟨w.heap.size, 2, none⟩ = some (.int .i64 c) := by rw [hb.cell (by simp <;> omega)]; first | exact c1_0_2 | (rw [World.cell?_alloc_lt _ _ _ hs1_0]; exact c1_0_2) | (simp [go_sem]; done)
  have hs2_1 : w.heap.size + 1 < w2.heap.size := by omega
  have c2_1_0 : w2.cell? ⟨w.heap.size + 1, 0, none⟩ = some (.int .i64 x) := by rw [hb.cell (by simp <;> omega)]; first | exact c1_1_0 | (rw [World.cell?_alloc_lt _ _ _ hs1_1]; exact c1_1_0) | (simp [go_sem]; done)
  have c2_1_1 : w2.cell? ⟨w.heap.size + 1, 1, none⟩ = some (.int .i64 y) := by rw [hb.cell (by simp <;> omega)]; first | exact c1_1_1 | (rw [World.cell?_alloc_lt _ _ _ hs1_1]; exact c1_1_1) | (simp [go_sem]; done)
  have c2_1_2 : w2.cell? ⟨w.heap.size + 1, 2, none⟩ = some (.int .i64 z) := by rw [hb.cell (by simp <;> omega)]; first | exact c1_1_2 | (rw [World.cell?_alloc_lt _ _ _ hs1_1]; exact c1_1_2) | (simp [go_sem]; done)
  have hs2_2 : w1.heap.size < w2.heap.size := by omega
  have c2_2_0 : w2.cell? ⟨w1.heap.size, 0, none⟩ = some (.int .i64 u0) := by rw [hb.cell (by simp <;> omega)]; first | (simp [go_sem]; done)
  have c2_2_1 : w2.cell? ⟨w1.heap.size, 1, none⟩ = some (.int .i64 u1) := by rw [hb.cell (by simp <;> omega)]; first | (simp [go_sem]; done)
  have c2_2_2 : w2.cell? ⟨w1.heap.size, 2, none⟩ = some (.int .i64 u2) := by rw [hb.cell (by simp <;> omega)]; first | (simp [go_sem]; done)
  have HB2 := Lib.hid (Below.trans ((ba_c (HB1.out) (Nat.le_refl _) _)) (hb.mono (Below.size (ba_c (HB1.out) (Nat.le_refl _) _))))
  clear hb hsz c1_0_0 c1_0_1 c1_0_2 c1_1_0 c1_1_1 c1_1_2 hs1_0 hs1_1
  go_wp2_with fail
  refine (On20_okq _ _ _ _ _ _ _ _ _ _ _ _ _ _ Hhp.out Hhu.out Hhz.out Hhv.out Hhy.out Hhq.out _).mono ?_
  rintro e w3 ⟨rfl, hb⟩
  have hsz : w2.heap.size + 1 ≤ w3.heap.size := by have := hb.size; simp at this; omega
  have hs3_0 : w.heap.size < w3.heap.size := by omega
  have c3_0_0 : w3.cell? ⟨w.heap.size, 0, none⟩ = some (.int .i64 a) := by rw [hb.cell (by simp <;> omega)]; first | exact c2_0_0 | (rw [World.cell?_alloc_lt _ _ _ hs2_0]; exact c2_0_0) | (simp [go_sem]; done)
  have c3_0_1 : w3.cell? ⟨w.heap.size, 1, none⟩ = some (.int .i64 b) := by rw [hb.cell (by simp <;> omega)]; first | exact c2_0_1 | (rw [World.cell?_alloc_lt _ _ _ hs2_0]; exact c2_0_1) | (simp [go_sem]; done)
  have c3_0_2 : w3.cell? ⟨w.heap.size, 2, none⟩ = some (.int .i64 c) := by rw [hb.cell (by simp <;> omega)]; first | exact c2_0_2 | (rw [World.cell?_alloc_lt _ _ _ hs2_0]; exact c2_0_2) | (simp [go_sem]; done)
  have hs3_1 : w.heap.size + 1 < w3.heap.size := by omega
  have c3_1_0 : w3.cell? ⟨w.heap.size + 1, 0, none⟩ = some (.int .i64 x) := by rw [hb.cell (by simp <;> omega)]; first | exact c2_1_0 | (rw [World.cell?_alloc_lt _ _ _ hs2_1]; exact c2_1_0) | (simp [go_sem]; done)
  have c3_1_1 : w3.cell? ⟨w.heap.size + 1, 1, none⟩ = some (.int .i64 y) := by rw [hb.cell (by simp <;> omega)]; first | exact c2_1_1 | (rw [World.cell?_alloc_lt _ _ _ hs2_1]; exact c2_1_1) | (simp [go_sem]; done)
  have c3_1_2 : w3.cell? ⟨w.heap.size + 1, 2, none⟩ = some (.int .i64 z) := by rw [hb.cell (by simp <;> omega)]; first | exact c2_1_2 | (rw [World.cell?_alloc_lt _ _ _ hs2_1]; exact c2_1_2) | (simp [go_sem]; done)
  have hs3_2 : w1.heap.size < w3.heap.size := by omega
  have c3_2_0 : w3.cell? ⟨w1.heap.size, 0, none⟩ = some (.int .i64 u0) := by rw [hb.cell (by simp <;> omega)]; first | exact c2_2_0 | (rw [World.cell?_alloc_lt _ _ _ hs2_2]; exact c2_2_0) | (simp [go_sem]; done)
  have c3_2_1 : w3.cell? ⟨w1.heap.size, 1, none⟩ = some (.int .i64 u1) := by rw [hb.cell (by simp <;> omega)]; first | exact c2_2_1 | (rw [World.cell?_alloc_lt _ _ _ hs2_2]; exact c2_2_1) | (simp [go_sem]; done)
  have c3_2_2 : w3.cell? ⟨w1.heap.size, 2, none⟩ = some (.int .i64 u2) := by rw [hb.cell (by simp <;> omega)]; first | exact c2_2_2 | (rw [World.cell?_alloc_lt _ _ _ hs2_2]; exact c2_2_2) | (simp [go_sem]; done)
  have hs3_3 : w2.heap.size < w3.heap.size := by omega
  have c3_3_0 : w3.cell? ⟨w2.heap.size, 0, none⟩ = some (.int .i64 t0) := by rw [hb.cell (by simp <;> omega)]; first | (simp [go_sem]; done)
  have c3_3_1 : w3.cell? ⟨w2.heap.size, 1, none⟩ = some (.int .i64 t1) := by rw [hb.cell (by simp <;> omega)]; first | (simp [go_sem]; done)
  have c3_3_2 : w3.cell? ⟨w2.heap.size, 2, none⟩ = some (.int .i64 t2) := by rw [hb.cell (by simp <;> omega)]; first | (simp [go_sem]; done)
  have HB3 := Lib.hid (Below.trans ((ba_c (HB2.out) (Nat.le_refl _) _)) (hb.mono (Below.size (ba_c (HB2.out) (Nat.le_refl _) _))))
  clear hb hsz c2_0_0 c2_0_1 c2_0_2 c2_1_0 c2_1_1 c2_1_2 c2_2_0 c2_2_1 c2_2_2 hs2_0 hs2_1 hs2_2
  go_wp2_with fail
  refine (counted14 _).mono ?_
  rintro e w4 ⟨rfl, hb⟩
  have hsz : w3.heap.size + 1 ≤ w4.heap.size := by have := hb.size; simp at this; omega
  have hs4_0 : w.heap.size < w4.heap.size := by omega
  have c4_0_0 : w4.cell? ⟨w.heap.size, 0, none⟩ = some (.int .i64 a) := by rw [hb.cell (by simp <;> omega)]; first | exact c3_0_0 | (rw [World.cell?_alloc_lt _ _ _ hs3_0]; exact c3_0_0) | (simp [go_sem]; done)
  have c4_0_1 : w4.cell? ⟨w.heap.size, 1, none⟩ = some (.int .i64 b) := by rw [hb.cell (by simp <;> omega)]; first | exact c3_0_1 | (rw [World.cell?_alloc_lt _ _ _ hs3_0]; exact c3_0_1) | (simp [go_sem]; done)
  have c4_0_2 : w4.cell? ⟨w.heap.size, 2, none⟩ = some (.int .i64 c) := by rw [hb.cell (by simp <;> omega)]; first | exact c3_0_2 | (rw [World.cell?_alloc_lt _ _ _ hs3_0]; exact c3_0_2) | (simp [go_sem]; done)
  have hs4_1 : w.heap.size + 1 < w4.heap.size := by omega
  have c4_1_0 : w4.cell? ⟨w.heap.size + 1, 0, none⟩ = some (.int .i64 x) := by rw [hb.cell (by simp <;> omega)]; first | exact c3_1_0 | (rw [World.cell?_alloc_lt _ _ _ hs3_1]; exact c3_1_0) | (simp [go_sem]; done)
  have c4_1_1 : w4.cell? ⟨w.heap.size + 1, 1, none⟩ = some (.int .i64 y) := by rw [hb.cell (by simp <;> omega)]; first | exact c3_1_1 | (rw [World.cell?_alloc_lt _ _ _ hs3_1]; exact c3_1_1) | (simp [go_sem]; done)
  have c4_1_2 : w4.cell? ⟨w.heap.size + 1, 2, none⟩ = some (.int .i64 z) := by rw [hb.cell (by simp <;> omega)]; first | exact c3_1_2 | (rw [World.cell?_alloc_lt _ _ _ hs3_1]; exact c3_1_2) | (simp [go_sem]; done)
  have hs4_2 : w1.heap.size < w4.heap.size := by omega
  have c4_2_0 : w4.cell? ⟨w1.heap.size, 0, none⟩ = some (.int .i64 u0) := by rw [hb.cell (by simp <;> omega)]; first | exact c3_2_0 | (rw [World.cell?_alloc_lt _ _ _ hs3_2]; exact c3_2_0) | (simp [go_sem]; done)
  have c4_2_1 : w4.cell? ⟨w1.heap.size, 1, none⟩ = some (.int .i64 u1) := by rw [hb.cell (by simp <;> omega)]; first | exact c3_2_1 | (rw [World.cell?_alloc_lt _ _ _ hs3_2]; exact c3_2_1) | (simp [go_sem]; done)
  have c4_2_2 : w4.cell? ⟨w1.heap.size, 2, none⟩ = some (.int .i64 u2) := by rw [hb.cell (by simp <;> omega)]; first | exact c3_2_2 | (rw [World.cell?_alloc_lt _ _ _ hs3_2]; exact c3_2_2) | (simp [go_sem]; done)
  have hs4_3 : w2.heap.size < w4.heap.size := by omega
  have c4_3_0 : w4.cell? ⟨w2.heap.size, 0, none⟩ = some (.int .i64 t0) := by rw [hb.cell (by simp <;> omega)]; first | exact c3_3_0 | (rw [World.cell?_alloc_lt _ _ _ hs3_3]; exact c3_3_0) | (simp [go_sem]; done)
  have c4_3_1 : w4.cell? ⟨w2.heap.size, 1, none⟩ = some (.int .i64 t1) := by rw [hb.cell (by simp <;> omega)]; first | exact c3_3_1 | (rw [World.cell?_alloc_lt _ _ _ hs3_3]; exact c3_3_1) | (simp [go_sem]; done)
  have c4_3_2 : w4.cell? ⟨w2.heap.size, 2, none⟩ = some (.int .i64 t2) := by rw [hb.cell (by simp <;> omega)]; first | exact c3_3_2 | (rw [World.cell?_alloc_lt _ _ _ hs3_3]; exact c3_3_2) | (simp [go_sem]; done)
  have hs4_4 : w3.heap.size < w4.heap.size := by omega
  have c4_4_0 : w4.cell? ⟨w3.heap.size, 0, none⟩ = some (.int .i64 0) := by rw [hb.cell (by simp <;> omega)]; first | (simp [go_sem]; done)
  have c4_4_1 : w4.cell? ⟨w3.heap.size, 1, none⟩ = some (.int .i64 0) := by rw [hb.cell (by simp <;> omega)]; first | (simp [go_sem]; done)
  have c4_4_2 : w4.cell? ⟨w3.heap.size, 2, none⟩ = some (.int .i64 0) := by rw [hb.cell (by simp <;> omega)]; first | (simp [go_sem]; done)
  have HB4 := Lib.hid (Below.trans ((ba_c (HB3.out) (Nat.le_refl _) _)) (hb.mono (Below.size (ba_c (HB3.out) (Nat.le_refl _) _))))
  clear hb hsz c3_0_0 c3_0_1 c3_0_2 c3_1_0 c3_1_1 c3_1_2 c3_2_0 c3_2_1 c3_2_2 c3_3_0 c3_3_1 c3_3_2 hs3_0 hs3_1 hs3_2 hs3_3
  go_wp2_with fail
  refine (isPrime15_yes _ Hhp.out _).mono ?_
  rintro e w5 ⟨rfl, hb⟩
  have hsz : w4.heap.size ≤ w5.heap.size := hb.size
  have hs5_0 : w.heap.size < w5.heap.size := by omega
  have c5_0_0 : w5.cell? ⟨w.heap.size, 0, none⟩ = some (.int .i64 a) := by rw [hb.cell (by simp <;> omega)]; first | exact c4_0_0 | (rw [World.cell?_alloc_lt _ _ _ hs4_0]; exact c4_0_0) | (simp [go_sem]; done)
  have c5_0_1 : w5.cell? ⟨w.heap.size, 1, none⟩ = some (.int .i64 b) := by rw [hb.cell (by simp <;> omega)]; first | exact c4_0_1 | (rw [World.cell?_alloc_lt _ _ _ hs4_0]; exact c4_0_1) | (simp [go_sem]; done)
  have c5_0_2 : w5.cell? ⟨w.heap.size, 2, none⟩ = some (.int .i64 c) := by rw [hb.cell (by simp <;> omega)]; first | exact c4_0_2 | (rw [World.cell?_alloc_lt _ _ _ hs4_0]; exact c4_0_2) | (simp [go_sem]; done)
  have hs5_1 : w.heap.size + 1 < w5.heap.size := by omega
  have c5_1_0 : w5.cell? ⟨w.heap.size + 1, 0, none⟩ = some (.int .i64 x) := by rw [hb.cell (by simp <;> omega)]; first | exact c4_1_0 | (rw [World.cell?_alloc_lt _ _ _ hs4_1]; exact c4_1_0) | (simp [go_sem]; done)
  have c5_1_1 : w5.cell? ⟨w.heap.size + 1, 1, none⟩ = some (.int .i64 y) := by rw [hb.cell (by simp <;> omega)]; first | exact c4_1_1 | (rw [World.cell?_alloc_lt _ _ _ hs4_1]; exact c4_1_1) | (simp [go_sem]; done)
  have c5_1_2 : w5.cell? ⟨w.heap.size + 1, 2, none⟩ = some (.int .i64 z) := by rw [hb.cell (by simp <;> omega)]; first | exact c4_1_2 | (rw [World.cell?_alloc_lt _ _ _ hs4_1]; exact c4_1_2) | (simp [go_sem]; done)
  have hs5_2 : w1.heap.size < w5.heap.size := by omega
  have c5_2_0 : w5.cell? ⟨w1.heap.size, 0, none⟩ = some (.int .i64 u0) := by rw [hb.cell (by simp <;> omega)]; first | exact c4_2_0 | (rw [World.cell?_alloc_lt _ _ _ hs4_2]; exact c4_2_0) | (simp [go_sem]; done)
  have c5_2_1 : w5.cell? ⟨w1.heap.size, 1, none⟩ = some (.int .i64 u1) := by rw [hb.cell (by simp <;> omega)]; first | exact c4_2_1 | (rw [World.cell?_alloc_lt _ _ _ hs4_2]; exact c4_2_1) | (simp [go_sem]; done)
  have c5_2_2 : w5.cell? ⟨w1.heap.size, 2, none⟩ = some (.int .i64 u2) := by rw [hb.cell (by simp <;> omega)]; first | exact c4_2_2 | (rw [World.cell?_alloc_lt _ _ _ hs4_2]; exact c4_2_2) | (simp [go_sem]; done)
  have hs5_3 : w2.heap.size < w5.heap.size := by omega
  have c5_3_0 : w5.cell? ⟨w2.heap.size, 0, none⟩ = some (.int .i64 t0) := by rw [hb.cell (by simp <;> omega)]; first | exact c4_3_0 | (rw [World.cell?_alloc_lt _ _ _ hs4_3]; exact c4_3_0) | (simp [go_sem]; done)
  have c5_3_1 : w5.cell? ⟨w2.heap.size, 1, none⟩ = some (.int .i64 t1) := by rw [hb.cell (by simp <;> omega)]; first | exact c4_3_1 | (rw [World.cell?_alloc_lt _ _ _ hs4_3]; exact c4_3_1) | (simp [go_sem]; done)
  have c5_3_2 : w5.cell? ⟨w2.heap.size, 2, none⟩ = some (.int .i64 t2) := by rw [hb.cell (by simp <;> omega)]; first | exact c4_3_2 | (rw [World.cell?_alloc_lt _ _ _ hs4_3]; exact c4_3_2) | (simp [go_sem]; done)
  have hs5_4 : w3.heap.size < w5.heap.size := by omega
  have c5_4_0 : w5.cell? ⟨w3.heap.size, 0, none⟩ = some (.int .i64 0) := by rw [hb.cell (by simp <;> omega)]; first | exact c4_4_0 | (rw [World.cell?_alloc_lt _ _ _ hs4_4]; exact c4_4_0) | (simp [go_sem]; done)
  have c5_4_1 : w5.cell? ⟨w3.heap.size, 1, none⟩ = some (.int .i64 0) := by rw [hb.cell (by simp <;> omega)]; first | exact c4_4_1 | (rw [World.cell?_alloc_lt _ _ _ hs4_4]; exact c4_4_1) | (simp [go_sem]; done)
  have c5_4_2 : w5.cell? ⟨w3.heap.size, 2, none⟩ = some (.int .i64 0) := by rw [hb.cell (by simp <;> omega)]; first | exact c4_4_2 | (rw [World.cell?_alloc_lt _ _ _ hs4_4]; exact c4_4_2) | (simp [go_sem]; done)
  have HB5 := Lib.hid (Below.trans (HB4.out) (hb.mono (Below.size HB4.out)))
  clear hb hsz c4_0_0 c4_0_1 c4_0_2 c4_1_0 c4_1_1 c4_1_2 c4_2_0 c4_2_1 c4_2_2 c4_3_0 c4_3_1 c4_3_2 c4_4_0 c4_4_1 c4_4_2 hs4_0 hs4_1 hs4_2 hs4_3 hs4_4
  go_wp2_with fail
  refine (plainF21e _ _ _ _ _ _ _ false Hhu.out Hhz.out Hhp.out _).mono ?_
  rintro e w6 ⟨rfl, hb⟩
  have hsz : w5.heap.size ≤ w6.heap.size := hb.size
  have hs6_0 : w.heap.size < w6.heap.size := by omega
  have c6_0_0 : w6.cell? ⟨w.heap.size, 0, none⟩ = some (.int .i64 a) := by rw [hb.cell (by simp <;> omega)]; first | exact c5_0_0 | (rw [World.cell?_alloc_lt _ _ _ hs5_0]; exact c5_0_0) | (simp [go_sem]; done)
  have c6_0_1 : w6.cell? ⟨w.heap.size, 1, none⟩ = some (.int .i64 b) := by rw [hb.cell (by simp <;> omega)]; first | exact c5_0_1 | (rw [World.cell?_alloc_lt _ _ _ hs5_0]; exact c5_0_1) | (simp [go_sem]; done)
  have c6_0_2 : w6.cell? ⟨w.heap.size, 2, none⟩ = some (.int .i64 c) := by rw [hb.cell (by simp <;> omega)]; first | exact c5_0_2 | (rw [World.cell?_alloc_lt _ _ _ hs5_0]; exact c5_0_2) | (simp [go_sem]; done)
  have hs6_1 : w.heap.size + 1 < w6.heap.size := by omega
  have c6_1_0 : w6.cell? ⟨w.heap.size + 1, 0, none⟩ = some (.int .i64 x) := by rw [hb.cell (by simp <;> omega)]; first | exact c5_1_0 | (rw [World.cell?_alloc_lt _ _ _ hs5_1]; exact c5_1_0) | (simp [go_sem]; done)
  have c6_1_1 : w6.cell? ⟨w.heap.size + 1, 1, none⟩ = some (.int .i64 y) := by rw [hb.cell (by simp <;> omega)]; first | exact c5_1_1 | (rw [World.cell?_alloc_lt _ _ _ hs5_1]; exact c5_1_1) | (simp [go_sem]; done)
  have c6_1_2 : w6.cell? ⟨w.heap.size + 1, 2, none⟩ = some (.int .i64 z) := by rw [hb.cell (by simp <;> omega)]; first | exact c5_1_2 | (rw [World.cell?_alloc_lt _ _ _ hs5_1]; exact c5_1_2) | (simp [go_sem]; done)
  have hs6_2 : w1.heap.size < w6.heap.size := by omega
  have c6_2_0 : w6.cell? ⟨w1.heap.size, 0, none⟩ = some (.int .i64 u0) := by rw [hb.cell (by simp <;> omega)]; first | exact c5_2_0 | (rw [World.cell?_alloc_lt _ _ _ hs5_2]; exact c5_2_0) | (simp [go_sem]; done)
  have c6_2_1 : w6.cell? ⟨w1.heap.size, 1, none⟩ = some (.int .i64 u1) := by rw [hb.cell (by simp <;> omega)]; first | exact c5_2_1 | (rw [World.cell?_alloc_lt _ _ _ hs5_2]; exact c5_2_1) | (simp [go_sem]; done)
  have c6_2_2 : w6.cell? ⟨w1.heap.size, 2, none⟩ = some (.int .i64 u2) := by rw [hb.cell (by simp <;> omega)]; first | exact c5_2_2 | (rw [World.cell?_alloc_lt _ _ _ hs5_2]; exact c5_2_2) | (simp [go_sem]; done)
  have hs6_3 : w2.heap.size < w6.heap.size := by omega
  have c6_3_0 : w6.cell? ⟨w2.heap.size, 0, none⟩ = some (.int .i64 t0) := by rw [hb.cell (by simp <;> omega)]; first | exact c5_3_0 | (rw [World.cell?_alloc_lt _ _ _ hs5_3]; exact c5_3_0) | (simp [go_sem]; done)
  have c6_3_1 : w6.cell? ⟨w2.heap.size, 1, none⟩ = some (.int .i64 t1) := by rw [hb.cell (by simp <;> omega)]; first | exact c5_3_1 | (rw [World.cell?_alloc_lt _ _ _ hs5_3]; exact c5_3_1) | (simp [go_sem]; done)
  have c6_3_2 : w6.cell? ⟨w2.heap.size, 2, none⟩ = some (.int .i64 t2) := by rw [hb.cell (by simp <;> omega)]; first | exact c5_3_2 | (rw [World.cell?_alloc_lt _ _ _ hs5_3]; exact c5_3_2) | (simp [go_sem]; done)
  have hs6_4 : w3.heap.size < w6.heap.size := by omega
  have c6_4_0 : w6.cell? ⟨w3.heap.size, 0, none⟩ = some (.int .i64 0) := by rw [hb.cell (by simp <;> omega)]; first | exact c5_4_0 | (rw [World.cell?_alloc_lt _ _ _ hs5_4]; exact c5_4_0) | (simp [go_sem]; done)
  have c6_4_1 : w6.cell? ⟨w3.heap.size, 1, none⟩ = some (.int .i64 0) := by rw [hb.cell (by simp <;> omega)]; first | exact c5_4_1 | (rw [World.cell?_alloc_lt _ _ _ hs5_4]; exact c5_4_1) | (simp [go_sem]; done)
  have c6_4_2 : w6.cell? ⟨w3.heap.size, 2, none⟩ = some (.int .i64 0) := by rw [hb.cell (by simp <;> omega)]; first | exact c5_4_2 | (rw [World.cell?_alloc_lt _ _ _ hs5_4]; exact c5_4_2) | (simp [go_sem]; done)
  have HB6 := Lib.hid (Below.trans (HB5.out) (hb.mono (Below.size HB5.out)))
  clear hb hsz c5_0_0 c5_0_1 c5_0_2 c5_1_0 c5_1_1 c5_1_2 c5_2_0 c5_2_1 c5_2_2 c5_3_0 c5_3_1 c5_3_2 c5_4_0 c5_4_1 c5_4_2 hs5_0 hs5_1 hs5_2 hs5_3 hs5_4
  go_wp2_with fail
  refine (plainF21e _ _ _ _ _ _ _ false Hhv.out Hhy.out Hhp.out _).mono ?_
  rintro e w7 ⟨rfl, hb⟩
  have hsz : w6.heap.size + 1 ≤ w7.heap.size := by have := hb.size; simp at this; omega
  have hs7_0 : w.heap.size < w7.heap.size := by omega
  have c7_0_0 : w7.cell? ⟨w.heap.size, 0, none⟩ = some (.int .i64 a) := by rw [hb.cell (by simp <;> omega)]; first | exact c6_0_0 | (rw [World.cell?_alloc_lt _ _ _ hs6_0]; exact c6_0_0) | (simp [go_sem]; done)
  have c7_0_1 : w7.cell? ⟨w.heap.size, 1, none⟩ = some (.int .i64 b) := by rw [hb.cell (by simp <;> omega)]; first | exact c6_0_1 | (rw [World.cell?_alloc_lt _ _ _ hs6_0]; exact c6_0_1) | (simp [go_sem]; done)
  have c7_0_2 : w7.cell? ⟨w.heap.size, 2, none⟩ = some (.int .i64 c) := by rw [hb.cell (by simp <;> omega)]; first | exact c6_0_2 | (rw [World.cell?_alloc_lt _ _ _ hs6_0]; exact c6_0_2) | (simp [go_sem]; done)
  have hs7_1 : w.heap.size + 1 < w7.heap.size := by omega
  have c7_1_0 : w7.cell? ⟨w.heap.size + 1, 0, none⟩ = some (.int .i64 x) := by rw [hb.cell (by simp <;> omega)]; first | exact c6_1_0 | (rw [World.cell?_alloc_lt _ _ _ hs6_1]; exact c6_1_0) | (simp [go_sem]; done)
  have c7_1_1 : w7.cell? ⟨w.heap.size + 1, 1, none⟩ = some (.int .i64 y) := by rw [hb.cell (by simp <;> omega)]; first | exact c6_1_1 | (rw [World.cell?_alloc_lt _ _ _ hs6_1]; exact c6_1_1) | (simp [go_sem]; done)
  have c7_1_2 : w7.cell? ⟨w.heap.size + 1, 2, none⟩ = some (.int .i64 z) := by rw [hb.cell (by simp <;> omega)]; first | exact c6_1_2 | (rw [World.cell?_alloc_lt _ _ _ hs6_1]; exact c6_1_2) | (simp [go_sem]; done)
  have hs7_2 : w1.heap.size < w7.heap.size := by omega
  have c7_2_0 : w7.cell? ⟨w1.heap.size, 0, none⟩ = some (.int .i64 u0) := by rw [hb.cell (by simp <;> omega)]; first | exact c6_2_0 | (rw [World.cell?_alloc_lt _ _ _ hs6_2]; exact c6_2_0) | (simp [go_sem]; done)
  have c7_2_1 : w7.cell? ⟨w1.heap.size, 1, none⟩ = some (.int .i64 u1) := by rw [hb.cell (by simp <;> omega)]; first | exact c6_2_1 | (rw [World.cell?_alloc_lt _ _ _ hs6_2]; exact c6_2_1) | (simp [go_sem]; done)
  have c7_2_2 : w7.cell? ⟨w1.heap.size, 2, none⟩ = some (.int .i64 u2) := by rw [hb.cell (by simp <;> omega)]; first | exact c6_2_2 | (rw [World.cell?_alloc_lt _ _ _ hs6_2]; exact c6_2_2) | (simp [go_sem]; done)
  have hs7_3 : w2.heap.size < w7.heap.size := by omega
  have c7_3_0 : w7.cell? ⟨w2.heap.size, 0, none⟩ = some (.int .i64 t0) := by rw [hb.cell (by simp <;> omega)]; first | exact c6_3_0 | (rw [World.cell?_alloc_lt _ _ _ hs6_3]; exact c6_3_0) | (simp [go_sem]; done)
  have c7_3_1 : w7.cell? ⟨w2.heap.size, 1, none⟩ = some (.int .i64 t1) := by rw [hb.cell (by simp <;> omega)]; first | exact c6_3_1 | (rw [World.cell?_alloc_lt _ _ _ hs6_3]; exact c6_3_1) | (simp [go_sem]; done)
  have c7_3_2 : w7.cell? ⟨w2.heap.size, 2, none⟩ = some (.int .i64 t2) := by rw [hb.cell (by simp <;> omega)]; first | exact c6_3_2 | (rw [World.cell?_alloc_lt _ _ _ hs6_3]; exact c6_3_2) | (simp [go_sem]; done)
  have hs7_4 : w3.heap.size < w7.heap.size := by omega
  have c7_4_0 : w7.cell? ⟨w3.heap.size, 0, none⟩ = some (.int .i64 0) := by rw [hb.cell (by simp <;> omega)]; first | exact c6_4_0 | (rw [World.cell?_alloc_lt _ _ _ hs6_4]; exact c6_4_0) | (simp [go_sem]; done)
  have c7_4_1 : w7.cell? ⟨w3.heap.size, 1, none⟩ = some (.int .i64 0) := by rw [hb.cell (by simp <;> omega)]; first | exact c6_4_1 | (rw [World.cell?_alloc_lt _ _ _ hs6_4]; exact c6_4_1) | (simp [go_sem]; done)
  have c7_4_2 : w7.cell? ⟨w3.heap.size, 2, none⟩ = some (.int .i64 0) := by rw [hb.cell (by simp <;> omega)]; first | exact c6_4_2 | (rw [World.cell?_alloc_lt _ _ _ hs6_4]; exact c6_4_2) | (simp [go_sem]; done)
  have hs7_5 : w6.heap.size < w7.heap.size := by omega
  have c7_5_0 : w7.cell? ⟨w6.heap.size, 0, none⟩ = some (.int .i64 u0) := by rw [hb.cell (by simp <;> omega)]; first | (simp [go_sem]; done)
  have c7_5_1 : w7.cell? ⟨w6.heap.size, 1, none⟩ = some (.int .i64 u1) := by rw [hb.cell (by simp <;> omega)]; first | (simp [go_sem]; done)
  have c7_5_2 : w7.cell? ⟨w6.heap.size, 2, none⟩ = some (.int .i64 u2) := by rw [hb.cell (by simp <;> omega)]; first | (simp [go_sem]; done)
  have HB7 := Lib.hid (Below.trans ((ba_c (HB6.out) (Nat.le_refl _) _)) (hb.mono (Below.size (ba_c (HB6.out) (Nat.le_refl _) _))))
  clear hb hsz c6_0_0 c6_0_1 c6_0_2 c6_1_0 c6_1_1 c6_1_2 c6_2_0 c6_2_1 c6_2_2 c6_3_0 c6_3_1 c6_3_2 c6_4_0 c6_4_1 c6_4_2 hs6_0 hs6_1 hs6_2 hs6_3 hs6_4
  go_wp2_with fail
  refine (dotF22q _ _ _ _ _ _ _ _ Hhp.out Hhd.out _).mono ?_
  rintro e w8 ⟨rfl, hb⟩
  have hsz : w7.heap.size + 1 ≤ w8.heap.size := by have := hb.size; simp at this; omega
  have hs8_0 : w.heap.size < w8.heap.size := by omega
  have c8_0_0 : w8.cell? ⟨w.heap.size, 0, none⟩ = some (.int .i64 a) := by rw [hb.cell (by simp <;> omega)]; first | exact c7_0_0 | (rw [World.cell?_alloc_lt _ _ _ hs7_0]; exact c7_0_0) | (simp [go_sem]; done)
  have c8_0_1 : w8.cell? ⟨w.heap.size, 1, none⟩ = some (.int .i64 b) := by rw [hb.cell (by simp <;> omega)]; first | exact c7_0_1 | (rw [World.cell?_alloc_lt _ _ _ hs7_0]; exact c7_0_1) | (simp [go_sem]; done)
  have c8_0_2 : w8.cell? ⟨w.heap.size, 2, none⟩ = some (.int .i64 c) := by rw [hb.cell (by simp <;> omega)]; first | exact c7_0_2 | (rw [World.cell?_alloc_lt _ _ _ hs7_0]; exact c7_0_2) | (simp [go_sem]; done)
  have hs8_1 : w.heap.size + 1 < w8.heap.size := by omega
  have c8_1_0 : w8.cell? ⟨w.heap.size + 1, 0, none⟩ = some (.int .i64 x) := by rw [hb.cell (by simp <;> omega)]; first | exact c7_1_0 | (rw [World.cell?_alloc_lt _ _ _ hs7_1]; exact c7_1_0) | (simp [go_sem]; done)
  have c8_1_1 : w8.cell? ⟨w.heap.size + 1, 1, none⟩ = some (.int .i64 y) := by rw [hb.cell (by simp <;> omega)]; first | exact c7_1_1 | (rw [World.cell?_alloc_lt _ _ _ hs7_1]; exact c7_1_1) | (simp [go_sem]; done)
  have c8_1_2 : w8.cell? ⟨w.heap.size + 1, 2, none⟩ = some (.int .i64 z) := by rw [hb.cell (by simp <;> omega)]; first | exact c7_1_2 | (rw [World.cell?_alloc_lt _ _ _ hs7_1]; exact c7_1_2) | (simp [go_sem]; done)
  have hs8_2 : w1.heap.size < w8.heap.size := by omega
  have c8_2_0 : w8.cell? ⟨w1.heap.size, 0, none⟩ = some (.int .i64 u0) := by rw [hb.cell (by simp <;> omega)]; first | exact c7_2_0 | (rw [World.cell?_alloc_lt _ _ _ hs7_2]; exact c7_2_0) | (simp [go_sem]; done)
  have c8_2_1 : w8.cell? ⟨w1.heap.size, 1, none⟩ = some (.int .i64 u1) := by rw [hb.cell (by simp <;> omega)]; first | exact c7_2_1 | (rw [World.cell?_alloc_lt _ _ _ hs7_2]; exact c7_2_1) | (simp [go_sem]; done)
  have c8_2_2 : w8.cell? ⟨w1.heap.size, 2, none⟩ = some (.int .i64 u2) := by rw [hb.cell (by simp <;> omega)]; first | exact c7_2_2 | (rw [World.cell?_alloc_lt _ _ _ hs7_2]; exact c7_2_2) | (simp [go_sem]; done)
  have hs8_3 : w2.heap.size < w8.heap.size := by omega
  have c8_3_0 : w8.cell? ⟨w2.heap.size, 0, none⟩ = some (.int .i64 t0) := by rw [hb.cell (by simp <;> omega)]; first | exact c7_3_0 | (rw [World.cell?_alloc_lt _ _ _ hs7_3]; exact c7_3_0) | (simp [go_sem]; done)
  have c8_3_1 : w8.cell? ⟨w2.heap.size, 1, none⟩ = some (.int .i64 t1) := by rw [hb.cell (by simp <;> omega)]; first | exact c7_3_1 | (rw [World.cell?_alloc_lt _ _ _ hs7_3]; exact c7_3_1) | (simp [go_sem]; done)
  have c8_3_2 : w8.cell? ⟨w2.heap.size, 2, none⟩ = some (.int .i64 t2) := by rw [hb.cell (by simp <;> omega)]; first | exact c7_3_2 | (rw [World.cell?_alloc_lt _ _ _ hs7_3]; exact c7_3_2) | (simp [go_sem]; done)
  have hs8_4 : w3.heap.size < w8.heap.size := by omega
  have c8_4_0 : w8.cell? ⟨w3.heap.size, 0, none⟩ = some (.int .i64 0) := by rw [hb.cell (by simp <;> omega)]; first | exact c7_4_0 | (rw [World.cell?_alloc_lt _ _ _ hs7_4]; exact c7_4_0) | (simp [go_sem]; done)
  have c8_4_1 : w8.cell? ⟨w3.heap.size, 1, none⟩ = some (.int .i64 0) := by rw [hb.cell (by simp <;> omega)]; first | exact c7_4_1 | (rw [World.cell?_alloc_lt _ _ _ hs7_4]; exact c7_4_1) | (simp [go_sem]; done)
  have c8_4_2 : w8.cell? ⟨w3.heap.size, 2, none⟩ = some (.int .i64 0) := by rw [hb.cell (by simp <;> omega)]; first | exact c7_4_2 | (rw [World.cell?_alloc_lt _ _ _ hs7_4]; exact c7_4_2) | (simp [go_sem]; done)
  have hs8_5 : w6.heap.size < w8.heap.size := by omega
  have c8_5_0 : w8.cell? ⟨w6.heap.size, 0, none⟩ = some (.int .i64 u0) := by rw [hb.cell (by simp <;> omega)]; first | exact c7_5_0 | (rw [World.cell?_alloc_lt _ _ _ hs7_5]; exact c7_5_0) | (simp [go_sem]; done)
  have c8_5_1 : w8.cell? ⟨w6.heap.size, 1, none⟩ = some (.int .i64 u1) := by rw [hb.cell (by simp <;> omega)]; first | exact c7_5_1 | (rw [World.cell?_alloc_lt _ _ _ hs7_5]; exact c7_5_1) | (simp [go_sem]; done)
  have c8_5_2 : w8.cell? ⟨w6.heap.size, 2, none⟩ = some (.int .i64 u2) := by rw [hb.cell (by simp <;> omega)]; first | exact c7_5_2 | (rw [World.cell?_alloc_lt _ _ _ hs7_5]; exact c7_5_2) | (simp [go_sem]; done)
  have hs8_6 : w7.heap.size < w8.heap.size := by omega
  have c8_6_0 : w8.cell? ⟨w7.heap.size, 0, none⟩ = some (.int .i64 v0) := by rw [hb.cell (by simp <;> omega)]; first | (simp [go_sem]; done)
  have c8_6_1 : w8.cell? ⟨w7.heap.size, 1, none⟩ = some (.int .i64 v1) := by rw [hb.cell (by simp <;> omega)]; first | (simp [go_sem]; done)
  have c8_6_2 : w8.cell? ⟨w7.heap.size, 2, none⟩ = some (.int .i64 v2) := by rw [hb.cell (by simp <;> omega)]; first | (simp [go_sem]; done)
  have HB8 := Lib.hid (Below.trans ((ba_c (HB7.out) (Nat.le_refl _) _)) (hb.mono (Below.size (ba_c (HB7.out) (Nat.le_refl _) _))))
  clear hb hsz c7_0_0 c7_0_1 c7_0_2 c7_1_0 c7_1_1 c7_1_2 c7_2_0 c7_2_1 c7_2_2 c7_3_0 c7_3_1 c7_3_2 c7_4_0 c7_4_1 c7_4_2 c7_5_0 c7_5_1 c7_5_2 hs7_0 hs7_1 hs7_2 hs7_3 hs7_4 hs7_5
  go_wp2_with fail
  refine (plainF21e _ _ _ _ _ _ _ false Hht.out Hhtz.out Hhp.out _).mono ?_
  rintro e w9 ⟨rfl, hb⟩
  have hsz : w8.heap.size ≤ w9.heap.size := hb.size
  have hs9_0 : w.heap.size < w9.heap.size := by omega
  have c9_0_0 : w9.cell? ⟨w.heap.size, 0, none⟩ = some (.int .i64 a) := by rw [hb.cell (by simp <;> omega)]; first | exact c8_0_0 | (rw [World.cell?_alloc_lt _ _ _ hs8_0]; exact c8_0_0) | (simp [go_sem]; done)
  have c9_0_1 : w9.cell? ⟨w.heap.size, 1, none⟩ = some (.int .i64 b) := by rw [hb.cell (by simp <;> omega)]; first | exact c8_0_1 | (rw [World.cell?_alloc_lt _ _ _ hs8_0]; exact c8_0_1) | (simp [go_sem]; done)
  have c9_0_2 : w9.cell? ⟨w.heap.size, 2, none⟩ = some (.int .i64 c) := by rw [hb.cell (by simp <;> omega)]; first | exact c8_0_2 | (rw [World.cell?_alloc_lt _ _ _ hs8_0]; exact c8_0_2) | (simp [go_sem]; done)
  have hs9_1 : w.heap.size + 1 < w9.heap.size := by omega
  have c9_1_0 : w9.cell? ⟨w.heap.size + 1, 0, none⟩ = some (.int .i64 x) := by rw [hb.cell (by simp <;> omega)]; first | exact c8_1_0 | (rw [World.cell?_alloc_lt _ _ _ hs8_1]; exact c8_1_0) | (simp [go_sem]; done)
  have c9_1_1 : w9.cell? ⟨w.heap.size + 1, 1, none⟩ = some (.int .i64 y) := by rw [hb.cell (by simp <;> omega)]; first | exact c8_1_1 | (rw [World.cell?_alloc_lt _ _ _ hs8_1]; exact c8_1_1) | (simp [go_sem]; done)
  have c9_1_2 : w9.cell? ⟨w.heap.size + 1, 2, none⟩ = some (.int .i64 z) := by rw [hb.cell (by simp <;> omega)]; first | exact c8_1_2 | (rw [World.cell?_alloc_lt _ _ _ hs8_1]; exact c8_1_2) | (simp [go_sem]; done)
  have hs9_2 : w1.heap.size < w9.heap.size := by omega
  have c9_2_0 : w9.cell? ⟨w1.heap.size, 0, none⟩ = some (.int .i64 u0) := by rw [hb.cell (by simp <;> omega)]; first | exact c8_2_0 | (rw [World.cell?_alloc_lt _ _ _ hs8_2]; exact c8_2_0) | (simp [go_sem]; done)
  have c9_2_1 : w9.cell? ⟨w1.heap.size, 1, none⟩ = some (.int .i64 u1) := by rw [hb.cell (by simp <;> omega)]; first | exact c8_2_1 | (rw [World.cell?_alloc_lt _ _ _ hs8_2]; exact c8_2_1) | (simp [go_sem]; done)
  have c9_2_2 : w9.cell? ⟨w1.heap.size, 2, none⟩ = some (.int .i64 u2) := by rw [hb.cell (by simp <;> omega)]; first | exact c8_2_2 | (rw [World.cell?_alloc_lt _ _ _ hs8_2]; exact c8_2_2) | (simp [go_sem]; done)
  have hs9_3 : w2.heap.size < w9.heap.size := by omega
  have c9_3_0 : w9.cell? ⟨w2.heap.size, 0, none⟩ = some (.int .i64 t0) := by rw [hb.cell (by simp <;> omega)]; first | exact c8_3_0 | (rw [World.cell?_alloc_lt _ _ _ hs8_3]; exact c8_3_0) | (simp [go_sem]; done)
  have c9_3_1 : w9.cell? ⟨w2.heap.size, 1, none⟩ = some (.int .i64 t1) := by rw [hb.cell (by simp <;> omega)]; first | exact c8_3_1 | (rw [World.cell?_alloc_lt _ _ _ hs8_3]; exact c8_3_1) | (simp [go_sem]; done)
  have c9_3_2 : w9.cell? ⟨w2.heap.size, 2, none⟩ = some (.int .i64 t2) := by rw [hb.cell (by simp <;> omega)]; first | exact c8_3_2 | (rw [World.cell?_alloc_lt _ _ _ hs8_3]; exact c8_3_2) | (simp [go_sem]; done)
  have hs9_4 : w3.heap.size < w9.heap.size := by omega
  have c9_4_0 : w9.cell? ⟨w3.heap.size, 0, none⟩ = some (.int .i64 0) := by rw [hb.cell (by simp <;> omega)]; first | exact c8_4_0 | (rw [World.cell?_alloc_lt _ _ _ hs8_4]; exact c8_4_0) | (simp [go_sem]; done)
  have c9_4_1 : w9.cell? ⟨w3.heap.size, 1, none⟩ = some (.int .i64 0) := by rw [hb.cell (by simp <;> omega)]; first | exact c8_4_1 | (rw [World.cell?_alloc_lt _ _ _ hs8_4]; exact c8_4_1) | (simp [go_sem]; done)
  have c9_4_2 : w9.cell? ⟨w3.heap.size, 2, none⟩ = some (.int .i64 0) := by rw [hb.cell (by simp <;> omega)]; first | exact c8_4_2 | (rw [World.cell?_alloc_lt _ _ _ hs8_4]; exact c8_4_2) | (simp [go_sem]; done)
  have hs9_5 : w6.heap.size < w9.heap.size := by omega
  have c9_5_0 : w9.cell? ⟨w6.heap.size, 0, none⟩ = some (.int .i64 u0) := by rw [hb.cell (by simp <;> omega)]; first | exact c8_5_0 | (rw [World.cell?_alloc_lt _ _ _ hs8_5]; exact c8_5_0) | (simp [go_sem]; done)
  have c9_5_1 : w9.cell? ⟨w6.heap.size, 1, none⟩ = some (.int .i64 u1) := by rw [hb.cell (by simp <;> omega)]; first | exact c8_5_1 | (rw [World.cell?_alloc_lt _ _ _ hs8_5]; exact c8_5_1) | (simp [go_sem]; done)
  have c9_5_2 : w9.cell? ⟨w6.heap.size, 2, none⟩ = some (.int .i64 u2) := by rw [hb.cell (by simp <;> omega)]; first | exact c8_5_2 | (rw [World.cell?_alloc_lt _ _ _ hs8_5]; exact c8_5_2) | (simp [go_sem]; done)
  have hs9_6 : w7.heap.size < w9.heap.size := by omega
  have c9_6_0 : w9.cell? ⟨w7.heap.size, 0, none⟩ = some (.int .i64 v0) := by rw [hb.cell (by simp <;> omega)]; first | exact c8_6_0 | (rw [World.cell?_alloc_lt _ _ _ hs8_6]; exact c8_6_0) | (simp [go_sem]; done)
  have c9_6_1 : w9.cell? ⟨w7.heap.size, 1, none⟩ = some (.int .i64 v1) := by rw [hb.cell (by simp <;> omega)]; first | exact c8_6_1 | (rw [World.cell?_alloc_lt _ _ _ hs8_6]; exact c8_6_1) | (simp [go_sem]; done)
  have c9_6_2 : w9.cell? ⟨w7.heap.size, 2, none⟩ = some (.int .i64 v2) := by rw [hb.cell (by simp <;> omega)]; first | exact c8_6_2 | (rw [World.cell?_alloc_lt _ _ _ hs8_6]; exact c8_6_2) | (simp [go_sem]; done)
  have HB9 := Lib.hid (Below.trans (HB8.out) (hb.mono (Below.size HB8.out)))
  clear hb hsz c8_0_0 c8_0_1 c8_0_2 c8_1_0 c8_1_1 c8_1_2 c8_2_0 c8_2_1 c8_2_2 c8_3_0 c8_3_1 c8_3_2 c8_4_0 c8_4_1 c8_4_2 c8_5_0 c8_5_1 c8_5_2 c8_6_0 c8_6_1 c8_6_2 hs8_0 hs8_1 hs8_2 hs8_3 hs8_4 hs8_5 hs8_6
  go_wp2_with fail
  refine (dotF22q _ _ _ _ _ _ _ _ Hhp.out Hhd1.out _).mono ?_
  rintro e w10 ⟨rfl, hb⟩
  have hsz : w9.heap.size + 1 ≤ w10.heap.size := by have := hb.size; simp at this; omega
  have hs10_0 : w.heap.size < w10.heap.size := by omega
  have c10_0_0 : w10.cell? ⟨w.heap.size, 0, none⟩ = some (.int .i64 a) := by rw [hb.cell (by simp <;> omega)]; first | exact c9_0_0 | (rw [World.cell?_alloc_lt _ _ _ hs9_0]; exact c9_0_0) | (simp [go_sem]; done)
  have c10_0_1 : w10.cell? ⟨w.heap.size, 1, none⟩ = some (.int .i64 b) := by rw [hb.cell (by simp <;> omega)]; first | exact c9_0_1 | (rw [World.cell?_alloc_lt _ _ _ hs9_0]; exact c9_0_1) | (simp [go_sem]; done)
  have c10_0_2 : w10.cell? ⟨w.heap.size, 2, none⟩ = some (.int .i64 c) := by rw [hb.cell (by simp <;> omega)]; first | exact c9_0_2 | (rw [World.cell?_alloc_lt _ _ _ hs9_0]; exact c9_0_2) | (simp [go_sem]; done)
  have hs10_1 : w.heap.size + 1 < w10.heap.size := by omega
  have c10_1_0 : w10.cell? ⟨w.heap.size + 1, 0, none⟩ = some (.int .i64 x) := by rw [hb.cell (by simp <;> omega)]; first | exact c9_1_0 | (rw [World.cell?_alloc_lt _ _ _ hs9_1]; exact c9_1_0) | (simp [go_sem]; done)
  have c10_1_1 : w10.cell? ⟨w.heap.size + 1, 1, none⟩ = some (.int .i64 y) := by rw [hb.cell (by simp <;> omega)]; first | exact c9_1_1 | (rw [World.cell?_alloc_lt _ _ _ hs9_1]; exact c9_1_1) | (simp [go_sem]; done)
  have c10_1_2 : w10.cell? ⟨w.heap.size + 1, 2, none⟩ = some (.int .i64 z) := by rw [hb.cell (by simp <;> omega)]; first | exact c9_1_2 | (rw [World.cell?_alloc_lt _ _ _ hs9_1]; exact c9_1_2) | (simp [go_sem]; done)
  have hs10_2 : w1.heap.size < w10.heap.size := by omega
  have c10_2_0 : w10.cell? ⟨w1.heap.size, 0, none⟩ = some (.int .i64 u0) := by rw [hb.cell (by simp <;> omega)]; first | exact c9_2_0 | (rw [World.cell?_alloc_lt _ _ _ hs9_2]; exact c9_2_0) | (simp [go_sem]; done)
  have c10_2_1 : w10.cell? ⟨w1.heap.size, 1, none⟩ = some (.int .i64 u1) := by rw [hb.cell (by simp <;> omega)]; first | exact c9_2_1 | (rw [World.cell?_alloc_lt _ _ _ hs9_2]; exact c9_2_1) | (simp [go_sem]; done)
  have c10_2_2 : w10.cell? ⟨w1.heap.size, 2, none⟩ = some (.int .i64 u2) := by rw [hb.cell (by simp <;> omega)]; first | exact c9_2_2 | (rw [World.cell?_alloc_lt _ _ _ hs9_2]; exact c9_2_2) | (simp [go_sem]; done)
  have hs10_3 : w2.heap.size < w10.heap.size := by omega
  have c10_3_0 : w10.cell? ⟨w2.heap.size, 0, none⟩ = some (.int .i64 t0) := by rw [hb.cell (by simp <;> omega)]; first | exact c9_3_0 | (rw [World.cell?_alloc_lt _ _ _ hs9_3]; exact c9_3_0) | (simp [go_sem]; done)
  have c10_3_1 : w10.cell? ⟨w2.heap.size, 1, none⟩ = some (.int .i64 t1) := by rw [hb.cell (by simp <;> omega)]; first | exact c9_3_1 | (rw [World.cell?_alloc_lt _ _ _ hs9_3]; exact c9_3_1) | (simp [go_sem]; done)
  have c10_3_2 : w10.cell? ⟨w2.heap.size, 2, none⟩ = some (.int .i64 t2) := by rw [hb.cell (by simp <;> omega)]; first | exact c9_3_2 | (rw [World.cell?_alloc_lt _ _ _ hs9_3]; exact c9_3_2) | (simp [go_sem]; done)
  have hs10_4 : w3.heap.size < w10.heap.size := by omega
  have c10_4_0 : w10.cell? ⟨w3.heap.size, 0, none⟩ = some (.int .i64 0) := by rw [hb.cell (by simp <;> omega)]; first | exact c9_4_0 | (rw [World.cell?_alloc_lt _ _ _ hs9_4]; exact c9_4_0) | (simp [go_sem]; done)
  have c10_4_1 : w10.cell? ⟨w3.heap.size, 1, none⟩ = some (.int .i64 0) := by rw [hb.cell (by simp <;> omega)]; first | exact c9_4_1 | (rw [World.cell?_alloc_lt _ _ _ hs9_4]; exact c9_4_1) | (simp [go_sem]; done)
  have c10_4_2 : w10.cell? ⟨w3.heap.size, 2, none⟩ = some (.int .i64 0) := by rw [hb.cell (by simp <;> omega)]; first | exact c9_4_2 | (rw [World.cell?_alloc_lt _ _ _ hs9_4]; exact c9_4_2) | (simp [go_sem]; done)
  have hs10_5 : w6.heap.size < w10.heap.size := by omega
  have c10_5_0 : w10.cell? ⟨w6.heap.size, 0, none⟩ = some (.int .i64 u0) := by rw [hb.cell (by simp <;> omega)]; first | exact c9_5_0 | (rw [World.cell?_alloc_lt _ _ _ hs9_5]; exact c9_5_0) | (simp [go_sem]; done)
  have c10_5_1 : w10.cell? ⟨w6.heap.size, 1, none⟩ = some (.int .i64 u1) := by rw [hb.cell (by simp <;> omega)]; first | exact c9_5_1 | (rw [World.cell?_alloc_lt _ _ _ hs9_5]; exact c9_5_1) | (simp [go_sem]; done)
  have c10_5_2 : w10.cell? ⟨w6.heap.size, 2, none⟩ = some (.int .i64 u2) := by rw [hb.cell (by simp <;> omega)]; first | exact c9_5_2 | (rw [World.cell?_alloc_lt _ _ _ hs9_5]; exact c9_5_2) | (simp [go_sem]; done)
  have hs10_6 : w7.heap.size < w10.heap.size := by omega
  have c10_6_0 : w10.cell? ⟨w7.heap.size, 0, none⟩ = some (.int .i64 v0) := by rw [hb.cell (by simp <;> omega)]; first | exact c9_6_0 | (rw [World.cell?_alloc_lt _ _ _ hs9_6]; exact c9_6_0) | (simp [go_sem]; done)
  have c10_6_1 : w10.cell? ⟨w7.heap.size, 1, none⟩ = some (.int .i64 v1) := by rw [hb.cell (by simp <;> omega)]; first | exact c9_6_1 | (rw [World.cell?_alloc_lt _ _ _ hs9_6]; exact c9_6_1) | (simp [go_sem]; done)
  have c10_6_2 : w10.cell? ⟨w7.heap.size, 2, none⟩ = some (.int .i64 v2) := by rw [hb.cell (by simp <;> omega)]; first | exact c9_6_2 | (rw [World.cell?_alloc_lt _ _ _ hs9_6]; exact c9_6_2) | (simp [go_sem]; done)
  have hs10_7 : w9.heap.size < w10.heap.size := by omega
  have c10_7_0 : w10.cell? ⟨w9.heap.size, 0, none⟩ = some (.int .i64 t0) := by rw [hb.cell (by simp <;> omega)]; first | (simp [go_sem]; done)
  have c10_7_1 : w10.cell? ⟨w9.heap.size, 1, none⟩ = some (.int .i64 t1) := by rw [hb.cell (by simp <;> omega)]; first | (simp [go_sem]; done)
  have c10_7_2 : w10.cell? ⟨w9.heap.size, 2, none⟩ = some (.int .i64 t2) := by rw [hb.cell (by simp <;> omega)]; first | (simp [go_sem]; done)
  have HB10 := Lib.hid (Below.trans ((ba_c (HB9.out) (Nat.le_refl _) _)) (hb.mono (Below.size (ba_c (HB9.out) (Nat.le_refl _) _))))
  clear hb hsz c9_0_0 c9_0_1 c9_0_2 c9_1_0 c9_1_1 c9_1_2 c9_2_0 c9_2_1 c9_2_2 c9_3_0 c9_3_1 c9_3_2 c9_4_0 c9_4_1 c9_4_2 c9_5_0 c9_5_1 c9_5_2 c9_6_0 c9_6_1 c9_6_2 hs9_0 hs9_1 hs9_2 hs9_3 hs9_4 hs9_5 hs9_6
  go_wp2_with fail
  refine (dotF22q _ _ _ _ _ _ _ _ Hhp.out Hhd2.out _).mono ?_
  rintro e w11 ⟨rfl, hb⟩
  have hsz : w10.heap.size ≤ w11.heap.size := hb.size
  have hs11_0 : w.heap.size < w11.heap.size := by omega
  have c11_0_0 : w11.cell? ⟨w.heap.size, 0, none⟩ = some (.int .i64 a) := by rw [hb.cell (by simp <;> omega)]; first | exact c10_0_0 | (rw [World.cell?_alloc_lt _ _ _ hs10_0]; exact c10_0_0) | (simp [go_sem]; done)
  have c11_0_1 : w11.cell? ⟨w.heap.size, 1, none⟩ = some (.int .i64 b) := by rw [hb.cell (by simp <;> omega)]; first | exact c10_0_1 | (rw [World.cell?_alloc_lt _ _ _ hs10_0]; exact c10_0_1) | (simp [go_sem]; done)
  have c11_0_2 : w11.cell? ⟨w.heap.size, 2, none⟩ = some (.int .i64 c) := by rw [hb.cell (by simp <;> omega)]; first | exact c10_0_2 | (rw [World.cell?_alloc_lt _ _ _ hs10_0]; exact c10_0_2) | (simp [go_sem]; done)
  have hs11_1 : w.heap.size + 1 < w11.heap.size := by omega
  have c11_1_0 : w11.cell? ⟨w.heap.size + 1, 0, none⟩ = some (.int .i64 x) := by rw [hb.cell (by simp <;> omega)]; first | exact c10_1_0 | (rw [World.cell?_alloc_lt _ _ _ hs10_1]; exact c10_1_0) | (simp [go_sem]; done)
  have c11_1_1 : w11.cell? ⟨w.heap.size + 1, 1, none⟩ = some (.int .i64 y) := by rw [hb.cell (by simp <;> omega)]; first | exact c10_1_1 | (rw [World.cell?_alloc_lt _ _ _ hs10_1]; exact c10_1_1) | (simp [go_sem]; done)
  have c11_1_2 : w11.cell? ⟨w.heap.size + 1, 2, none⟩ = some (.int .i64 z) := by rw [hb.cell (by simp <;> omega)]; first | exact c10_1_2 | (rw [World.cell?_alloc_lt _ _ _ hs10_1]; exact c10_1_2) | (simp [go_sem]; done)
  have hs11_2 : w1.heap.size < w11.heap.size := by omega
  have c11_2_0 : w11.cell? ⟨w1.heap.size, 0, none⟩ = some (.int .i64 u0) := by rw [hb.cell (by simp <;> omega)]; first | exact c10_2_0 | (rw [World.cell?_alloc_lt _ _ _ hs10_2]; exact c10_2_0) | (simp [go_sem]; done)
  have c11_2_1 : w11.cell? ⟨w1.heap.size, 1, none⟩ = some (.int .i64 u1) := by rw [hb.cell (by simp <;> omega)]; first | exact c10_2_1 | (rw [World.cell?_alloc_lt _ _ _ hs10_2]; exact c10_2_1) | (simp [go_sem]; done)
  have c11_2_2 : w11.cell? ⟨w1.heap.size, 2, none⟩ = some (.int .i64 u2) := by rw [hb.cell (by simp <;> omega)]; first | exact c10_2_2 | (rw [World.cell?_alloc_lt _ _ _ hs10_2]; exact c10_2_2) | (simp [go_sem]; done)
  have hs11_3 : w2.heap.size < w11.heap.size := by omega
  have c11_3_0 : w11.cell? ⟨w2.heap.size, 0, none⟩ = some (.int .i64 t0) := by rw [hb.cell (by simp <;> omega)]; first | exact c10_3_0 | (rw [World.cell?_alloc_lt _ _ _ hs10_3]; exact c10_3_0) | (simp [go_sem]; done)
  have c11_3_1 : w11.cell? ⟨w2.heap.size, 1, none⟩ = some (.int .i64 t1) := by rw [hb.cell (by simp <;> omega)]; first | exact c10_3_1 | (rw [World.cell?_alloc_lt _ _ _ hs10_3]; exact c10_3_1) | (simp [go_sem]; done)
  have c11_3_2 : w11.cell? ⟨w2.heap.size, 2, none⟩ = some (.int .i64 t2) := by rw [hb.cell (by simp <;> omega)]; first | exact c10_3_2 | (rw [World.cell?_alloc_lt _ _ _ hs10_3]; exact c10_3_2) | (simp [go_sem]; done)
  have hs11_4 : w3.heap.size < w11.heap.size := by omega
  have c11_4_0 : w11.cell? ⟨w3.heap.size, 0, none⟩ = some (.int .i64 0) := by rw [hb.cell (by simp <;> omega)]; first | exact c10_4_0 | (rw [World.cell?_alloc_lt _ _ _ hs10_4]; exact c10_4_0) | (simp [go_sem]; done)
  have c11_4_1 : w11.cell? ⟨w3.heap.size, 1, none⟩ = some (.int .i64 0) := by rw [hb.cell (by simp <;> omega)]; first | exact c10_4_1 | (rw [World.cell?_alloc_lt _ _ _ hs10_4]; exact c10_4_1) | (simp [go_sem]; done)
  have c11_4_2 : w11.cell? ⟨w3.heap.size, 2, none⟩ = some (.int .i64 0) := by rw [hb.cell (by simp <;> omega)]; first | exact c10_4_2 | (rw [World.cell?_alloc_lt _ _ _ hs10_4]; exact c10_4_2) | (simp [go_sem]; done)
  have hs11_5 : w6.heap.size < w11.heap.size := by omega
  have c11_5_0 : w11.cell? ⟨w6.heap.size, 0, none⟩ = some (.int .i64 u0) := by rw [hb.cell (by simp <;> omega)]; first | exact c10_5_0 | (rw [World.cell?_alloc_lt _ _ _ hs10_5]; exact c10_5_0) | (simp [go_sem]; done)
  have c11_5_1 : w11.cell? ⟨w6.heap.size, 1, none⟩ = some (.int .i64 u1) := by rw [hb.cell (by simp <;> omega)]; first | exact c10_5_1 | (rw [World.cell?_alloc_lt _ _ _ hs10_5]; exact c10_5_1) | (simp [go_sem]; done)
  have c11_5_2 : w11.cell? ⟨w6.heap.size, 2, none⟩ = some (.int .i64 u2) := by rw [hb.cell (by simp <;> omega)]; first | exact c10_5_2 | (rw [World.cell?_alloc_lt _ _ _ hs10_5]; exact c10_5_2) | (simp [go_sem]; done)
  have hs11_6 : w7.heap.size < w11.heap.size := by omega
  have c11_6_0 : w11.cell? ⟨w7.heap.size, 0, none⟩ = some (.int .i64 v0) := by rw [hb.cell (by simp <;> omega)]; first | exact c10_6_0 | (rw [World.cell?_alloc_lt _ _ _ hs10_6]; exact c10_6_0) | (simp [go_sem]; done)
  have c11_6_1 : w11.cell? ⟨w7.heap.size, 1, none⟩ = some (.int .i64 v1) := by rw [hb.cell (by simp <;> omega)]; first | exact c10_6_1 | (rw [World.cell?_alloc_lt _ _ _ hs10_6]; exact c10_6_1) | (simp [go_sem]; done)
  have c11_6_2 : w11.cell? ⟨w7.heap.size, 2, none⟩ = some (.int .i64 v2) := by rw [hb.cell (by simp <;> omega)]; first | exact c10_6_2 | (rw [World.cell?_alloc_lt _ _ _ hs10_6]; exact c10_6_2) | (simp [go_sem]; done)
  have hs11_7 : w9.heap.size < w11.heap.size := by omega
  have c11_7_0 : w11.cell? ⟨w9.heap.size, 0, none⟩ = some (.int .i64 t0) := by rw [hb.cell (by simp <;> omega)]; first | exact c10_7_0 | (rw [World.cell?_alloc_lt _ _ _ hs10_7]; exact c10_7_0) | (simp [go_sem]; done)
  have c11_7_1 : w11.cell? ⟨w9.heap.size, 1, none⟩ = some (.int .i64 t1) := by rw [hb.cell (by simp <;> omega)]; first | exact c10_7_1 | (rw [World.cell?_alloc_lt _ _ _ hs10_7]; exact c10_7_1) | (simp [go_sem]; done)
  have c11_7_2 : w11.cell? ⟨w9.heap.size, 2, none⟩ = some (.int .i64 t2) := by rw [hb.cell (by simp <;> omega)]; first | exact c10_7_2 | (rw [World.cell?_alloc_lt _ _ _ hs10_7]; exact c10_7_2) | (simp [go_sem]; done)
  have HB11 := Lib.hid (Below.trans (HB10.out) (hb.mono (Below.size HB10.out)))
  clear hb hsz c10_0_0 c10_0_1 c10_0_2 c10_1_0 c10_1_1 c10_1_2 c10_2_0 c10_2_1 c10_2_2 c10_3_0 c10_3_1 c10_3_2 c10_4_0 c10_4_1 c10_4_2 c10_5_0 c10_5_1 c10_5_2 c10_6_0 c10_6_1 c10_6_2 c10_7_0 c10_7_1 c10_7_2 hs10_0 hs10_1 hs10_2 hs10_3 hs10_4 hs10_5 hs10_6 hs10_7
  go_wp2
  go_ret
  exact ⟨rfl, HB11.out⟩

end Go.Proofs.Ytfdbkocpljiehaa
