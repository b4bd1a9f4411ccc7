/- Walks: the law FiniteOval. -/
import Derived.Test.YtfdbkocpljiehaaZi
import Derived.Test.YtfdbkocpljiehaaZb
import Derived.Test.YtfdbkocpljiehaaXb
import Derived.Test.YtfdbkocpljiehaaMi
set_option linter.unusedSimpArgs false
set_option linter.unusedVariables false
namespace Go.Proofs.Ytfdbkocpljiehaa
open Go.RowKit

set_option maxRecDepth 100000 in
set_option maxHeartbeats 4000000 in
theorem FiniteOval11_bad (p a0 a1 a2 a3 a4 a5 a6 a7 a8 : Int) (hp : isP p = false) (w : World) :
    Calls Try.prog 11 #[.int .i64 p, .agg #[.int .i64 a0, .int .i64 a1, .int .i64 a2, .int .i64 a3, .int .i64 a4, .int .i64 a5, .int .i64 a6, .int .i64 a7, .int .i64 a8]] w fun e w' => e = .returned (.bool true) ∧ Below w.heap.size w w' := by
  have HP := Lib.hid hp
  clear hp
  go_enter Try.func11, Try.ntmps11
  go_wp2_with fail
  refine (Order28_bad _ _ _ _ _ _ _ _ _ _ HP.out _).mono ?_
  rintro e w1 ⟨rfl, hb⟩
  have hsz : w.heap.size + 1 ≤ w1.heap.size := by have := hb.size; simp at this; omega
  have hs1_0 : w.heap.size < w1.heap.size := by omega
  have c1_0_0 : w1.cell? ⟨w.heap.size, 0, none⟩ = some (.int .i64 a0) := by rw [hb.cell (by simp <;> omega)]; first | (simp [go_sem]; done)
  have c1_0_1 : w1.cell? ⟨w.heap.size, 1, none⟩ = some (.int .i64 a1) := by rw [hb.cell (by simp <;> omega)]; first | (simp [go_sem]; done)
  have c1_0_2 : w1.cell? ⟨w.heap.size, 2, none⟩ = some (.int .i64 a2) := by rw [hb.cell (by simp <;> omega)]; first | (simp [go_sem]; done)
  have c1_0_3 : w1.cell? ⟨w.heap.size, 3, none⟩ = some (.int .i64 a3) := by rw [hb.cell (by simp <;> omega)]; first | (simp [go_sem]; done)
  have c1_0_4 : w1.cell? ⟨w.heap.size, 4, none⟩ = some (.int .i64 a4) := by rw [hb.cell (by simp <;> omega)]; first | (simp [go_sem]; done)
  have c1_0_5 : w1.cell? ⟨w.heap.size, 5, none⟩ = some (.int .i64 a5) := by rw [hb.cell (by simp <;> omega)]; first | (simp [go_sem]; done)
  have c1_0_6 : w1.cell? ⟨w.heap.size, 6, none⟩ = some (.int .i64 a6) := by rw [hb.cell (by simp <;> omega)]; first | (simp [go_sem]; done)
  have c1_0_7 : w1.cell? ⟨w.heap.size, 7, none⟩ = some (.int .i64 a7) := by rw [hb.cell (by simp <;> omega)]; first | (simp [go_sem]; done)
  have c1_0_8 : w1.cell? ⟨w.heap.size, 8, none⟩ = some (.int .i64 a8) := by rw [hb.cell (by simp <;> omega)]; first | (simp [go_sem]; done)
  have HB1 := Lib.hid (Below.trans ((ba_c (Below.refl w.heap.size w) (Nat.le_refl _) _)) (hb.mono (Below.size ((ba_c (Below.refl w.heap.size w) (Nat.le_refl _) _)))))
  clear hb hsz
  go_wp2_with fail
  refine (counted14 _).mono ?_
  rintro e w2 ⟨rfl, hb⟩
  have hsz : w1.heap.size ≤ w2.heap.size := hb.size
  have hs2_0 : w.heap.size < w2.heap.size := by omega
  have c2_0_0 : w2.cell? ⟨w.heap.size, 0, none⟩ = some (.int .i64 a0) := by rw [hb.cell (by simp <;> omega)]; first | exact c1_0_0 | (rw [World.cell?_alloc_lt _ _ _ hs1_0]; exact c1_0_0) | (simp [go_sem]; done)
  have c2_0_1 : w2.cell? ⟨w.heap.size, 1, none⟩ = some (.int .i64 a1) := by rw [hb.cell (by simp <;> omega)]; first | exact c1_0_1 | (rw [World.cell?_alloc_lt _ _ _ hs1_0]; exact c1_0_1) | (simp [go_sem]; done)
  have c2_0_2 : w2.cell? ⟨w.heap.size, 2, none⟩ = some (.int .i64 a2) := by rw [hb.cell (by simp <;> omega)]; first | exact c1_0_2 | (rw [World.cell?_alloc_lt _ _ _ hs1_0]; exact c1_0_2) | (simp [go_sem]; done)
  have c2_0_3 : w2.cell? ⟨w.heap.size, 3, none⟩ = some (.int .i64 a3) := by rw [hb.cell (by simp <;> omega)]; first | exact c1_0_3 | (rw [World.cell?_alloc_lt _ _ _ hs1_0]; exact c1_0_3) | (simp [go_sem]; done)
  have c2_0_4 : w2.cell? ⟨w.heap.size, 4, none⟩ = some (.int .i64 a4) := by rw [hb.cell (by simp <;> omega)]; first | exact c1_0_4 | (rw [World.cell?_alloc_lt _ _ _ hs1_0]; exact c1_0_4) | (simp [go_sem]; done)
  have c2_0_5 : w2.cell? ⟨w.heap.size, 5, none⟩ = some (.int .i64 a5) := by rw [hb.cell (by simp <;> omega)]; first | exact c1_0_5 | (rw [World.cell?_alloc_lt _ _ _ hs1_0]; exact c1_0_5) | (simp [go_sem]; done)
  have c2_0_6 : w2.cell? ⟨w.heap.size, 6, none⟩ = some (.int .i64 a6) := by rw [hb.cell (by simp <;> omega)]; first | exact c1_0_6 | (rw [World.cell?_alloc_lt _ _ _ hs1_0]; exact c1_0_6) | (simp [go_sem]; done)
  have c2_0_7 : w2.cell? ⟨w.heap.size, 7, none⟩ = some (.int .i64 a7) := by rw [hb.cell (by simp <;> omega)]; first | exact c1_0_7 | (rw [World.cell?_alloc_lt _ _ _ hs1_0]; exact c1_0_7) | (simp [go_sem]; done)
  have c2_0_8 : w2.cell? ⟨w.heap.size, 8, none⟩ = some (.int .i64 a8) := by rw [hb.cell (by simp <;> omega)]; first | exact c1_0_8 | (rw [World.cell?_alloc_lt _ _ _ hs1_0]; exact c1_0_8) | (simp [go_sem]; done)
  have HB2 := Lib.hid (Below.trans (HB1.out) (hb.mono (Below.size (HB1.out))))
  clear hb hsz c1_0_0 c1_0_1 c1_0_2 c1_0_3 c1_0_4 c1_0_5 c1_0_6 c1_0_7 c1_0_8 hs1_0
  go_wp2_with fail
  refine (counted14 _).mono ?_
  rintro e w3 ⟨rfl, hb⟩
  have hsz : w2.heap.size ≤ w3.heap.size := hb.size
  have hs3_0 : w.heap.size < w3.heap.size := by omega
  have c3_0_0 : w3.cell? ⟨w.heap.size, 0, none⟩ = some (.int .i64 a0) := by rw [hb.cell (by simp <;> omega)]; first | exact c2_0_0 | (rw [World.cell?_alloc_lt _ _ _ hs2_0]; exact c2_0_0) | (simp [go_sem]; done)
  have c3_0_1 : w3.cell? ⟨w.heap.size, 1, none⟩ = some (.int .i64 a1) := by rw [hb.cell (by simp <;> omega)]; first | exact c2_0_1 | (rw [World.cell?_alloc_lt _ _ _ hs2_0]; exact c2_0_1) | (simp [go_sem]; done)
  have c3_0_2 : w3.cell? ⟨w.heap.size, 2, none⟩ = some (.int .i64 a2) := by rw [hb.cell (by simp <;> omega)]; first | exact c2_0_2 | (rw [World.cell?_alloc_lt _ _ _ hs2_0]; exact c2_0_2) | (simp [go_sem]; done)
  have c3_0_3 : w3.cell? ⟨w.heap.size, 3, none⟩ = some (.int .i64 a3) := by rw [hb.cell (by simp <;> omega)]; first | exact c2_0_3 | (rw [World.cell?_alloc_lt _ _ _ hs2_0]; exact c2_0_3) | (simp [go_sem]; done)
  have c3_0_4 : w3.cell? ⟨w.heap.size, 4, none⟩ = some (.int .i64 a4) := by rw [hb.cell (by simp <;> omega)]; first | exact c2_0_4 | (rw [World.cell?_alloc_lt _ _ _ hs2_0]; exact c2_0_4) | (simp [go_sem]; done)
  have c3_0_5 : w3.cell? ⟨w.heap.size, 5, none⟩ = some (.int .i64 a5) := by rw [hb.cell (by simp <;> omega)]; first | exact c2_0_5 | (rw [World.cell?_alloc_lt _ _ _ hs2_0]; exact c2_0_5) | (simp [go_sem]; done)
  have c3_0_6 : w3.cell? ⟨w.heap.size, 6, none⟩ = some (.int .i64 a6) := by rw [hb.cell (by simp <;> omega)]; first | exact c2_0_6 | (rw [World.cell?_alloc_lt _ _ _ hs2_0]; exact c2_0_6) | (simp [go_sem]; done)
  have c3_0_7 : w3.cell? ⟨w.heap.size, 7, none⟩ = some (.int .i64 a7) := by rw [hb.cell (by simp <;> omega)]; first | exact c2_0_7 | (rw [World.cell?_alloc_lt _ _ _ hs2_0]; exact c2_0_7) | (simp [go_sem]; done)
  have c3_0_8 : w3.cell? ⟨w.heap.size, 8, none⟩ = some (.int .i64 a8) := by rw [hb.cell (by simp <;> omega)]; first | exact c2_0_8 | (rw [World.cell?_alloc_lt _ _ _ hs2_0]; exact c2_0_8) | (simp [go_sem]; done)
  have HB3 := Lib.hid (Below.trans (HB2.out) (hb.mono (Below.size (HB2.out))))
  clear hb hsz c2_0_0 c2_0_1 c2_0_2 c2_0_3 c2_0_4 c2_0_5 c2_0_6 c2_0_7 c2_0_8 hs2_0
  go_wp2_with fail
  go_ret
  exact ⟨rfl, HB3.out⟩

set_option maxRecDepth 100000 in
set_option maxHeartbeats 4000000 in
theorem FiniteOval11_no (p a0 a1 a2 a3 a4 a5 a6 a7 a8 : Int) (hp : isP p = true) (hd : gdB p a0 a1 a2 a3 a4 a5 a6 a7 a8 = false) (w : World) :
    Calls Try.prog 11 #[.int .i64 p, .agg #[.int .i64 a0, .int .i64 a1, .int .i64 a2, .int .i64 a3, .int .i64 a4, .int .i64 a5, .int .i64 a6, .int .i64 a7, .int .i64 a8]] w fun e w' => e = .returned (.bool true) ∧ Below w.heap.size w w' := by
  have HP := Lib.hid hp
  have HD := Lib.hid hd
  clear hd
  clear hp
  go_enter Try.func11, Try.ntmps11
  go_wp2_with fail
  refine (Order28_no _ _ _ _ _ _ _ _ _ _ HP.out HD.out _).mono ?_
  rintro e w1 ⟨rfl, hb⟩
  have hsz : w.heap.size + 1 ≤ w1.heap.size := by have := hb.size; simp at this; omega
  have hs1_0 : w.heap.size < w1.heap.size := by omega
  have c1_0_0 : w1.cell? ⟨w.heap.size, 0, none⟩ = some (.int .i64 a0) := by rw [hb.cell (by simp <;> omega)]; first | (simp [go_sem]; done)
  have c1_0_1 : w1.cell? ⟨w.heap.size, 1, none⟩ = some (.int .i64 a1) := by rw [hb.cell (by simp <;> omega)]; first | (simp [go_sem]; done)
  have c1_0_2 : w1.cell? ⟨w.heap.size, 2, none⟩ = some (.int .i64 a2) := by rw [hb.cell (by simp <;> omega)]; first | (simp [go_sem]; done)
  have c1_0_3 : w1.cell? ⟨w.heap.size, 3, none⟩ = some (.int .i64 a3) := by rw [hb.cell (by simp <;> omega)]; first | (simp [go_sem]; done)
  have c1_0_4 : w1.cell? ⟨w.heap.size, 4, none⟩ = some (.int .i64 a4) := by rw [hb.cell (by simp <;> omega)]; first | (simp [go_sem]; done)
  have c1_0_5 : w1.cell? ⟨w.heap.size, 5, none⟩ = some (.int .i64 a5) := by rw [hb.cell (by simp <;> omega)]; first | (simp [go_sem]; done)
  have c1_0_6 : w1.cell? ⟨w.heap.size, 6, none⟩ = some (.int .i64 a6) := by rw [hb.cell (by simp <;> omega)]; first | (simp [go_sem]; done)
  have c1_0_7 : w1.cell? ⟨w.heap.size, 7, none⟩ = some (.int .i64 a7) := by rw [hb.cell (by simp <;> omega)]; first | (simp [go_sem]; done)
  have c1_0_8 : w1.cell? ⟨w.heap.size, 8, none⟩ = some (.int .i64 a8) := by rw [hb.cell (by simp <;> omega)]; first | (simp [go_sem]; done)
  have HB1 := Lib.hid (Below.trans ((ba_c (Below.refl w.heap.size w) (Nat.le_refl _) _)) (hb.mono (Below.size ((ba_c (Below.refl w.heap.size w) (Nat.le_refl _) _)))))
  clear hb hsz
  go_wp2_with fail
  refine (counted14 _).mono ?_
  rintro e w2 ⟨rfl, hb⟩
  have hsz : w1.heap.size ≤ w2.heap.size := hb.size
  have hs2_0 : w.heap.size < w2.heap.size := by omega
  have c2_0_0 : w2.cell? ⟨w.heap.size, 0, none⟩ = some (.int .i64 a0) := by rw [hb.cell (by simp <;> omega)]; first | exact c1_0_0 | (rw [World.cell?_alloc_lt _ _ _ hs1_0]; exact c1_0_0) | (simp [go_sem]; done)
  have c2_0_1 : w2.cell? ⟨w.heap.size, 1, none⟩ = some (.int .i64 a1) := by rw [hb.cell (by simp <;> omega)]; first | exact c1_0_1 | (rw [World.cell?_alloc_lt _ _ _ hs1_0]; exact c1_0_1) | (simp [go_sem]; done)
  have c2_0_2 : w2.cell? ⟨w.heap.size, 2, none⟩ = some (.int .i64 a2) := by rw [hb.cell (by simp <;> omega)]; first | exact c1_0_2 | (rw [World.cell?_alloc_lt _ _ _ hs1_0]; exact c1_0_2) | (simp [go_sem]; done)
  have c2_0_3 : w2.cell? ⟨w.heap.size, 3, none⟩ = some (.int .i64 a3) := by rw [hb.cell (by simp <;> omega)]; first | exact c1_0_3 | (rw [World.cell?_alloc_lt _ _ _ hs1_0]; exact c1_0_3) | (simp [go_sem]; done)
  have c2_0_4 : w2.cell? ⟨w.heap.size, 4, none⟩ = some (.int .i64 a4) := by rw [hb.cell (by simp <;> omega)]; first | exact c1_0_4 | (rw [World.cell?_alloc_lt _ _ _ hs1_0]; exact c1_0_4) | (simp [go_sem]; done)
  have c2_0_5 : w2.cell? ⟨w.heap.size, 5, none⟩ = some (.int .i64 a5) := by rw [hb.cell (by simp <;> omega)]; first | exact c1_0_5 | (rw [World.cell?_alloc_lt _ _ _ hs1_0]; exact c1_0_5) | (simp [go_sem]; done)
  have c2_0_6 : w2.cell? ⟨w.heap.size, 6, none⟩ = some (.int .i64 a6) := by rw [hb.cell (by simp <;> omega)]; first | exact c1_0_6 | (rw [World.cell?_alloc_lt _ _ _ hs1_0]; exact c1_0_6) | (simp [go_sem]; done)
  have c2_0_7 : w2.cell? ⟨w.heap.size, 7, none⟩ = some (.int .i64 a7) := by rw [hb.cell (by simp <;> omega)]; first | exact c1_0_7 | (rw [World.cell?_alloc_lt _ _ _ hs1_0]; exact c1_0_7) | (simp [go_sem]; done)
  have c2_0_8 : w2.cell? ⟨w.heap.size, 8, none⟩ = some (.int .i64 a8) := by rw [hb.cell (by simp <;> omega)]; first | exact c1_0_8 | (rw [World.cell?_alloc_lt _ _ _ hs1_0]; exact c1_0_8) | (simp [go_sem]; done)
  have HB2 := Lib.hid (Below.trans (HB1.out) (hb.mono (Below.size (HB1.out))))
  clear hb hsz c1_0_0 c1_0_1 c1_0_2 c1_0_3 c1_0_4 c1_0_5 c1_0_6 c1_0_7 c1_0_8 hs1_0
  go_wp2_with fail
  refine (counted14 _).mono ?_
  rintro e w3 ⟨rfl, hb⟩
  have hsz : w2.heap.size ≤ w3.heap.size := hb.size
  have hs3_0 : w.heap.size < w3.heap.size := by omega
  have c3_0_0 : w3.cell? ⟨w.heap.size, 0, none⟩ = some (.int .i64 a0) := by rw [hb.cell (by simp <;> omega)]; first | exact c2_0_0 | (rw [World.cell?_alloc_lt _ _ _ hs2_0]; exact c2_0_0) | (simp [go_sem]; done)
  have c3_0_1 : w3.cell? ⟨w.heap.size, 1, none⟩ = some (.int .i64 a1) := by rw [hb.cell (by simp <;> omega)]; first | exact c2_0_1 | (rw [World.cell?_alloc_lt _ _ _ hs2_0]; exact c2_0_1) | (simp [go_sem]; done)
  have c3_0_2 : w3.cell? ⟨w.heap.size, 2, none⟩ = some (.int .i64 a2) := by rw [hb.cell (by simp <;> omega)]; first | exact c2_0_2 | (rw [World.cell?_alloc_lt _ _ _ hs2_0]; exact c2_0_2) | (simp [go_sem]; done)
  have c3_0_3 : w3.cell? ⟨w.heap.size, 3, none⟩ = some (.int .i64 a3) := by rw [hb.cell (by simp <;> omega)]; first | exact c2_0_3 | (rw [World.cell?_alloc_lt _ _ _ hs2_0]; exact c2_0_3) | (simp [go_sem]; done)
  have c3_0_4 : w3.cell? ⟨w.heap.size, 4, none⟩ = some (.int .i64 a4) := by rw [hb.cell (by simp <;> omega)]; first | exact c2_0_4 | (rw [World.cell?_alloc_lt _ _ _ hs2_0]; exact c2_0_4) | (simp [go_sem]; done)
  have c3_0_5 : w3.cell? ⟨w.heap.size, 5, none⟩ = some (.int .i64 a5) := by rw [hb.cell (by simp <;> omega)]; first | exact c2_0_5 | (rw [World.cell?_alloc_lt _ _ _ hs2_0]; exact c2_0_5) | (simp [go_sem]; done)
  have c3_0_6 : w3.cell? ⟨w.heap.size, 6, none⟩ = some (.int .i64 a6) := by rw [hb.cell (by simp <;> omega)]; first | exact c2_0_6 | (rw [World.cell?_alloc_lt _ _ _ hs2_0]; exact c2_0_6) | (simp [go_sem]; done)
  have c3_0_7 : w3.cell? ⟨w.heap.size, 7, none⟩ = some (.int .i64 a7) := by rw [hb.cell (by simp <;> omega)]; first | exact c2_0_7 | (rw [World.cell?_alloc_lt _ _ _ hs2_0]; exact c2_0_7) | (simp [go_sem]; done)
  have c3_0_8 : w3.cell? ⟨w.heap.size, 8, none⟩ = some (.int .i64 a8) := by rw [hb.cell (by simp <;> omega)]; first | exact c2_0_8 | (rw [World.cell?_alloc_lt _ _ _ hs2_0]; exact c2_0_8) | (simp [go_sem]; done)
  have HB3 := Lib.hid (Below.trans (HB2.out) (hb.mono (Below.size (HB2.out))))
  clear hb hsz c2_0_0 c2_0_1 c2_0_2 c2_0_3 c2_0_4 c2_0_5 c2_0_6 c2_0_7 c2_0_8 hs2_0
  go_wp2_with fail
  go_ret
  exact ⟨rfl, HB3.out⟩

set_option maxRecDepth 100000 in
set_option maxHeartbeats 16000000 in
theorem FiniteOval11_go (P : Nat) (a0 a1 a2 a3 a4 a5 a6 a7 a8 : Int) (N n n1 : Nat) (f g : Nat → Int × Int × Int) (hp : isP P = true) (hd : gdB P a0 a1 a2 a3 a4 a5 a6 a7 a8 = true) (hN1 : 1 ≤ N) (hN2 : N ≤ 23298085122481) (hback : bk (sT P a0 a1 a2 a3 a4 a5 a6 a7 a8) N 4 = true) (hmin : ∀ k, 1 ≤ k → k < N → bk (sT P a0 a1 a2 a3 a4 a5 a6 a7 a8) k 4 = false)
    (hn : (allK P (P * P * P)).length = n) (hna : 1 ≤ n) (hnb : n ≤ 2197)
    (hbd : ∀ i, i < n → (0 ≤ ((allK P (P * P * P)).getD i (0, 0, 0)).1 ∧ ((allK P (P * P * P)).getD i (0, 0, 0)).1 ≤ 12) ∧ (0 ≤ ((allK P (P * P * P)).getD i (0, 0, 0)).2.1 ∧ ((allK P (P * P * P)).getD i (0, 0, 0)).2.1 ≤ 12) ∧ (0 ≤ ((allK P (P * P * P)).getD i (0, 0, 0)).2.2 ∧ ((allK P (P * P * P)).getD i (0, 0, 0)).2.2 ≤ 12))
    (hK : ∀ j, j < 6 → six6 0 (-1) 0 0 1 0 j % (P : Int) = six6 0 ((P : Int) - 1) 0 0 1 0 j) (hs : some6 P (six6 0 (-1) 0 0 1 0) 6 = true)
    (hlen : (ovL P).length = n1) (hn1 : n1 = P + 1) (hf : ∀ i, (ovL P).getD i (0, 0, 0) = f i) (hg : ∀ i, sT P a0 a1 a2 a3 a4 a5 a6 a7 a8 (f i) = g i) (hnz : ∀ i, i < n1 → zz P (f i).1 (f i).2.1 (f i).2.2 = false)
    (hE : errA P f n1 = 0) (hB : arcB P (xT P f) n1 = true) (hE' : errA P g n1 = 0) (hB' : arcB P (xT P g) n1 = true) (w : World) :
    Calls Try.prog 11 #[.int .i64 P, .agg #[.int .i64 a0, .int .i64 a1, .int .i64 a2, .int .i64 a3, .int .i64 a4, .int .i64 a5, .int .i64 a6, .int .i64 a7, .int .i64 a8]] w fun e w' => e = .returned (.bool true) ∧ Below w.heap.size w w' := by
  obtain ⟨h, h'⟩ := isP_bd hp
  have HP := Lib.hid hp
  have HD := Lib.hid hd
  have HBK := Lib.hid hback
  have HMIN := Lib.hid hmin
  have HN := Lib.hid hn
  have HBD := Lib.hid hbd
  have HK := Lib.hid hK
  have HS := Lib.hid hs
  have HLEN := Lib.hid hlen
  have HF := Lib.hid hf
  have HG := Lib.hid hg
  have HNZ := Lib.hid hnz
  have HE := Lib.hid hE
  have HB := Lib.hid hB
  have HE' := Lib.hid hE'
  have HB' := Lib.hid hB'
  have hne : ((n1 : Int) != (P : Int) + 1) = false := by rw [hn1]; simp
  have hn16 : n1 ≤ 16 := by omega
  obtain ⟨i0, hi, hz0, hz1, hz2⟩ := info_parts info27
  clear hp hd hback hmin hn hbd hK hs hlen hn1 hf hg hnz hE hB hE' hB'
  go_enter Try.func11, Try.ntmps11
  go_wp2_with fail
  refine (Order28_go N _ _ _ _ _ _ _ _ _ _ HP.out HD.out hN1 hN2 HBK HMIN _).mono ?_
  rintro e w1 ⟨rfl, hb⟩
  have hsz : w.heap.size + 1 ≤ w1.heap.size := by have := hb.size; simp at this; omega
  have hs1_0 : w.heap.size < w1.heap.size := by omega
  have c1_0_0 : w1.cell? ⟨w.heap.size, 0, none⟩ = some (.int .i64 a0) := by rw [hb.cell (by simp <;> omega)]; first | (simp [go_sem]; done)
  have c1_0_1 : w1.cell? ⟨w.heap.size, 1, none⟩ = some (.int .i64 a1) := by rw [hb.cell (by simp <;> omega)]; first | (simp [go_sem]; done)
  have c1_0_2 : w1.cell? ⟨w.heap.size, 2, none⟩ = some (.int .i64 a2) := by rw [hb.cell (by simp <;> omega)]; first | (simp [go_sem]; done)
  have c1_0_3 : w1.cell? ⟨w.heap.size, 3, none⟩ = some (.int .i64 a3) := by rw [hb.cell (by simp <;> omega)]; first | (simp [go_sem]; done)
  have c1_0_4 : w1.cell? ⟨w.heap.size, 4, none⟩ = some (.int .i64 a4) := by rw [hb.cell (by simp <;> omega)]; first | (simp [go_sem]; done)
  have c1_0_5 : w1.cell? ⟨w.heap.size, 5, none⟩ = some (.int .i64 a5) := by rw [hb.cell (by simp <;> omega)]; first | (simp [go_sem]; done)
  have c1_0_6 : w1.cell? ⟨w.heap.size, 6, none⟩ = some (.int .i64 a6) := by rw [hb.cell (by simp <;> omega)]; first | (simp [go_sem]; done)
  have c1_0_7 : w1.cell? ⟨w.heap.size, 7, none⟩ = some (.int .i64 a7) := by rw [hb.cell (by simp <;> omega)]; first | (simp [go_sem]; done)
  have c1_0_8 : w1.cell? ⟨w.heap.size, 8, none⟩ = some (.int .i64 a8) := by rw [hb.cell (by simp <;> omega)]; first | (simp [go_sem]; done)
  have HB1 := Lib.hid (Below.trans ((ba_c (Below.refl w.heap.size w) (Nat.le_refl _) _)) (hb.mono (Below.size ((ba_c (Below.refl w.heap.size w) (Nat.le_refl _) _)))))
  clear hb hsz
  go_wp2_with fail
  refine (counted14 _).mono ?_
  rintro e w2 ⟨rfl, hb⟩
  have hsz : w1.heap.size ≤ w2.heap.size := hb.size
  have hs2_0 : w.heap.size < w2.heap.size := by omega
  have c2_0_0 : w2.cell? ⟨w.heap.size, 0, none⟩ = some (.int .i64 a0) := by rw [hb.cell (by simp <;> omega)]; first | exact c1_0_0 | (rw [World.cell?_alloc_lt _ _ _ hs1_0]; exact c1_0_0) | (simp [go_sem]; done)
  have c2_0_1 : w2.cell? ⟨w.heap.size, 1, none⟩ = some (.int .i64 a1) := by rw [hb.cell (by simp <;> omega)]; first | exact c1_0_1 | (rw [World.cell?_alloc_lt _ _ _ hs1_0]; exact c1_0_1) | (simp [go_sem]; done)
  have c2_0_2 : w2.cell? ⟨w.heap.size, 2, none⟩ = some (.int .i64 a2) := by rw [hb.cell (by simp <;> omega)]; first | exact c1_0_2 | (rw [World.cell?_alloc_lt _ _ _ hs1_0]; exact c1_0_2) | (simp [go_sem]; done)
  have c2_0_3 : w2.cell? ⟨w.heap.size, 3, none⟩ = some (.int .i64 a3) := by rw [hb.cell (by simp <;> omega)]; first | exact c1_0_3 | (rw [World.cell?_alloc_lt _ _ _ hs1_0]; exact c1_0_3) | (simp [go_sem]; done)
  have c2_0_4 : w2.cell? ⟨w.heap.size, 4, none⟩ = some (.int .i64 a4) := by rw [hb.cell (by simp <;> omega)]; first | exact c1_0_4 | (rw [World.cell?_alloc_lt _ _ _ hs1_0]; exact c1_0_4) | (simp [go_sem]; done)
  have c2_0_5 : w2.cell? ⟨w.heap.size, 5, none⟩ = some (.int .i64 a5) := by rw [hb.cell (by simp <;> omega)]; first | exact c1_0_5 | (rw [World.cell?_alloc_lt _ _ _ hs1_0]; exact c1_0_5) | (simp [go_sem]; done)
  have c2_0_6 : w2.cell? ⟨w.heap.size, 6, none⟩ = some (.int .i64 a6) := by rw [hb.cell (by simp <;> omega)]; first | exact c1_0_6 | (rw [World.cell?_alloc_lt _ _ _ hs1_0]; exact c1_0_6) | (simp [go_sem]; done)
  have c2_0_7 : w2.cell? ⟨w.heap.size, 7, none⟩ = some (.int .i64 a7) := by rw [hb.cell (by simp <;> omega)]; first | exact c1_0_7 | (rw [World.cell?_alloc_lt _ _ _ hs1_0]; exact c1_0_7) | (simp [go_sem]; done)
  have c2_0_8 : w2.cell? ⟨w.heap.size, 8, none⟩ = some (.int .i64 a8) := by rw [hb.cell (by simp <;> omega)]; first | exact c1_0_8 | (rw [World.cell?_alloc_lt _ _ _ hs1_0]; exact c1_0_8) | (simp [go_sem]; done)
  have HB2 := Lib.hid (Below.trans (HB1.out) (hb.mono (Below.size (HB1.out))))
  clear hb hsz c1_0_0 c1_0_1 c1_0_2 c1_0_3 c1_0_4 c1_0_5 c1_0_6 c1_0_7 c1_0_8 hs1_0
  go_wp2_with fail
  refine (Conic33 P n 0 (-1) 0 0 1 0 0 ((P : Int) - 1) 0 0 1 0 HP.out HN.out hna hnb (by omega) (by omega) (by omega) (by omega) (by omega) (by omega) HK HBD _).mono ?_
  rintro e w3 hco
  unfold ConicOut at hco
  rw [if_pos HS.out] at hco
  obtain ⟨v, rfl, hga⟩ := hco
  have hga' : Gath (ovL P) w2 w3 v := hga
  obtain ⟨ax, cx, rfl, hin⟩ := InS.of_gath hga'
  rw [HLEN.out] at hin ⊢
  have HIN := Lib.hid (show InS w3 ax n1 f from fun i hi => by have := hin i hi; dsimp only at this; rw [HF.out] at this; exact this)
  have hwf : w.heap.size < w3.heap.size := Nat.lt_of_lt_of_le hs2_0 hga.2.size
  have e0 : w3.cell? ⟨w.heap.size, 0, none⟩ = some (.int .i64 a0) := by rw [hga.2.cell (p := ⟨w.heap.size, 0, none⟩) hs2_0]; exact c2_0_0
  have e1 : w3.cell? ⟨w.heap.size, 1, none⟩ = some (.int .i64 a1) := by rw [hga.2.cell (p := ⟨w.heap.size, 1, none⟩) hs2_0]; exact c2_0_1
  have e2 : w3.cell? ⟨w.heap.size, 2, none⟩ = some (.int .i64 a2) := by rw [hga.2.cell (p := ⟨w.heap.size, 2, none⟩) hs2_0]; exact c2_0_2
  have e3 : w3.cell? ⟨w.heap.size, 3, none⟩ = some (.int .i64 a3) := by rw [hga.2.cell (p := ⟨w.heap.size, 3, none⟩) hs2_0]; exact c2_0_3
  have e4 : w3.cell? ⟨w.heap.size, 4, none⟩ = some (.int .i64 a4) := by rw [hga.2.cell (p := ⟨w.heap.size, 4, none⟩) hs2_0]; exact c2_0_4
  have e5 : w3.cell? ⟨w.heap.size, 5, none⟩ = some (.int .i64 a5) := by rw [hga.2.cell (p := ⟨w.heap.size, 5, none⟩) hs2_0]; exact c2_0_5
  have e6 : w3.cell? ⟨w.heap.size, 6, none⟩ = some (.int .i64 a6) := by rw [hga.2.cell (p := ⟨w.heap.size, 6, none⟩) hs2_0]; exact c2_0_6
  have e7 : w3.cell? ⟨w.heap.size, 7, none⟩ = some (.int .i64 a7) := by rw [hga.2.cell (p := ⟨w.heap.size, 7, none⟩) hs2_0]; exact c2_0_7
  have e8 : w3.cell? ⟨w.heap.size, 8, none⟩ = some (.int .i64 a8) := by rw [hga.2.cell (p := ⟨w.heap.size, 8, none⟩) hs2_0]; exact c2_0_8
  have HBF := Lib.hid (HB2.out.trans (hga.2.mono HB2.out.size))
  clear hga hga' hin c2_0_0 c2_0_1 c2_0_2 c2_0_3 c2_0_4 c2_0_5 c2_0_6 c2_0_7 c2_0_8
  go_wp2_with fail
  go_loopw [9, 47] (fun v i wr => ∃ k : Nat, k ≤ n1 ∧ i = .int .i64 k ∧ Gath ((List.range k).map g) w3 wr v) (fun _ i _ => n1 - (intOf i).toNat)
  case atStart => exact ⟨0, by omega, rfl, gath_nil w3⟩
  case round =>
    obtain ⟨k, hk, rfl, hga⟩ := hrel
    obtain ⟨wm, rfl⟩ : ∃ wo : World, wo = wr := ⟨_, rfl⟩
    by_cases hlt : k < n1
    · obtain ⟨b, o, rfl, hb, k0, k1, k2⟩ := (InS.below HIN.out hga.2) k hlt
      have hz := HNZ.out k hlt
      have ht := HG.out k
      generalize f k = X at k0 k1 k2 hz ht
      obtain ⟨h0, h1, h2⟩ := X
      obtain ⟨⟨t0, t1, t2⟩, hT⟩ : ∃ t, g k = t := ⟨_, rfl⟩
      rw [hT] at ht
      dsimp only at k0 k1 k2 hz
      have l1 : (0 : Int) ≤ (k : Int) := by omega
      have l2 : (k : Int) < (n1 : Int) := by omega
      have el : k * 3 = 3 * k := by omega
      have q0 : wm.cell? ⟨w.heap.size, 0, none⟩ = some (.int .i64 a0) := by rw [hga.2.cell (p := ⟨w.heap.size, 0, none⟩) hwf]; exact e0
      have q1 : wm.cell? ⟨w.heap.size, 1, none⟩ = some (.int .i64 a1) := by rw [hga.2.cell (p := ⟨w.heap.size, 1, none⟩) hwf]; exact e1
      have q2 : wm.cell? ⟨w.heap.size, 2, none⟩ = some (.int .i64 a2) := by rw [hga.2.cell (p := ⟨w.heap.size, 2, none⟩) hwf]; exact e2
      have q3 : wm.cell? ⟨w.heap.size, 3, none⟩ = some (.int .i64 a3) := by rw [hga.2.cell (p := ⟨w.heap.size, 3, none⟩) hwf]; exact e3
      have q4 : wm.cell? ⟨w.heap.size, 4, none⟩ = some (.int .i64 a4) := by rw [hga.2.cell (p := ⟨w.heap.size, 4, none⟩) hwf]; exact e4
      have q5 : wm.cell? ⟨w.heap.size, 5, none⟩ = some (.int .i64 a5) := by rw [hga.2.cell (p := ⟨w.heap.size, 5, none⟩) hwf]; exact e5
      have q6 : wm.cell? ⟨w.heap.size, 6, none⟩ = some (.int .i64 a6) := by rw [hga.2.cell (p := ⟨w.heap.size, 6, none⟩) hwf]; exact e6
      have q7 : wm.cell? ⟨w.heap.size, 7, none⟩ = some (.int .i64 a7) := by rw [hga.2.cell (p := ⟨w.heap.size, 7, none⟩) hwf]; exact e7
      have q8 : wm.cell? ⟨w.heap.size, 8, none⟩ = some (.int .i64 a8) := by rw [hga.2.cell (p := ⟨w.heap.size, 8, none⟩) hwf]; exact e8
      have hww : w.heap.size < wm.heap.size := Nat.lt_of_lt_of_le hwf hga.2.size
      have HZ := Lib.hid hz
      have HT := Lib.hid ht
      have HTT := Lib.hid hT
      have HGA := Lib.hid hga
      have hlen : ((List.range k).map g).length = k := by simp
      have HLK := Lib.hid hlen
      clear hz ht hT hga hlen e0 e1 e2 e3 e4 e5 e6 e7 e8
      go_wp2_with fail
      refine (Apply18_go _ _ _ _ _ _ _ _ _ _ _ _ _ _ _ _ HP.out HD.out HZ.out HT.out _).mono ?_
      rintro e w4 ⟨rfl, hb1⟩
      have hg1 := gath_skip (gath_skip HGA.out (ba_c (Below.refl _ wm) (Nat.le_refl _) (Obj.cells #[.int .i64 h0, .int .i64 h1, .int .i64 h2] 27))) hb1
      have HG1 := Lib.hid hg1
      have hsz : w3.heap.size ≤ w4.heap.size := hg1.2.size
      have HO := Lib.hid (fun o1 o2 => ownsRow_alloc (ownsRow_alloc hg1.1 o1) o2)
      rw [HLK.out] at HO
      clear hb1 hg1
      go_wp2_with (at_builtin; refine wpList_append_own _ rfl _ _ 45 rfl w3.heap.size 27 i0 (.agg #[.int .i64 0, .int .i64 0, .int .i64 0]) 3 24 Try.underlying45 hi hz0 hz1 hz2 rfl (by decide) _ _ _ rfl (HO.out _ _) ⟨w4.heap.size + 1, 0, none⟩ 1 1 (hv (t0, t1, t2)) rfl rfl ?c1 ?c2 ?c3 ?c4 ?c5 ?_)
      case c1 =>
        intro j u hj
        match j, hj with
        | 0, hj => simp [hv] at hj; subst hj; simp [go_sem, Addr.add]
        | 1, hj => simp [hv] at hj; subst hj; simp [go_sem, Addr.add]
        | 2, hj => simp [hv] at hj; subst hj; simp [go_sem, Addr.add]
      case c2 => intro u hu; simp [hv] at hu; rcases hu with rfl | rfl | rfl <;> rfl
      case c3 => unfold maxLen; omega
      case c4 => omega
      case c5 => simp; omega
      intro v' w6 hown' hgrow _
      have HN2 := Lib.hid hown'
      have HW2 := Lib.hid hgrow
      clear hown' hgrow
      go_wp2
      refine ⟨⟨k + 1, by omega, by go_num, ?_⟩, by simp [intOf]; omega⟩
      rw [List.range_succ, List.map_append, List.map_singleton, HTT.out]
      refine gath_keep (gath_skip HG1.out (ba_c (ba_c (Below.refl _ _) (Nat.le_refl _) _) (Nat.le_refl _) _)) ?_ HW2.out
      rw [HLK.out]; exact HN2.out
    · have hkn : k = n1 := by omega
      subst hkn
      have HBW := Lib.hid (HBF.out.trans (hga.2.mono (by omega)))
      have HL := Lib.hid (HIN.out.below hga.2)
      obtain ⟨a2, c2, rfl, hin2⟩ := InS.of_gath hga
      rw [show ((List.range k).map g).length = k by simp] at hin2 ⊢
      have HM := Lib.hid (show InS wm a2 k g from fun i hi => by
        have := hin2 i hi
        have e : ((List.range k).map g).getD i (0, 0, 0) = g i := by simp [List.getD_eq_getElem?_getD, hi]
        dsimp only at this; rw [e] at this; exact this)
      clear hga hin2
      go_wp2_with fail
      refine (Arc26 _ _ _ _ f true 0 HP.out hn16 _ HL.out HE.out (by rw [HB.out]; rfl)).mono ?_
      rintro e w5 ⟨rfl, hb⟩
      have HM5 := Lib.hid (HM.out.below hb)
      have HB5 := Lib.hid (HBW.out.trans (hb.mono HBW.out.size))
      clear hb
      go_wp2_with fail
      refine (Arc26 _ _ _ _ g true 0 HP.out hn16 _ HM5.out HE'.out (by rw [HB'.out]; rfl)).mono ?_
      rintro e w6 ⟨rfl, hb⟩
      have HB6 := Lib.hid (HB5.out.trans (hb.mono HB5.out.size))
      clear hb
      go_wp2_with fail
      go_ret
      exact ⟨rfl, HB6.out⟩

end Go.Proofs.Ytfdbkocpljiehaa
