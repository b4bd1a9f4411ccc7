/- Walks: the law FiniteApply, its loops. -/
import Derived.Test.YtfdbkocpljiehaaZi
set_option linter.unusedSimpArgs false
set_option linter.unusedVariables false
namespace Go.Proofs.Ytfdbkocpljiehaa
open Go.RowKit

theorem RowsAt.congr' {w : World} {g n : Nat} {f f' : Nat → Int × Int × Int} (h : RowsAt w g n f) (e : ∀ i, i < n → f i = f' i) : RowsAt w g n f' := by
  intro i hi
  rw [← e i hi]
  exact h i hi

set_option maxRecDepth 100000 in
set_option maxHeartbeats 16000000 in
theorem FiniteApply8_h (P : Nat) (a0 a1 a2 a3 a4 a5 a6 a7 a8 x y z : Int) (N n : Nat) (hp : isP P = true) (hd : gdB P a0 a1 a2 a3 a4 a5 a6 a7 a8 = true) (hN1 : 1 ≤ N) (hN2 : N ≤ 23298085122481) (hback : bk (sT P a0 a1 a2 a3 a4 a5 a6 a7 a8) N 4 = true) (hmin : ∀ k, 1 ≤ k → k < N → bk (sT P a0 a1 a2 a3 a4 a5 a6 a7 a8) k 4 = false) (hn : (allK P (P * P * P)).length = n) (hn1 : 1 ≤ n) (hn2 : n ≤ 2197) (hall : ∀ i, i < n → itr (sT P a0 a1 a2 a3 a4 a5 a6 a7 a8) N ((allK P (P * P * P)).getD i (0, 0, 0)) = (allK P (P * P * P)).getD i (0, 0, 0)) (hnot : ∀ k, 1 ≤ k → k < N → ∃ i, i < n ∧ eqT (itr (sT P a0 a1 a2 a3 a4 a5 a6 a7 a8) k ((allK P (P * P * P)).getD i (0, 0, 0))) ((allK P (P * P * P)).getD i (0, 0, 0)) = false) (hz : zz P x y z = true) (w : World) :
    Calls Try.prog 8 #[.int .i64 P, .agg #[.int .i64 a0, .int .i64 a1, .int .i64 a2, .int .i64 a3, .int .i64 a4, .int .i64 a5, .int .i64 a6, .int .i64 a7, .int .i64 a8], .agg #[.int .i64 x, .int .i64 y, .int .i64 z]] w fun e w' => e = .returned (.bool true) ∧ Below w.heap.size w w' := by
  have HP := Lib.hid hp
  have HD := Lib.hid hd
  have HZ := Lib.hid hz
  have HBK := Lib.hid hback
  have HMIN := Lib.hid hmin
  have HN := Lib.hid hn
  have HALL := Lib.hid hall
  have HNOT := Lib.hid hnot
  clear hback hmin hn hall hnot
  obtain ⟨G, hG⟩ : ∃ G, (a0 % (P : Int) * ((a4 % (P : Int) * (a8 % (P : Int)) - a5 % (P : Int) * (a7 % (P : Int))) % (P : Int)) + a1 % (P : Int) * ((a5 % (P : Int) * (a6 % (P : Int)) - a3 % (P : Int) * (a8 % (P : Int))) % (P : Int)) + a2 % (P : Int) * ((a3 % (P : Int) * (a7 % (P : Int)) - a4 % (P : Int) * (a6 % (P : Int))) % (P : Int))) % (P : Int) = G := ⟨_, rfl⟩
  have HG := Lib.hid hG
  have hg0 : (G != 0) = true := by rw [← hG]; exact hd
  obtain ⟨⟨u0, u1, u2⟩, hu⟩ : ∃ u, pl (P : Int) x y z = u := ⟨_, rfl⟩
  have HU := Lib.hid hu
  clear hp hd hz hG hu
  go_enter Try.func8, Try.ntmps8
  go_wp2_with fail
  refine (Apply18_none _ _ _ _ _ _ _ _ _ _ _ _ _ HP.out HD.out HZ.out _).mono ?_
  rintro e w1 ⟨rfl, hb⟩
  have hsz : w.heap.size + 2 ≤ w1.heap.size := by have := hb.size; simp at this; omega
  have hs1_0 : w.heap.size < w1.heap.size := by omega
  have c1_0_0 : w1.cell? ⟨w.heap.size, 0, none⟩ = some (.int .i64 a0) := by rw [hb.cell (by simp <;> omega)]; first | (simp [go_sem]; done)
  have c1_0_1 : w1.cell? ⟨w.heap.size, 1, none⟩ = some (.int .i64 a1) := by rw [hb.cell (by simp <;> omega)]; first | (simp [go_sem]; done)
  have c1_0_2 : w1.cell? ⟨w.heap.size, 2, none⟩ = some (.int .i64 a2) := by rw [hb.cell (by simp <;> omega)]; first | (simp [go_sem]; done)
  have c1_0_3 : w1.cell? ⟨w.heap.size, 3, none⟩ = some (.int .i64 a3) := by rw [hb.cell (by simp <;> omega)]; first | (simp [go_sem]; done)
  have c1_0_4 : w1.cell? ⟨w.heap.size, 4, none⟩ = some (.int .i64 a4) := by rw [hb.cell (by simp <;> omega)]; first | (simp [go_sem]; done)
  have c1_0_5 : w1.cell? ⟨w.heap.size, 5, none⟩ = some (.int .i64 a5) := by rw [hb.cell (by simp <;> omega)]; first | (simp [go_sem]; done)
  have c1_0_6 : w1.cell? ⟨w.heap.size, 6, none⟩ = some (.int .i64 a6) := by rw [hb.cell (by simp <;> omega)]; first | (simp [go_sem]; done)
  have c1_0_7 : w1.cell? ⟨w.heap.size, 7, none⟩ = some (.int .i64 a7) := by rw [hb.cell (by simp <;> omega)]; first | (simp [go_sem]; done)
  have c1_0_8 : w1.cell? ⟨w.heap.size, 8, none⟩ = some (.int .i64 a8) := by rw [hb.cell (by simp <;> omega)]; first | (simp [go_sem]; done)
  have hs1_1 : w.heap.size + 1 < w1.heap.size := by omega
  have c1_1_0 : w1.cell? ⟨w.heap.size + 1, 0, none⟩ = some (.int .i64 x) := by rw [hb.cell (by simp <;> omega)]; first | (simp [go_sem]; done)
  have c1_1_1 : w1.cell? ⟨w.heap.size + 1, 1, none⟩ = some (.int .i64 y) := by rw [hb.cell (by simp <;> omega)]; first | (simp [go_sem]; done)
  have c1_1_2 : w1.cell? ⟨w.heap.size + 1, 2, none⟩ = some (.int .i64 z) := by rw [hb.cell (by simp <;> omega)]; first | (simp [go_sem]; done)
  have HB1 := Lib.hid (Below.trans ((ba_c ((ba_c (Below.refl w.heap.size w) (Nat.le_refl _) _)) (Nat.le_refl _) _)) (hb.mono (Below.size ((ba_c ((ba_c (Below.refl w.heap.size w) (Nat.le_refl _) _)) (Nat.le_refl _) _)))))
  clear hb hsz
  go_wp2_with fail
  refine (Order28_go N _ _ _ _ _ _ _ _ _ _ HP.out HD.out hN1 hN2 HBK HMIN _).mono ?_
  rintro e w2 ⟨rfl, hb⟩
  have hsz : w1.heap.size + 1 ≤ w2.heap.size := by have := hb.size; simp at this; omega
  have hs2_0 : w.heap.size < w2.heap.size := by omega
  have c2_0_0 : w2.cell? ⟨w.heap.size, 0, none⟩ = some (.int .i64 a0) := by rw [hb.cell (by simp <;> omega)]; first | exact c1_0_0 | (rw [World.cell?_alloc_lt _ _ _ hs1_0]; exact c1_0_0) | (simp [go_sem]; done)
  have c2_0_1 : w2.cell? ⟨w.heap.size, 1, none⟩ = some (.int .i64 a1) := by rw [hb.cell (by simp <;> omega)]; first | exact c1_0_1 | (rw [World.cell?_alloc_lt _ _ _ hs1_0]; exact c1_0_1) | (simp [go_sem]; done)
  have c2_0_2 : w2.cell? ⟨w.heap.size, 2, none⟩ = some (.int .i64 a2) := by rw [hb.cell (by simp <;> omega)]; first | exact c1_0_2 | (rw [World.cell?_alloc_lt _ _ _ hs1_0]; exact c1_0_2) | (simp [go_sem]; done)
  have c2_0_3 : w2.cell? ⟨w.heap.size, 3, none⟩ = some (.int .i64 a3) := by rw [hb.cell (by simp <;> omega)]; first | exact c1_0_3 | (rw [World.cell?_alloc_lt _ _ _ hs1_0]; exact c1_0_3) | (simp [go_sem]; done)
  have c2_0_4 : w2.cell? ⟨w.heap.size, 4, none⟩ = some (.int .i64 a4) := by rw [hb.cell (by simp <;> omega)]; first | exact c1_0_4 | (rw [World.cell?_alloc_lt _ _ _ hs1_0]; exact c1_0_4) | (simp [go_sem]; done)
  have c2_0_5 : w2.cell? ⟨w.heap.size, 5, none⟩ = some (.int .i64 a5) := by rw [hb.cell (by simp <;> omega)]; first | exact c1_0_5 | (rw [World.cell?_alloc_lt _ _ _ hs1_0]; exact c1_0_5) | (simp [go_sem]; done)
  have c2_0_6 : w2.cell? ⟨w.heap.size, 6, none⟩ = some (.int .i64 a6) := by rw [hb.cell (by simp <;> omega)]; first | exact c1_0_6 | (rw [World.cell?_alloc_lt _ _ _ hs1_0]; exact c1_0_6) | (simp [go_sem]; done)
  have c2_0_7 : w2.cell? ⟨w.heap.size, 7, none⟩ = some (.int .i64 a7) := by rw [hb.cell (by simp <;> omega)]; first | exact c1_0_7 | (rw [World.cell?_alloc_lt _ _ _ hs1_0]; exact c1_0_7) | (simp [go_sem]; done)
  have c2_0_8 : w2.cell? ⟨w.heap.size, 8, none⟩ = some (.int .i64 a8) := by rw [hb.cell (by simp <;> omega)]; first | exact c1_0_8 | (rw [World.cell?_alloc_lt _ _ _ hs1_0]; exact c1_0_8) | (simp [go_sem]; done)
  have hs2_1 : w.heap.size + 1 < w2.heap.size := by omega
  have c2_1_0 : w2.cell? ⟨w.heap.size + 1, 0, none⟩ = some (.int .i64 x) := by rw [hb.cell (by simp <;> omega)]; first | exact c1_1_0 | (rw [World.cell?_alloc_lt _ _ _ hs1_1]; exact c1_1_0) | (simp [go_sem]; done)
  have c2_1_1 : w2.cell? ⟨w.heap.size + 1, 1, none⟩ = some (.int .i64 y) := by rw [hb.cell (by simp <;> omega)]; first | exact c1_1_1 | (rw [World.cell?_alloc_lt _ _ _ hs1_1]; exact c1_1_1) | (simp [go_sem]; done)
  have c2_1_2 : w2.cell? ⟨w.heap.size + 1, 2, none⟩ = some (.int .i64 z) := by rw [hb.cell (by simp <;> omega)]; first | exact c1_1_2 | (rw [World.cell?_alloc_lt _ _ _ hs1_1]; exact c1_1_2) | (simp [go_sem]; done)
  have hs2_2 : w1.heap.size < w2.heap.size := by omega
  have c2_2_0 : w2.cell? ⟨w1.heap.size, 0, none⟩ = some (.int .i64 0) := by rw [hb.cell (by simp <;> omega)]; first | (simp [go_sem]; done)
  have c2_2_1 : w2.cell? ⟨w1.heap.size, 1, none⟩ = some (.int .i64 0) := by rw [hb.cell (by simp <;> omega)]; first | (simp [go_sem]; done)
  have c2_2_2 : w2.cell? ⟨w1.heap.size, 2, none⟩ = some (.int .i64 0) := by rw [hb.cell (by simp <;> omega)]; first | (simp [go_sem]; done)
  have HB2 := Lib.hid (Below.trans ((ba_c (HB1.out) (Nat.le_refl _) _)) (hb.mono (Below.size ((ba_c (HB1.out) (Nat.le_refl _) _)))))
  clear hb hsz c1_0_0 c1_0_1 c1_0_2 c1_0_3 c1_0_4 c1_0_5 c1_0_6 c1_0_7 c1_0_8 c1_1_0 c1_1_1 c1_1_2 hs1_0 hs1_1
  go_wp2_with fail
  refine (counted14 _).mono ?_
  rintro e w3 ⟨rfl, hb⟩
  have hsz : w2.heap.size + 1 ≤ w3.heap.size := by have := hb.size; simp at this; omega
  have hs3_0 : w.heap.size < w3.heap.size := by omega
  have c3_0_0 : w3.cell? ⟨w.heap.size, 0, none⟩ = some (.int .i64 a0) := by rw [hb.cell (by simp <;> omega)]; first | exact c2_0_0 | (rw [World.cell?_alloc_lt _ _ _ hs2_0]; exact c2_0_0) | (simp [go_sem]; done)
  have c3_0_1 : w3.cell? ⟨w.heap.size, 1, none⟩ = some (.int .i64 a1) := by rw [hb.cell (by simp <;> omega)]; first | exact c2_0_1 | (rw [World.cell?_alloc_lt _ _ _ hs2_0]; exact c2_0_1) | (simp [go_sem]; done)
  have c3_0_2 : w3.cell? ⟨w.heap.size, 2, none⟩ = some (.int .i64 a2) := by rw [hb.cell (by simp <;> omega)]; first | exact c2_0_2 | (rw [World.cell?_alloc_lt _ _ _ hs2_0]; exact c2_0_2) | (simp [go_sem]; done)
  have c3_0_3 : w3.cell? ⟨w.heap.size, 3, none⟩ = some (.int .i64 a3) := by rw [hb.cell (by simp <;> omega)]; first | exact c2_0_3 | (rw [World.cell?_alloc_lt _ _ _ hs2_0]; exact c2_0_3) | (simp [go_sem]; done)
  have c3_0_4 : w3.cell? ⟨w.heap.size, 4, none⟩ = some (.int .i64 a4) := by rw [hb.cell (by simp <;> omega)]; first | exact c2_0_4 | (rw [World.cell?_alloc_lt _ _ _ hs2_0]; exact c2_0_4) | (simp [go_sem]; done)
  have c3_0_5 : w3.cell? ⟨w.heap.size, 5, none⟩ = some (.int .i64 a5) := by rw [hb.cell (by simp <;> omega)]; first | exact c2_0_5 | (rw [World.cell?_alloc_lt _ _ _ hs2_0]; exact c2_0_5) | (simp [go_sem]; done)
  have c3_0_6 : w3.cell? ⟨w.heap.size, 6, none⟩ = some (.int .i64 a6) := by rw [hb.cell (by simp <;> omega)]; first | exact c2_0_6 | (rw [World.cell?_alloc_lt _ _ _ hs2_0]; exact c2_0_6) | (simp [go_sem]; done)
  have c3_0_7 : w3.cell? ⟨w.heap.size, 7, none⟩ = some (.int .i64 a7) := by rw [hb.cell (by simp <;> omega)]; first | exact c2_0_7 | (rw [World.cell?_alloc_lt _ _ _ hs2_0]; exact c2_0_7) | (simp [go_sem]; done)
  have c3_0_8 : w3.cell? ⟨w.heap.size, 8, none⟩ = some (.int .i64 a8) := by rw [hb.cell (by simp <;> omega)]; first | exact c2_0_8 | (rw [World.cell?_alloc_lt _ _ _ hs2_0]; exact c2_0_8) | (simp [go_sem]; done)
  have hs3_1 : w.heap.size + 1 < w3.heap.size := by omega
  have c3_1_0 : w3.cell? ⟨w.heap.size + 1, 0, none⟩ = some (.int .i64 x) := by rw [hb.cell (by simp <;> omega)]; first | exact c2_1_0 | (rw [World.cell?_alloc_lt _ _ _ hs2_1]; exact c2_1_0) | (simp [go_sem]; done)
  have c3_1_1 : w3.cell? ⟨w.heap.size + 1, 1, none⟩ = some (.int .i64 y) := by rw [hb.cell (by simp <;> omega)]; first | exact c2_1_1 | (rw [World.cell?_alloc_lt _ _ _ hs2_1]; exact c2_1_1) | (simp [go_sem]; done)
  have c3_1_2 : w3.cell? ⟨w.heap.size + 1, 2, none⟩ = some (.int .i64 z) := by rw [hb.cell (by simp <;> omega)]; first | exact c2_1_2 | (rw [World.cell?_alloc_lt _ _ _ hs2_1]; exact c2_1_2) | (simp [go_sem]; done)
  have hs3_2 : w1.heap.size < w3.heap.size := by omega
  have c3_2_0 : w3.cell? ⟨w1.heap.size, 0, none⟩ = some (.int .i64 0) := by rw [hb.cell (by simp <;> omega)]; first | exact c2_2_0 | (rw [World.cell?_alloc_lt _ _ _ hs2_2]; exact c2_2_0) | (simp [go_sem]; done)
  have c3_2_1 : w3.cell? ⟨w1.heap.size, 1, none⟩ = some (.int .i64 0) := by rw [hb.cell (by simp <;> omega)]; first | exact c2_2_1 | (rw [World.cell?_alloc_lt _ _ _ hs2_2]; exact c2_2_1) | (simp [go_sem]; done)
  have c3_2_2 : w3.cell? ⟨w1.heap.size, 2, none⟩ = some (.int .i64 0) := by rw [hb.cell (by simp <;> omega)]; first | exact c2_2_2 | (rw [World.cell?_alloc_lt _ _ _ hs2_2]; exact c2_2_2) | (simp [go_sem]; done)
  have hs3_3 : w2.heap.size < w3.heap.size := by omega
  have c3_3_0 : w3.cell? ⟨w2.heap.size, 0, none⟩ = some (.int .i64 0) := by rw [hb.cell (by simp <;> omega)]; first | (simp [go_sem]; done)
  have c3_3_1 : w3.cell? ⟨w2.heap.size, 1, none⟩ = some (.int .i64 0) := by rw [hb.cell (by simp <;> omega)]; first | (simp [go_sem]; done)
  have c3_3_2 : w3.cell? ⟨w2.heap.size, 2, none⟩ = some (.int .i64 0) := by rw [hb.cell (by simp <;> omega)]; first | (simp [go_sem]; done)
  have HB3 := Lib.hid (Below.trans ((ba_c (HB2.out) (Nat.le_refl _) _)) (hb.mono (Below.size ((ba_c (HB2.out) (Nat.le_refl _) _)))))
  clear hb hsz c2_0_0 c2_0_1 c2_0_2 c2_0_3 c2_0_4 c2_0_5 c2_0_6 c2_0_7 c2_0_8 c2_1_0 c2_1_1 c2_1_2 c2_2_0 c2_2_1 c2_2_2 hs2_0 hs2_1 hs2_2
  go_wp2_with fail
  refine (isPrime15_yes _ HP.out _).mono ?_
  rintro e w4 ⟨rfl, hb⟩
  have hsz : w3.heap.size ≤ w4.heap.size := hb.size
  have hs4_0 : w.heap.size < w4.heap.size := by omega
  have c4_0_0 : w4.cell? ⟨w.heap.size, 0, none⟩ = some (.int .i64 a0) := by rw [hb.cell (by simp <;> omega)]; first | exact c3_0_0 | (rw [World.cell?_alloc_lt _ _ _ hs3_0]; exact c3_0_0) | (simp [go_sem]; done)
  have c4_0_1 : w4.cell? ⟨w.heap.size, 1, none⟩ = some (.int .i64 a1) := by rw [hb.cell (by simp <;> omega)]; first | exact c3_0_1 | (rw [World.cell?_alloc_lt _ _ _ hs3_0]; exact c3_0_1) | (simp [go_sem]; done)
  have c4_0_2 : w4.cell? ⟨w.heap.size, 2, none⟩ = some (.int .i64 a2) := by rw [hb.cell (by simp <;> omega)]; first | exact c3_0_2 | (rw [World.cell?_alloc_lt _ _ _ hs3_0]; exact c3_0_2) | (simp [go_sem]; done)
  have c4_0_3 : w4.cell? ⟨w.heap.size, 3, none⟩ = some (.int .i64 a3) := by rw [hb.cell (by simp <;> omega)]; first | exact c3_0_3 | (rw [World.cell?_alloc_lt _ _ _ hs3_0]; exact c3_0_3) | (simp [go_sem]; done)
  have c4_0_4 : w4.cell? ⟨w.heap.size, 4, none⟩ = some (.int .i64 a4) := by rw [hb.cell (by simp <;> omega)]; first | exact c3_0_4 | (rw [World.cell?_alloc_lt _ _ _ hs3_0]; exact c3_0_4) | (simp [go_sem]; done)
  have c4_0_5 : w4.cell? ⟨w.heap.size, 5, none⟩ = some (.int .i64 a5) := by rw [hb.cell (by simp <;> omega)]; first | exact c3_0_5 | (rw [World.cell?_alloc_lt _ _ _ hs3_0]; exact c3_0_5) | (simp [go_sem]; done)
  have c4_0_6 : w4.cell? ⟨w.heap.size, 6, none⟩ = some (.int .i64 a6) := by rw [hb.cell (by simp <;> omega)]; first | exact c3_0_6 | (rw [World.cell?_alloc_lt _ _ _ hs3_0]; exact c3_0_6) | (simp [go_sem]; done)
  have c4_0_7 : w4.cell? ⟨w.heap.size, 7, none⟩ = some (.int .i64 a7) := by rw [hb.cell (by simp <;> omega)]; first | exact c3_0_7 | (rw [World.cell?_alloc_lt _ _ _ hs3_0]; exact c3_0_7) | (simp [go_sem]; done)
  have c4_0_8 : w4.cell? ⟨w.heap.size, 8, none⟩ = some (.int .i64 a8) := by rw [hb.cell (by simp <;> omega)]; first | exact c3_0_8 | (rw [World.cell?_alloc_lt _ _ _ hs3_0]; exact c3_0_8) | (simp [go_sem]; done)
  have hs4_1 : w.heap.size + 1 < w4.heap.size := by omega
  have c4_1_0 : w4.cell? ⟨w.heap.size + 1, 0, none⟩ = some (.int .i64 x) := by rw [hb.cell (by simp <;> omega)]; first | exact c3_1_0 | (rw [World.cell?_alloc_lt _ _ _ hs3_1]; exact c3_1_0) | (simp [go_sem]; done)
  have c4_1_1 : w4.cell? ⟨w.heap.size + 1, 1, none⟩ = some (.int .i64 y) := by rw [hb.cell (by simp <;> omega)]; first | exact c3_1_1 | (rw [World.cell?_alloc_lt _ _ _ hs3_1]; exact c3_1_1) | (simp [go_sem]; done)
  have c4_1_2 : w4.cell? ⟨w.heap.size + 1, 2, none⟩ = some (.int .i64 z) := by rw [hb.cell (by simp <;> omega)]; first | exact c3_1_2 | (rw [World.cell?_alloc_lt _ _ _ hs3_1]; exact c3_1_2) | (simp [go_sem]; done)
  have hs4_2 : w1.heap.size < w4.heap.size := by omega
  have c4_2_0 : w4.cell? ⟨w1.heap.size, 0, none⟩ = some (.int .i64 0) := by rw [hb.cell (by simp <;> omega)]; first | exact c3_2_0 | (rw [World.cell?_alloc_lt _ _ _ hs3_2]; exact c3_2_0) | (simp [go_sem]; done)
  have c4_2_1 : w4.cell? ⟨w1.heap.size, 1, none⟩ = some (.int .i64 0) := by rw [hb.cell (by simp <;> omega)]; first | exact c3_2_1 | (rw [World.cell?_alloc_lt _ _ _ hs3_2]; exact c3_2_1) | (simp [go_sem]; done)
  have c4_2_2 : w4.cell? ⟨w1.heap.size, 2, none⟩ = some (.int .i64 0) := by rw [hb.cell (by simp <;> omega)]; first | exact c3_2_2 | (rw [World.cell?_alloc_lt _ _ _ hs3_2]; exact c3_2_2) | (simp [go_sem]; done)
  have hs4_3 : w2.heap.size < w4.heap.size := by omega
  have c4_3_0 : w4.cell? ⟨w2.heap.size, 0, none⟩ = some (.int .i64 0) := by rw [hb.cell (by simp <;> omega)]; first | exact c3_3_0 | (rw [World.cell?_alloc_lt _ _ _ hs3_3]; exact c3_3_0) | (simp [go_sem]; done)
  have c4_3_1 : w4.cell? ⟨w2.heap.size, 1, none⟩ = some (.int .i64 0) := by rw [hb.cell (by simp <;> omega)]; first | exact c3_3_1 | (rw [World.cell?_alloc_lt _ _ _ hs3_3]; exact c3_3_1) | (simp [go_sem]; done)
  have c4_3_2 : w4.cell? ⟨w2.heap.size, 2, none⟩ = some (.int .i64 0) := by rw [hb.cell (by simp <;> omega)]; first | exact c3_3_2 | (rw [World.cell?_alloc_lt _ _ _ hs3_3]; exact c3_3_2) | (simp [go_sem]; done)
  have HB4 := Lib.hid (Below.trans (HB3.out) (hb.mono (Below.size (HB3.out))))
  clear hb hsz c3_0_0 c3_0_1 c3_0_2 c3_0_3 c3_0_4 c3_0_5 c3_0_6 c3_0_7 c3_0_8 c3_1_0 c3_1_1 c3_1_2 c3_2_0 c3_2_1 c3_2_2 c3_3_0 c3_3_1 c3_3_2 hs3_0 hs3_1 hs3_2 hs3_3
  go_wp2_with fail
  refine (rowsF29 _ _ _ _ _ _ _ _ _ _).mono ?_
  rintro e w5 ⟨rfl, hb⟩
  have hsz : w4.heap.size ≤ w5.heap.size := hb.size
  have hs5_0 : w.heap.size < w5.heap.size := by omega
  have c5_0_0 : w5.cell? ⟨w.heap.size, 0, none⟩ = some (.int .i64 a0) := by rw [hb.cell (by simp <;> omega)]; first | exact c4_0_0 | (rw [World.cell?_alloc_lt _ _ _ hs4_0]; exact c4_0_0) | (simp [go_sem]; done)
  have c5_0_1 : w5.cell? ⟨w.heap.size, 1, none⟩ = some (.int .i64 a1) := by rw [hb.cell (by simp <;> omega)]; first | exact c4_0_1 | (rw [World.cell?_alloc_lt _ _ _ hs4_0]; exact c4_0_1) | (simp [go_sem]; done)
  have c5_0_2 : w5.cell? ⟨w.heap.size, 2, none⟩ = some (.int .i64 a2) := by rw [hb.cell (by simp <;> omega)]; first | exact c4_0_2 | (rw [World.cell?_alloc_lt _ _ _ hs4_0]; exact c4_0_2) | (simp [go_sem]; done)
  have c5_0_3 : w5.cell? ⟨w.heap.size, 3, none⟩ = some (.int .i64 a3) := by rw [hb.cell (by simp <;> omega)]; first | exact c4_0_3 | (rw [World.cell?_alloc_lt _ _ _ hs4_0]; exact c4_0_3) | (simp [go_sem]; done)
  have c5_0_4 : w5.cell? ⟨w.heap.size, 4, none⟩ = some (.int .i64 a4) := by rw [hb.cell (by simp <;> omega)]; first | exact c4_0_4 | (rw [World.cell?_alloc_lt _ _ _ hs4_0]; exact c4_0_4) | (simp [go_sem]; done)
  have c5_0_5 : w5.cell? ⟨w.heap.size, 5, none⟩ = some (.int .i64 a5) := by rw [hb.cell (by simp <;> omega)]; first | exact c4_0_5 | (rw [World.cell?_alloc_lt _ _ _ hs4_0]; exact c4_0_5) | (simp [go_sem]; done)
  have c5_0_6 : w5.cell? ⟨w.heap.size, 6, none⟩ = some (.int .i64 a6) := by rw [hb.cell (by simp <;> omega)]; first | exact c4_0_6 | (rw [World.cell?_alloc_lt _ _ _ hs4_0]; exact c4_0_6) | (simp [go_sem]; done)
  have c5_0_7 : w5.cell? ⟨w.heap.size, 7, none⟩ = some (.int .i64 a7) := by rw [hb.cell (by simp <;> omega)]; first | exact c4_0_7 | (rw [World.cell?_alloc_lt _ _ _ hs4_0]; exact c4_0_7) | (simp [go_sem]; done)
  have c5_0_8 : w5.cell? ⟨w.heap.size, 8, none⟩ = some (.int .i64 a8) := by rw [hb.cell (by simp <;> omega)]; first | exact c4_0_8 | (rw [World.cell?_alloc_lt _ _ _ hs4_0]; exact c4_0_8) | (simp [go_sem]; done)
  have hs5_1 : w.heap.size + 1 < w5.heap.size := by omega
  have c5_1_0 : w5.cell? ⟨w.heap.size + 1, 0, none⟩ = some (.int .i64 x) := by rw [hb.cell (by simp <;> omega)]; first | exact c4_1_0 | (rw [World.cell?_alloc_lt _ _ _ hs4_1]; exact c4_1_0) | (simp [go_sem]; done)
  have c5_1_1 : w5.cell? ⟨w.heap.size + 1, 1, none⟩ = some (.int .i64 y) := by rw [hb.cell (by simp <;> omega)]; first | exact c4_1_1 | (rw [World.cell?_alloc_lt _ _ _ hs4_1]; exact c4_1_1) | (simp [go_sem]; done)
  have c5_1_2 : w5.cell? ⟨w.heap.size + 1, 2, none⟩ = some (.int .i64 z) := by rw [hb.cell (by simp <;> omega)]; first | exact c4_1_2 | (rw [World.cell?_alloc_lt _ _ _ hs4_1]; exact c4_1_2) | (simp [go_sem]; done)
  have hs5_2 : w1.heap.size < w5.heap.size := by omega
  have c5_2_0 : w5.cell? ⟨w1.heap.size, 0, none⟩ = some (.int .i64 0) := by rw [hb.cell (by simp <;> omega)]; first | exact c4_2_0 | (rw [World.cell?_alloc_lt _ _ _ hs4_2]; exact c4_2_0) | (simp [go_sem]; done)
  have c5_2_1 : w5.cell? ⟨w1.heap.size, 1, none⟩ = some (.int .i64 0) := by rw [hb.cell (by simp <;> omega)]; first | exact c4_2_1 | (rw [World.cell?_alloc_lt _ _ _ hs4_2]; exact c4_2_1) | (simp [go_sem]; done)
  have c5_2_2 : w5.cell? ⟨w1.heap.size, 2, none⟩ = some (.int .i64 0) := by rw [hb.cell (by simp <;> omega)]; first | exact c4_2_2 | (rw [World.cell?_alloc_lt _ _ _ hs4_2]; exact c4_2_2) | (simp [go_sem]; done)
  have hs5_3 : w2.heap.size < w5.heap.size := by omega
  have c5_3_0 : w5.cell? ⟨w2.heap.size, 0, none⟩ = some (.int .i64 0) := by rw [hb.cell (by simp <;> omega)]; first | exact c4_3_0 | (rw [World.cell?_alloc_lt _ _ _ hs4_3]; exact c4_3_0) | (simp [go_sem]; done)
  have c5_3_1 : w5.cell? ⟨w2.heap.size, 1, none⟩ = some (.int .i64 0) := by rw [hb.cell (by simp <;> omega)]; first | exact c4_3_1 | (rw [World.cell?_alloc_lt _ _ _ hs4_3]; exact c4_3_1) | (simp [go_sem]; done)
  have c5_3_2 : w5.cell? ⟨w2.heap.size, 2, none⟩ = some (.int .i64 0) := by rw [hb.cell (by simp <;> omega)]; first | exact c4_3_2 | (rw [World.cell?_alloc_lt _ _ _ hs4_3]; exact c4_3_2) | (simp [go_sem]; done)
  have HB5 := Lib.hid (Below.trans (HB4.out) (hb.mono (Below.size (HB4.out))))
  clear hb hsz c4_0_0 c4_0_1 c4_0_2 c4_0_3 c4_0_4 c4_0_5 c4_0_6 c4_0_7 c4_0_8 c4_1_0 c4_1_1 c4_1_2 c4_2_0 c4_2_1 c4_2_2 c4_3_0 c4_3_1 c4_3_2 hs4_0 hs4_1 hs4_2 hs4_3
  go_wp2_with fail
  refine (detF16_is _ _ _ _ _ _ _ _ _ _ _ HP.out HG.out _).mono ?_
  rintro e w6 ⟨rfl, hb⟩
  have hsz : w5.heap.size + 3 ≤ w6.heap.size := by have := hb.size; simp at this; omega
  have hs6_0 : w.heap.size < w6.heap.size := by omega
  have c6_0_0 : w6.cell? ⟨w.heap.size, 0, none⟩ = some (.int .i64 a0) := by rw [hb.cell (by simp <;> omega)]; first | exact c5_0_0 | (rw [World.cell?_alloc_lt _ _ _ hs5_0]; exact c5_0_0) | (rw [World.cell?_alloc_lt _ _ _ (by simp <;> omega), World.cell?_alloc_lt _ _ _ (by simp <;> omega), World.cell?_alloc_lt _ _ _ (by simp <;> omega)]; exact c5_0_0) | (simp [go_sem]; done)
  have c6_0_1 : w6.cell? ⟨w.heap.size, 1, none⟩ = some (.int .i64 a1) := by rw [hb.cell (by simp <;> omega)]; first | exact c5_0_1 | (rw [World.cell?_alloc_lt _ _ _ hs5_0]; exact c5_0_1) | (rw [World.cell?_alloc_lt _ _ _ (by simp <;> omega), World.cell?_alloc_lt _ _ _ (by simp <;> omega), World.cell?_alloc_lt _ _ _ (by simp <;> omega)]; exact c5_0_1) | (simp [go_sem]; done)
  have c6_0_2 : w6.cell? ⟨w.heap.size, 2, none⟩ = some (.int .i64 a2) := by rw [hb.cell (by simp <;> omega)]; first | exact c5_0_2 | (rw [World.cell?_alloc_lt _ _ _ hs5_0]; exact c5_0_2) | (rw [World.cell?_alloc_lt _ _ _ (by simp <;> omega), World.cell?_alloc_lt _ _ _ (by simp <;> omega), World.cell?_alloc_lt _ _ _ (by simp <;> omega)]; exact c5_0_2) | (simp [go_sem]; done)
  have c6_0_3 : w6.cell? ⟨w.heap.size, 3, none⟩ = some (.int .i64 a3) := by rw [hb.cell (by simp <;> omega)]; first | exact c5_0_3 | (rw [World.cell?_alloc_lt _ _ _ hs5_0]; exact c5_0_3) | (rw [World.cell?_alloc_lt _ _ _ (by simp <;> omega), World.cell?_alloc_lt _ _ _ (by simp <;> omega), World.cell?_alloc_lt _ _ _ (by simp <;> omega)]; exact c5_0_3) | (simp [go_sem]; done)
  have c6_0_4 : w6.cell? ⟨w.heap.size, 4, none⟩ = some (.int .i64 a4) := by rw [hb.cell (by simp <;> omega)]; first | exact c5_0_4 | (rw [World.cell?_alloc_lt _ _ _ hs5_0]; exact c5_0_4) | (rw [World.cell?_alloc_lt _ _ _ (by simp <;> omega), World.cell?_alloc_lt _ _ _ (by simp <;> omega), World.cell?_alloc_lt _ _ _ (by simp <;> omega)]; exact c5_0_4) | (simp [go_sem]; done)
  have c6_0_5 : w6.cell? ⟨w.heap.size, 5, none⟩ = some (.int .i64 a5) := by rw [hb.cell (by simp <;> omega)]; first | exact c5_0_5 | (rw [World.cell?_alloc_lt _ _ _ hs5_0]; exact c5_0_5) | (rw [World.cell?_alloc_lt _ _ _ (by simp <;> omega), World.cell?_alloc_lt _ _ _ (by simp <;> omega), World.cell?_alloc_lt _ _ _ (by simp <;> omega)]; exact c5_0_5) | (simp [go_sem]; done)
  have c6_0_6 : w6.cell? ⟨w.heap.size, 6, none⟩ = some (.int .i64 a6) := by rw [hb.cell (by simp <;> omega)]; first | exact c5_0_6 | (rw [World.cell?_alloc_lt _ _ _ hs5_0]; exact c5_0_6) | (rw [World.cell?_alloc_lt _ _ _ (by simp <;> omega), World.cell?_alloc_lt _ _ _ (by simp <;> omega), World.cell?_alloc_lt _ _ _ (by simp <;> omega)]; exact c5_0_6) | (simp [go_sem]; done)
  have c6_0_7 : w6.cell? ⟨w.heap.size, 7, none⟩ = some (.int .i64 a7) := by rw [hb.cell (by simp <;> omega)]; first | exact c5_0_7 | (rw [World.cell?_alloc_lt _ _ _ hs5_0]; exact c5_0_7) | (rw [World.cell?_alloc_lt _ _ _ (by simp <;> omega), World.cell?_alloc_lt _ _ _ (by simp <;> omega), World.cell?_alloc_lt _ _ _ (by simp <;> omega)]; exact c5_0_7) | (simp [go_sem]; done)
  have c6_0_8 : w6.cell? ⟨w.heap.size, 8, none⟩ = some (.int .i64 a8) := by rw [hb.cell (by simp <;> omega)]; first | exact c5_0_8 | (rw [World.cell?_alloc_lt _ _ _ hs5_0]; exact c5_0_8) | (rw [World.cell?_alloc_lt _ _ _ (by simp <;> omega), World.cell?_alloc_lt _ _ _ (by simp <;> omega), World.cell?_alloc_lt _ _ _ (by simp <;> omega)]; exact c5_0_8) | (simp [go_sem]; done)
  have hs6_1 : w.heap.size + 1 < w6.heap.size := by omega
  have c6_1_0 : w6.cell? ⟨w.heap.size + 1, 0, none⟩ = some (.int .i64 x) := by rw [hb.cell (by simp <;> omega)]; first | exact c5_1_0 | (rw [World.cell?_alloc_lt _ _ _ hs5_1]; exact c5_1_0) | (rw [World.cell?_alloc_lt _ _ _ (by simp <;> omega), World.cell?_alloc_lt _ _ _ (by simp <;> omega), World.cell?_alloc_lt _ _ _ (by simp <;> omega)]; exact c5_1_0) | (simp [go_sem]; done)
  have c6_1_1 : w6.cell? ⟨w.heap.size + 1, 1, none⟩ = some (.int .i64 y) := by rw [hb.cell (by simp <;> omega)]; first | exact c5_1_1 | (rw [World.cell?_alloc_lt _ _ _ hs5_1]; exact c5_1_1) | (rw [World.cell?_alloc_lt _ _ _ (by simp <;> omega), World.cell?_alloc_lt _ _ _ (by simp <;> omega), World.cell?_alloc_lt _ _ _ (by simp <;> omega)]; exact c5_1_1) | (simp [go_sem]; done)
  have c6_1_2 : w6.cell? ⟨w.heap.size + 1, 2, none⟩ = some (.int .i64 z) := by rw [hb.cell (by simp <;> omega)]; first | exact c5_1_2 | (rw [World.cell?_alloc_lt _ _ _ hs5_1]; exact c5_1_2) | (rw [World.cell?_alloc_lt _ _ _ (by simp <;> omega), World.cell?_alloc_lt _ _ _ (by simp <;> omega), World.cell?_alloc_lt _ _ _ (by simp <;> omega)]; exact c5_1_2) | (simp [go_sem]; done)
  have hs6_2 : w1.heap.size < w6.heap.size := by omega
  have c6_2_0 : w6.cell? ⟨w1.heap.size, 0, none⟩ = some (.int .i64 0) := by rw [hb.cell (by simp <;> omega)]; first | exact c5_2_0 | (rw [World.cell?_alloc_lt _ _ _ hs5_2]; exact c5_2_0) | (rw [World.cell?_alloc_lt _ _ _ (by simp <;> omega), World.cell?_alloc_lt _ _ _ (by simp <;> omega), World.cell?_alloc_lt _ _ _ (by simp <;> omega)]; exact c5_2_0) | (simp [go_sem]; done)
  have c6_2_1 : w6.cell? ⟨w1.heap.size, 1, none⟩ = some (.int .i64 0) := by rw [hb.cell (by simp <;> omega)]; first | exact c5_2_1 | (rw [World.cell?_alloc_lt _ _ _ hs5_2]; exact c5_2_1) | (rw [World.cell?_alloc_lt _ _ _ (by simp <;> omega), World.cell?_alloc_lt _ _ _ (by simp <;> omega), World.cell?_alloc_lt _ _ _ (by simp <;> omega)]; exact c5_2_1) | (simp [go_sem]; done)
  have c6_2_2 : w6.cell? ⟨w1.heap.size, 2, none⟩ = some (.int .i64 0) := by rw [hb.cell (by simp <;> omega)]; first | exact c5_2_2 | (rw [World.cell?_alloc_lt _ _ _ hs5_2]; exact c5_2_2) | (rw [World.cell?_alloc_lt _ _ _ (by simp <;> omega), World.cell?_alloc_lt _ _ _ (by simp <;> omega), World.cell?_alloc_lt _ _ _ (by simp <;> omega)]; exact c5_2_2) | (simp [go_sem]; done)
  have hs6_3 : w2.heap.size < w6.heap.size := by omega
  have c6_3_0 : w6.cell? ⟨w2.heap.size, 0, none⟩ = some (.int .i64 0) := by rw [hb.cell (by simp <;> omega)]; first | exact c5_3_0 | (rw [World.cell?_alloc_lt _ _ _ hs5_3]; exact c5_3_0) | (rw [World.cell?_alloc_lt _ _ _ (by simp <;> omega), World.cell?_alloc_lt _ _ _ (by simp <;> omega), World.cell?_alloc_lt _ _ _ (by simp <;> omega)]; exact c5_3_0) | (simp [go_sem]; done)
  have c6_3_1 : w6.cell? ⟨w2.heap.size, 1, none⟩ = some (.int .i64 0) := by rw [hb.cell (by simp <;> omega)]; first | exact c5_3_1 | (rw [World.cell?_alloc_lt _ _ _ hs5_3]; exact c5_3_1) | (rw [World.cell?_alloc_lt _ _ _ (by simp <;> omega), World.cell?_alloc_lt _ _ _ (by simp <;> omega), World.cell?_alloc_lt _ _ _ (by simp <;> omega)]; exact c5_3_1) | (simp [go_sem]; done)
  have c6_3_2 : w6.cell? ⟨w2.heap.size, 2, none⟩ = some (.int .i64 0) := by rw [hb.cell (by simp <;> omega)]; first | exact c5_3_2 | (rw [World.cell?_alloc_lt _ _ _ hs5_3]; exact c5_3_2) | (rw [World.cell?_alloc_lt _ _ _ (by simp <;> omega), World.cell?_alloc_lt _ _ _ (by simp <;> omega), World.cell?_alloc_lt _ _ _ (by simp <;> omega)]; exact c5_3_2) | (simp [go_sem]; done)
  have hs6_4 : w5.heap.size < w6.heap.size := by omega
  have c6_4_0 : w6.cell? ⟨w5.heap.size, 0, none⟩ = some (.int .i64 a0) := by rw [hb.cell (by simp <;> omega)]; first | (simp [go_sem]; done)
  have c6_4_1 : w6.cell? ⟨w5.heap.size, 1, none⟩ = some (.int .i64 a1) := by rw [hb.cell (by simp <;> omega)]; first | (simp [go_sem]; done)
  have c6_4_2 : w6.cell? ⟨w5.heap.size, 2, none⟩ = some (.int .i64 a2) := by rw [hb.cell (by simp <;> omega)]; first | (simp [go_sem]; done)
  have hs6_5 : w5.heap.size + 1 < w6.heap.size := by omega
  have c6_5_0 : w6.cell? ⟨w5.heap.size + 1, 0, none⟩ = some (.int .i64 a3) := by rw [hb.cell (by simp <;> omega)]; first | (simp [go_sem]; done)
  have c6_5_1 : w6.cell? ⟨w5.heap.size + 1, 1, none⟩ = some (.int .i64 a4) := by rw [hb.cell (by simp <;> omega)]; first | (simp [go_sem]; done)
  have c6_5_2 : w6.cell? ⟨w5.heap.size + 1, 2, none⟩ = some (.int .i64 a5) := by rw [hb.cell (by simp <;> omega)]; first | (simp [go_sem]; done)
  have hs6_6 : w5.heap.size + 2 < w6.heap.size := by omega
  have c6_6_0 : w6.cell? ⟨w5.heap.size + 2, 0, none⟩ = some (.int .i64 a6) := by rw [hb.cell (by simp <;> omega)]; first | (simp [go_sem]; done)
  have c6_6_1 : w6.cell? ⟨w5.heap.size + 2, 1, none⟩ = some (.int .i64 a7) := by rw [hb.cell (by simp <;> omega)]; first | (simp [go_sem]; done)
  have c6_6_2 : w6.cell? ⟨w5.heap.size + 2, 2, none⟩ = some (.int .i64 a8) := by rw [hb.cell (by simp <;> omega)]; first | (simp [go_sem]; done)
  have HB6 := Lib.hid (Below.trans ((ba_c ((ba_c ((ba_c (HB5.out) (Nat.le_refl _) _)) (Nat.le_refl _) _)) (Nat.le_refl _) _)) (hb.mono (Below.size ((ba_c ((ba_c ((ba_c (HB5.out) (Nat.le_refl _) _)) (Nat.le_refl _) _)) (Nat.le_refl _) _)))))
  clear hb hsz c5_0_0 c5_0_1 c5_0_2 c5_0_3 c5_0_4 c5_0_5 c5_0_6 c5_0_7 c5_0_8 c5_1_0 c5_1_1 c5_1_2 c5_2_0 c5_2_1 c5_2_2 c5_3_0 c5_3_1 c5_3_2 hs5_0 hs5_1 hs5_2 hs5_3
  go_wp2_with fail
  refine (plainF21e _ _ _ _ _ _ _ _ HU.out HZ.out HP.out _).mono ?_
  rintro e w7 ⟨rfl, hb⟩
  have hsz : w6.heap.size ≤ w7.heap.size := hb.size
  have hs7_0 : w.heap.size < w7.heap.size := by omega
  have c7_0_0 : w7.cell? ⟨w.heap.size, 0, none⟩ = some (.int .i64 a0) := by rw [hb.cell (by simp <;> omega)]; first | exact c6_0_0 | (rw [World.cell?_alloc_lt _ _ _ hs6_0]; exact c6_0_0) | (simp [go_sem]; done)
  have c7_0_1 : w7.cell? ⟨w.heap.size, 1, none⟩ = some (.int .i64 a1) := by rw [hb.cell (by simp <;> omega)]; first | exact c6_0_1 | (rw [World.cell?_alloc_lt _ _ _ hs6_0]; exact c6_0_1) | (simp [go_sem]; done)
  have c7_0_2 : w7.cell? ⟨w.heap.size, 2, none⟩ = some (.int .i64 a2) := by rw [hb.cell (by simp <;> omega)]; first | exact c6_0_2 | (rw [World.cell?_alloc_lt _ _ _ hs6_0]; exact c6_0_2) | (simp [go_sem]; done)
  have c7_0_3 : w7.cell? ⟨w.heap.size, 3, none⟩ = some (.int .i64 a3) := by rw [hb.cell (by simp <;> omega)]; first | exact c6_0_3 | (rw [World.cell?_alloc_lt _ _ _ hs6_0]; exact c6_0_3) | (simp [go_sem]; done)
  have c7_0_4 : w7.cell? ⟨w.heap.size, 4, none⟩ = some (.int .i64 a4) := by rw [hb.cell (by simp <;> omega)]; first | exact c6_0_4 | (rw [World.cell?_alloc_lt _ _ _ hs6_0]; exact c6_0_4) | (simp [go_sem]; done)
  have c7_0_5 : w7.cell? ⟨w.heap.size, 5, none⟩ = some (.int .i64 a5) := by rw [hb.cell (by simp <;> omega)]; first | exact c6_0_5 | (rw [World.cell?_alloc_lt _ _ _ hs6_0]; exact c6_0_5) | (simp [go_sem]; done)
  have c7_0_6 : w7.cell? ⟨w.heap.size, 6, none⟩ = some (.int .i64 a6) := by rw [hb.cell (by simp <;> omega)]; first | exact c6_0_6 | (rw [World.cell?_alloc_lt _ _ _ hs6_0]; exact c6_0_6) | (simp [go_sem]; done)
  have c7_0_7 : w7.cell? ⟨w.heap.size, 7, none⟩ = some (.int .i64 a7) := by rw [hb.cell (by simp <;> omega)]; first | exact c6_0_7 | (rw [World.cell?_alloc_lt _ _ _ hs6_0]; exact c6_0_7) | (simp [go_sem]; done)
  have c7_0_8 : w7.cell? ⟨w.heap.size, 8, none⟩ = some (.int .i64 a8) := by rw [hb.cell (by simp <;> omega)]; first | exact c6_0_8 | (rw [World.cell?_alloc_lt _ _ _ hs6_0]; exact c6_0_8) | (simp [go_sem]; done)
  have hs7_1 : w.heap.size + 1 < w7.heap.size := by omega
  have c7_1_0 : w7.cell? ⟨w.heap.size + 1, 0, none⟩ = some (.int .i64 x) := by rw [hb.cell (by simp <;> omega)]; first | exact c6_1_0 | (rw [World.cell?_alloc_lt _ _ _ hs6_1]; exact c6_1_0) | (simp [go_sem]; done)
  have c7_1_1 : w7.cell? ⟨w.heap.size + 1, 1, none⟩ = some (.int .i64 y) := by rw [hb.cell (by simp <;> omega)]; first | exact c6_1_1 | (rw [World.cell?_alloc_lt _ _ _ hs6_1]; exact c6_1_1) | (simp [go_sem]; done)
  have c7_1_2 : w7.cell? ⟨w.heap.size + 1, 2, none⟩ = some (.int .i64 z) := by rw [hb.cell (by simp <;> omega)]; first | exact c6_1_2 | (rw [World.cell?_alloc_lt _ _ _ hs6_1]; exact c6_1_2) | (simp [go_sem]; done)
  have hs7_2 : w1.heap.size < w7.heap.size := by omega
  have c7_2_0 : w7.cell? ⟨w1.heap.size, 0, none⟩ = some (.int .i64 0) := by rw [hb.cell (by simp <;> omega)]; first | exact c6_2_0 | (rw [World.cell?_alloc_lt _ _ _ hs6_2]; exact c6_2_0) | (simp [go_sem]; done)
  have c7_2_1 : w7.cell? ⟨w1.heap.size, 1, none⟩ = some (.int .i64 0) := by rw [hb.cell (by simp <;> omega)]; first | exact c6_2_1 | (rw [World.cell?_alloc_lt _ _ _ hs6_2]; exact c6_2_1) | (simp [go_sem]; done)
  have c7_2_2 : w7.cell? ⟨w1.heap.size, 2, none⟩ = some (.int .i64 0) := by rw [hb.cell (by simp <;> omega)]; first | exact c6_2_2 | (rw [World.cell?_alloc_lt _ _ _ hs6_2]; exact c6_2_2) | (simp [go_sem]; done)
  have hs7_3 : w2.heap.size < w7.heap.size := by omega
  have c7_3_0 : w7.cell? ⟨w2.heap.size, 0, none⟩ = some (.int .i64 0) := by rw [hb.cell (by simp <;> omega)]; first | exact c6_3_0 | (rw [World.cell?_alloc_lt _ _ _ hs6_3]; exact c6_3_0) | (simp [go_sem]; done)
  have c7_3_1 : w7.cell? ⟨w2.heap.size, 1, none⟩ = some (.int .i64 0) := by rw [hb.cell (by simp <;> omega)]; first | exact c6_3_1 | (rw [World.cell?_alloc_lt _ _ _ hs6_3]; exact c6_3_1) | (simp [go_sem]; done)
  have c7_3_2 : w7.cell? ⟨w2.heap.size, 2, none⟩ = some (.int .i64 0) := by rw [hb.cell (by simp <;> omega)]; first | exact c6_3_2 | (rw [World.cell?_alloc_lt _ _ _ hs6_3]; exact c6_3_2) | (simp [go_sem]; done)
  have hs7_4 : w5.heap.size < w7.heap.size := by omega
  have c7_4_0 : w7.cell? ⟨w5.heap.size, 0, none⟩ = some (.int .i64 a0) := by rw [hb.cell (by simp <;> omega)]; first | exact c6_4_0 | (rw [World.cell?_alloc_lt _ _ _ hs6_4]; exact c6_4_0) | (simp [go_sem]; done)
  have c7_4_1 : w7.cell? ⟨w5.heap.size, 1, none⟩ = some (.int .i64 a1) := by rw [hb.cell (by simp <;> omega)]; first | exact c6_4_1 | (rw [World.cell?_alloc_lt _ _ _ hs6_4]; exact c6_4_1) | (simp [go_sem]; done)
  have c7_4_2 : w7.cell? ⟨w5.heap.size, 2, none⟩ = some (.int .i64 a2) := by rw [hb.cell (by simp <;> omega)]; first | exact c6_4_2 | (rw [World.cell?_alloc_lt _ _ _ hs6_4]; exact c6_4_2) | (simp [go_sem]; done)
  have hs7_5 : w5.heap.size + 1 < w7.heap.size := by omega
  have c7_5_0 : w7.cell? ⟨w5.heap.size + 1, 0, none⟩ = some (.int .i64 a3) := by rw [hb.cell (by simp <;> omega)]; first | exact c6_5_0 | (rw [World.cell?_alloc_lt _ _ _ hs6_5]; exact c6_5_0) | (simp [go_sem]; done)
  have c7_5_1 : w7.cell? ⟨w5.heap.size + 1, 1, none⟩ = some (.int .i64 a4) := by rw [hb.cell (by simp <;> omega)]; first | exact c6_5_1 | (rw [World.cell?_alloc_lt _ _ _ hs6_5]; exact c6_5_1) | (simp [go_sem]; done)
  have c7_5_2 : w7.cell? ⟨w5.heap.size + 1, 2, none⟩ = some (.int .i64 a5) := by rw [hb.cell (by simp <;> omega)]; first | exact c6_5_2 | (rw [World.cell?_alloc_lt _ _ _ hs6_5]; exact c6_5_2) | (simp [go_sem]; done)
  have hs7_6 : w5.heap.size + 2 < w7.heap.size := by omega
  have c7_6_0 : w7.cell? ⟨w5.heap.size + 2, 0, none⟩ = some (.int .i64 a6) := by rw [hb.cell (by simp <;> omega)]; first | exact c6_6_0 | (rw [World.cell?_alloc_lt _ _ _ hs6_6]; exact c6_6_0) | (simp [go_sem]; done)
  have c7_6_1 : w7.cell? ⟨w5.heap.size + 2, 1, none⟩ = some (.int .i64 a7) := by rw [hb.cell (by simp <;> omega)]; first | exact c6_6_1 | (rw [World.cell?_alloc_lt _ _ _ hs6_6]; exact c6_6_1) | (simp [go_sem]; done)
  have c7_6_2 : w7.cell? ⟨w5.heap.size + 2, 2, none⟩ = some (.int .i64 a8) := by rw [hb.cell (by simp <;> omega)]; first | exact c6_6_2 | (rw [World.cell?_alloc_lt _ _ _ hs6_6]; exact c6_6_2) | (simp [go_sem]; done)
  have HB7 := Lib.hid (Below.trans (HB6.out) (hb.mono (Below.size (HB6.out))))
  clear hb hsz c6_0_0 c6_0_1 c6_0_2 c6_0_3 c6_0_4 c6_0_5 c6_0_6 c6_0_7 c6_0_8 c6_1_0 c6_1_1 c6_1_2 c6_2_0 c6_2_1 c6_2_2 c6_3_0 c6_3_1 c6_3_2 c6_4_0 c6_4_1 c6_4_2 c6_5_0 c6_5_1 c6_5_2 c6_6_0 c6_6_1 c6_6_2 hs6_0 hs6_1 hs6_2 hs6_3 hs6_4 hs6_5 hs6_6
  have hB := ba_c HB7.out (Nat.le_refl _) (Obj.cells #[.int .i64 u0, .int .i64 u1, .int .i64 u2] 27)
  go_wp2_with fail
  refine (allF25 P HP.out _).mono ?_
  rintro e wf ⟨v, rfl, hgat⟩
  have hszf := hgat.2.size
  obtain ⟨g1, cap1, rfl, _, hg1, _, hrows⟩ := hgat.rows HN.out (by omega)
  have hwf : w.heap.size < wf.heap.size := by (try simp at hszf); omega
  have e0 : wf.cell? ⟨w.heap.size, 0, none⟩ = some (.int .i64 a0) := by rw [hgat.2.cell (p := ⟨w.heap.size, 0, none⟩) (by simp; omega)]; first | exact c7_0_0 | (rw [World.cell?_alloc_lt _ _ _ hs7_0]; exact c7_0_0)
  have e1 : wf.cell? ⟨w.heap.size, 1, none⟩ = some (.int .i64 a1) := by rw [hgat.2.cell (p := ⟨w.heap.size, 1, none⟩) (by simp; omega)]; first | exact c7_0_1 | (rw [World.cell?_alloc_lt _ _ _ hs7_0]; exact c7_0_1)
  have e2 : wf.cell? ⟨w.heap.size, 2, none⟩ = some (.int .i64 a2) := by rw [hgat.2.cell (p := ⟨w.heap.size, 2, none⟩) (by simp; omega)]; first | exact c7_0_2 | (rw [World.cell?_alloc_lt _ _ _ hs7_0]; exact c7_0_2)
  have e3 : wf.cell? ⟨w.heap.size, 3, none⟩ = some (.int .i64 a3) := by rw [hgat.2.cell (p := ⟨w.heap.size, 3, none⟩) (by simp; omega)]; first | exact c7_0_3 | (rw [World.cell?_alloc_lt _ _ _ hs7_0]; exact c7_0_3)
  have e4 : wf.cell? ⟨w.heap.size, 4, none⟩ = some (.int .i64 a4) := by rw [hgat.2.cell (p := ⟨w.heap.size, 4, none⟩) (by simp; omega)]; first | exact c7_0_4 | (rw [World.cell?_alloc_lt _ _ _ hs7_0]; exact c7_0_4)
  have e5 : wf.cell? ⟨w.heap.size, 5, none⟩ = some (.int .i64 a5) := by rw [hgat.2.cell (p := ⟨w.heap.size, 5, none⟩) (by simp; omega)]; first | exact c7_0_5 | (rw [World.cell?_alloc_lt _ _ _ hs7_0]; exact c7_0_5)
  have e6 : wf.cell? ⟨w.heap.size, 6, none⟩ = some (.int .i64 a6) := by rw [hgat.2.cell (p := ⟨w.heap.size, 6, none⟩) (by simp; omega)]; first | exact c7_0_6 | (rw [World.cell?_alloc_lt _ _ _ hs7_0]; exact c7_0_6)
  have e7 : wf.cell? ⟨w.heap.size, 7, none⟩ = some (.int .i64 a7) := by rw [hgat.2.cell (p := ⟨w.heap.size, 7, none⟩) (by simp; omega)]; first | exact c7_0_7 | (rw [World.cell?_alloc_lt _ _ _ hs7_0]; exact c7_0_7)
  have e8 : wf.cell? ⟨w.heap.size, 8, none⟩ = some (.int .i64 a8) := by rw [hgat.2.cell (p := ⟨w.heap.size, 8, none⟩) (by simp; omega)]; first | exact c7_0_8 | (rw [World.cell?_alloc_lt _ _ _ hs7_0]; exact c7_0_8)
  have HBF := Lib.hid (hB.trans (hgat.2.mono hB.size))
  have HR1 := Lib.hid hrows
  clear hgat hrows hB hszf c7_0_0 c7_0_1 c7_0_2 c7_0_3 c7_0_4 c7_0_5 c7_0_6 c7_0_7 c7_0_8 c7_1_0 c7_1_1 c7_1_2 c7_2_0 c7_2_1 c7_2_2 c7_3_0 c7_3_1 c7_3_2 c7_4_0 c7_4_1 c7_4_2 c7_5_0 c7_5_1 c7_5_2 c7_6_0 c7_6_1 c7_6_2
  go_wp2_with fail
  refine (Clone31 g1 cap1 n (allK P (P * P * P)) HN.out (by omega) (by omega) _ hg1 HR1.out).mono ?_
  rintro e wg ⟨g2, cap2, rfl, hg2a, hg2b, hrw, hbg⟩
  have HRG := Lib.hid hrw
  have HBG := Lib.hid hbg
  clear hrw hbg
  go_wp2_with fail
  go_loopw [20] (fun s wr => ∃ k : Nat, 1 ≤ k ∧ k ≤ N ∧ s = .int .i64 k ∧ RowsW wr g2 n (fun j => itr (sT P a0 a1 a2 a3 a4 a5 a6 a7 a8) (k - 1) ((allK P (P * P * P)).getD j (0, 0, 0))) ∧ Below wf.heap.size wf wr ∧ g2 < wr.heap.size) (fun s _ => N + 1 - (intOf s).toNat)
  case atStart => exact ⟨1, by omega, by omega, rfl, HRG.out, HBG.out, hg2b⟩
  case round =>
    obtain ⟨k, hk1, hk2, rfl, hrw, hbl, hgs⟩ := hrel
    obtain ⟨wk, rfl⟩ : ∃ wo : World, wo = wr := ⟨_, rfl⟩
    have HRK := Lib.hid (RowsW.congr (pt' := mixL (sT P a0 a1 a2 a3 a4 a5 a6 a7 a8) (fun i => (allK P (P * P * P)).getD i (0, 0, 0)) k 0) hrw (fun j _ => by unfold mixL; rw [if_neg (by omega)]))
    have HBKK := Lib.hid hbl
    clear hrw hbl
    go_wp2_with fail
    go_loopw [119] (fun i wr => ∃ m : Nat, m ≤ n ∧ i = .int .i64 m ∧ RowsW wr g2 n (mixL (sT P a0 a1 a2 a3 a4 a5 a6 a7 a8) (fun i => (allK P (P * P * P)).getD i (0, 0, 0)) k m) ∧ Below wf.heap.size wf wr ∧ g2 < wr.heap.size) (fun i _ => n - (intOf i).toNat)
    case atStart => exact ⟨0, by omega, rfl, HRK.out, HBKK.out, hgs⟩
    case round =>
      clear hgs
      obtain ⟨m, hm, rfl, hrw, hbl, hgs⟩ := hrel
      obtain ⟨wm, rfl⟩ : ∃ wo : World, wo = wr := ⟨_, rfl⟩
      have HRW := Lib.hid hrw
      have HBL := Lib.hid hbl
      by_cases hlt : m < n
      · obtain ⟨⟨x, y, z⟩, hxyz⟩ : ∃ t, itr (sT P a0 a1 a2 a3 a4 a5 a6 a7 a8) (k - 1) ((allK P (P * P * P)).getD m (0, 0, 0)) = t := ⟨_, rfl⟩
        obtain ⟨⟨u0, u1, u2⟩, hu⟩ : ∃ u, (sT P a0 a1 a2 a3 a4 a5 a6 a7 a8) (x, y, z) = u := ⟨_, rfl⟩
        have hu' : (sT P a0 a1 a2 a3 a4 a5 a6 a7 a8) (itr (sT P a0 a1 a2 a3 a4 a5 a6 a7 a8) (k - 1) ((fun i => (allK P (P * P * P)).getD i (0, 0, 0)) m)) = (u0, u1, u2) := by show (sT P a0 a1 a2 a3 a4 a5 a6 a7 a8) (itr (sT P a0 a1 a2 a3 a4 a5 a6 a7 a8) (k - 1) ((allK P (P * P * P)).getD m (0, 0, 0))) = _; rw [hxyz]; exact hu
        obtain ⟨⟨d0, d1, d2⟩, _⟩ := hrw m hlt
        rw [show mixL (sT P a0 a1 a2 a3 a4 a5 a6 a7 a8) (fun i => (allK P (P * P * P)).getD i (0, 0, 0)) k m m = (x, y, z) by unfold mixL; rw [if_neg (by omega)]; exact hxyz] at d0 d1 d2
        dsimp only at d0 d1 d2
        have HU := Lib.hid hu
        have HU2 := Lib.hid hu'
        have hwm : wf.heap.size ≤ wm.heap.size := hbl.size
        have q0 : wm.cell? ⟨w.heap.size, 0, none⟩ = some (.int .i64 a0) := by rw [hbl.cell (p := ⟨w.heap.size, 0, none⟩) hwf]; exact e0
        have q1 : wm.cell? ⟨w.heap.size, 1, none⟩ = some (.int .i64 a1) := by rw [hbl.cell (p := ⟨w.heap.size, 1, none⟩) hwf]; exact e1
        have q2 : wm.cell? ⟨w.heap.size, 2, none⟩ = some (.int .i64 a2) := by rw [hbl.cell (p := ⟨w.heap.size, 2, none⟩) hwf]; exact e2
        have q3 : wm.cell? ⟨w.heap.size, 3, none⟩ = some (.int .i64 a3) := by rw [hbl.cell (p := ⟨w.heap.size, 3, none⟩) hwf]; exact e3
        have q4 : wm.cell? ⟨w.heap.size, 4, none⟩ = some (.int .i64 a4) := by rw [hbl.cell (p := ⟨w.heap.size, 4, none⟩) hwf]; exact e4
        have q5 : wm.cell? ⟨w.heap.size, 5, none⟩ = some (.int .i64 a5) := by rw [hbl.cell (p := ⟨w.heap.size, 5, none⟩) hwf]; exact e5
        have q6 : wm.cell? ⟨w.heap.size, 6, none⟩ = some (.int .i64 a6) := by rw [hbl.cell (p := ⟨w.heap.size, 6, none⟩) hwf]; exact e6
        have q7 : wm.cell? ⟨w.heap.size, 7, none⟩ = some (.int .i64 a7) := by rw [hbl.cell (p := ⟨w.heap.size, 7, none⟩) hwf]; exact e7
        have q8 : wm.cell? ⟨w.heap.size, 8, none⟩ = some (.int .i64 a8) := by rw [hbl.cell (p := ⟨w.heap.size, 8, none⟩) hwf]; exact e8
        have l1 : (0 : Int) ≤ (m : Int) := by omega
        have l2 : (m : Int) < (n : Int) := by omega
        have el : m * 3 = 3 * m := by omega
        have hww : w.heap.size < wm.heap.size := by omega
        clear hrw hbl hxyz hu hu' e0 e1 e2 e3 e4 e5 e6 e7 e8
        have hu' := HU2
        go_upto_region 23 with fail
        refine wp_region_T (Below (wm.heap.size) (wm)) 10 (by kernel_rfl) ?_ ?_
        · exact Below.drew (Below.refl _ _)
        intro HS
        refine wpT_takeP 0 (v := ?_) rfl (by kernel_rfl) (fun _ _ _ h => h) (by rfl) ?_ ?_ ?_
        rotate_left
        · (intro W; go_simp; first | done | with_reducible rfl)
        · (first | (intro _; with_reducible assumption) | (intro h0; cases h0))
        try simp only [Act.put, List.getElem_toArray, List.getElem_cons_zero, List.getElem_cons_succ, List.setIfInBounds_toArray, List.set_cons_zero, List.set_cons_succ]
        refine wpT_takeP 1 (v := ?_) rfl (by kernel_rfl) (fun _ _ _ h => h) (by rfl) ?_ ?_ ?_
        rotate_left
        · (intro W; go_simp; first | done | with_reducible rfl)
        · (first | (intro _; with_reducible assumption) | (intro h0; cases h0))
        try simp only [Act.put, List.getElem_toArray, List.getElem_cons_zero, List.getElem_cons_succ, List.setIfInBounds_toArray, List.set_cons_zero, List.set_cons_succ]
        refine wpT_takeP 3 (v := ?_) rfl (by kernel_rfl) (fun _ _ _ h => h) (by rfl) ?_ ?_ ?_
        rotate_left
        · (intro W; go_simp; first | done | with_reducible rfl)
        · (first | (intro _; with_reducible assumption) | (intro h0; cases h0))
        try simp only [Act.put, List.getElem_toArray, List.getElem_cons_zero, List.getElem_cons_succ, List.setIfInBounds_toArray, List.set_cons_zero, List.set_cons_succ]
        refine wpT_takeP 4 (v := ?_) rfl (by kernel_rfl) (fun _ _ _ h => h) (by rfl) ?_ ?_ ?_
        rotate_left
        · (intro W; go_simp; first | done | with_reducible rfl)
        · (first | (intro _; with_reducible assumption) | (intro h0; cases h0))
        try simp only [Act.put, List.getElem_toArray, List.getElem_cons_zero, List.getElem_cons_succ, List.setIfInBounds_toArray, List.set_cons_zero, List.set_cons_succ]
        refine wpT_takeP 5 (v := ?_) rfl (by kernel_rfl) (fun _ _ _ h => h) (by rfl) ?_ ?_ ?_
        rotate_left
        · (intro W; go_simp; first | done | with_reducible rfl)
        · (first | (intro _; with_reducible assumption) | (intro h0; cases h0))
        try simp only [Act.put, List.getElem_toArray, List.getElem_cons_zero, List.getElem_cons_succ, List.setIfInBounds_toArray, List.set_cons_zero, List.set_cons_succ]
        refine wpT_takeP 7 (v := ?_) rfl (by kernel_rfl) (fun _ _ _ h => h) (by rfl) ?_ ?_ ?_
        rotate_left
        · (intro W; go_simp; first | done | with_reducible rfl)
        · (first | (intro _; with_reducible assumption) | (intro h0; cases h0))
        try simp only [Act.put, List.getElem_toArray, List.getElem_cons_zero, List.getElem_cons_succ, List.setIfInBounds_toArray, List.set_cons_zero, List.set_cons_succ]
        refine wpT_take 2 30 (v := ?_) rfl (by kernel_rfl) (fun _ _ _ h => h) (by rfl) ?_ HS ?_
        rotate_left
        · (intro W hW; have hq0 := fun o => hW.cell (p := ⟨w.heap.size, o, none⟩) (by simp <;> omega); have hq1 := fun o => hW.cell (p := ⟨g2, o, none⟩) (by simp <;> omega); go_simp; first | done | with_reducible rfl)
        try simp only [Act.put, List.getElem_toArray, List.getElem_cons_zero, List.getElem_cons_succ, List.setIfInBounds_toArray, List.set_cons_zero, List.set_cons_succ]
        refine wpT_take 6 30 (v := ?_) rfl (by kernel_rfl) (fun _ _ _ h => h) (by rfl) ?_ HS ?_
        rotate_left
        · (intro W hW; have hq0 := fun o => hW.cell (p := ⟨w.heap.size, o, none⟩) (by simp <;> omega); have hq1 := fun o => hW.cell (p := ⟨g2, o, none⟩) (by simp <;> omega); go_simp; first | done | with_reducible rfl)
        try simp only [Act.put, List.getElem_toArray, List.getElem_cons_zero, List.getElem_cons_succ, List.setIfInBounds_toArray, List.set_cons_zero, List.set_cons_succ]
        refine wpT_one 8 (by kernel_rfl) rfl (fun K hK => ?_)
        go_simp
        refine (mapF30_is _ _ _ _ _ _ _ _ _ _ _ _ _ _ _ _ HP.out HU.out _).mono ?_
        rintro e v1 ⟨rfl, hb⟩
        have HS := Below.trans HS (hb.mono HS.size)
        have HSV := HS
        clear hb
        refine hK.out _ _ ?_ ?_
        · (first | (intro _; with_reducible assumption) | (intro h0; cases h0))
        clear hK K
        try simp only [Act.put, List.getElem_toArray, List.getElem_cons_zero, List.getElem_cons_succ, List.setIfInBounds_toArray, List.set_cons_zero, List.set_cons_succ]
        refine wpT_takeP 9 (v := ?_) rfl (by kernel_rfl) (fun _ _ _ h => h) (by rfl) ?_ ?_ ?_
        rotate_left
        · (intro W; go_simp; first | done | with_reducible rfl)
        · (first | (intro _; with_reducible assumption) | (intro h0; cases h0))
        try simp only [Act.put, List.getElem_toArray, List.getElem_cons_zero, List.getElem_cons_succ, List.setIfInBounds_toArray, List.set_cons_zero, List.set_cons_succ]
        have HRV := Lib.hid (RowsW.below HRW.out HS hgs)
        have hgv : g2 < v1.heap.size := Nat.lt_of_lt_of_le hgs HS.size
        obtain ⟨⟨s0, s1, s2⟩, r0, r1, r2⟩ := HRV.out m hlt
        refine wpT_one 10 (by kernel_rfl) rfl (fun K hK => ?_)
        go_simp
        refine hK.out _ _ ?_ ?_
        · (first | (intro _; with_reducible assumption) | (intro h0; cases h0; done) | (intro _; simp [go_sem]))
        clear hK K
        try simp only [Act.put, List.getElem_toArray, List.getElem_cons_zero, List.getElem_cons_succ, List.setIfInBounds_toArray, List.set_cons_zero, List.set_cons_succ]
        refine wpT_done (by kernel_rfl) ?_ _
        have HRN := Lib.hid (RowsW.congr (RowsW.set HRV.out m hlt u0 u1 u2) (mixL_set hk1 HU2.out))
        have HBN := Lib.hid ((((HBL.out.trans (HS.mono HBL.out.size)).setCell (p := ⟨g2, 3 * m, none⟩) hg2a (.int .i64 u0)).setCell (p := ⟨g2, 3 * m + 1, none⟩) hg2a (.int .i64 u1)).setCell (p := ⟨g2, 3 * m + 2, none⟩) hg2a (.int .i64 u2))
        go_wp2_with fail
        exact ⟨⟨m + 1, by omega, by go_num, HRN.out, HBN.out, by simpa using hgv⟩, by simp [intOf]; omega⟩
      · have hmn : m = n := by omega
        subst hmn
        have HRM := Lib.hid (RowsW.congr (pt' := fun j => itr (sT P a0 a1 a2 a3 a4 a5 a6 a7 a8) k ((allK P (P * P * P)).getD j (0, 0, 0))) hrw (fun j hj => by unfold mixL; rw [if_pos hj]))
        have HR2 := Lib.hid (HR1.out.below hbl hg1)
        clear hrw hbl HRW
        by_cases hkN : k = N
        · subst hkN
          have hrow := RowsAt.congr' HRM.out.rows (f' := fun j => (allK P (P * P * P)).getD j (0, 0, 0)) (fun j hj => HALL.out j hj)
          go_wp2_with fail
          refine (Equal24_same g2 g1 cap2 cap1 m (fun j => (allK P (P * P * P)).getD j (0, 0, 0)) (by omega) _ hrow HR2.out).mono ?_
          rintro e wz ⟨rfl, nd, hwz⟩
          have HZZ := Lib.hid (show Below w.heap.size w wz by rw [hwz]; exact dr_o (HBF.out.trans (HBL.out.mono (by omega))) _)
          clear hwz hrow
          go_wp2_with fail
          go_ret
          exact ⟨rfl, HZZ.out⟩
        · obtain ⟨jd, hjd, hde⟩ := HNOT.out k hk1 (by omega)
          go_wp2_with fail
          refine (Equal24_diff g2 g1 cap2 cap1 m jd (fun j => itr (sT P a0 a1 a2 a3 a4 a5 a6 a7 a8) k ((allK P (P * P * P)).getD j (0, 0, 0))) (fun j => (allK P (P * P * P)).getD j (0, 0, 0)) (by omega) hjd hde _ HRM.out.rows HR2.out).mono ?_
          rintro e wz ⟨rfl, nd, hwz⟩
          have HRZ := Lib.hid (show RowsW wz g2 m (fun j => itr (sT P a0 a1 a2 a3 a4 a5 a6 a7 a8) (k + 1 - 1) ((allK P (P * P * P)).getD j (0, 0, 0))) by rw [hwz]; exact HRM.out)
          have HBZ := Lib.hid (show Below wf.heap.size wf wz by rw [hwz]; exact dr_o HBL.out _)
          have hgz : g2 < wz.heap.size := by rw [hwz]; exact hgs
          clear hwz
          go_wp2_with fail
          exact ⟨⟨k + 1, by omega, by omega, by go_num, HRZ.out, HBZ.out, hgz⟩, by simp [intOf]; omega⟩

set_option maxRecDepth 100000 in
set_option maxHeartbeats 16000000 in
theorem FiniteApply8_ok (P : Nat) (a0 a1 a2 a3 a4 a5 a6 a7 a8 x y z t0 t1 t2 : Int) (N n : Nat) (hp : isP P = true) (hd : gdB P a0 a1 a2 a3 a4 a5 a6 a7 a8 = true) (hN1 : 1 ≤ N) (hN2 : N ≤ 23298085122481) (hback : bk (sT P a0 a1 a2 a3 a4 a5 a6 a7 a8) N 4 = true) (hmin : ∀ k, 1 ≤ k → k < N → bk (sT P a0 a1 a2 a3 a4 a5 a6 a7 a8) k 4 = false) (hn : (allK P (P * P * P)).length = n) (hn1 : 1 ≤ n) (hn2 : n ≤ 2197) (hall : ∀ i, i < n → itr (sT P a0 a1 a2 a3 a4 a5 a6 a7 a8) N ((allK P (P * P * P)).getD i (0, 0, 0)) = (allK P (P * P * P)).getD i (0, 0, 0)) (hnot : ∀ k, 1 ≤ k → k < N → ∃ i, i < n ∧ eqT (itr (sT P a0 a1 a2 a3 a4 a5 a6 a7 a8) k ((allK P (P * P * P)).getD i (0, 0, 0))) ((allK P (P * P * P)).getD i (0, 0, 0)) = false) (hz : zz P x y z = false) (ht : (sT P a0 a1 a2 a3 a4 a5 a6 a7 a8) (x, y, z) = (t0, t1, t2)) (w : World) :
    Calls Try.prog 8 #[.int .i64 P, .agg #[.int .i64 a0, .int .i64 a1, .int .i64 a2, .int .i64 a3, .int .i64 a4, .int .i64 a5, .int .i64 a6, .int .i64 a7, .int .i64 a8], .agg #[.int .i64 x, .int .i64 y, .int .i64 z]] w fun e w' => e = .returned (.bool true) ∧ Below w.heap.size w w' := by
  have HP := Lib.hid hp
  have HD := Lib.hid hd
  have HZ := Lib.hid hz
  have HBK := Lib.hid hback
  have HMIN := Lib.hid hmin
  have HN := Lib.hid hn
  have HALL := Lib.hid hall
  have HNOT := Lib.hid hnot
  clear hback hmin hn hall hnot
  have HT := Lib.hid ht
  clear ht
  obtain ⟨G, hG⟩ : ∃ G, (a0 % (P : Int) * ((a4 % (P : Int) * (a8 % (P : Int)) - a5 % (P : Int) * (a7 % (P : Int))) % (P : Int)) + a1 % (P : Int) * ((a5 % (P : Int) * (a6 % (P : Int)) - a3 % (P : Int) * (a8 % (P : Int))) % (P : Int)) + a2 % (P : Int) * ((a3 % (P : Int) * (a7 % (P : Int)) - a4 % (P : Int) * (a6 % (P : Int))) % (P : Int))) % (P : Int) = G := ⟨_, rfl⟩
  have HG := Lib.hid hG
  have hg0 : (G != 0) = true := by rw [← hG]; exact hd
  obtain ⟨⟨u0, u1, u2⟩, hu⟩ : ∃ u, pl (P : Int) x y z = u := ⟨_, rfl⟩
  have HU := Lib.hid hu
  clear hp hd hz hG hu
  go_enter Try.func8, Try.ntmps8
  go_wp2_with fail
  refine (Apply18_go _ _ _ _ _ _ _ _ _ _ _ _ _ _ _ _ HP.out HD.out HZ.out HT.out _).mono ?_
  rintro e w1 ⟨rfl, hb⟩
  have hsz : w.heap.size + 2 ≤ w1.heap.size := by have := hb.size; simp at this; omega
  have hs1_0 : w.heap.size < w1.heap.size := by omega
  have c1_0_0 : w1.cell? ⟨w.heap.size, 0, none⟩ = some (.int .i64 a0) := by rw [hb.cell (by simp <;> omega)]; first | (simp [go_sem]; done)
  have c1_0_1 : w1.cell? ⟨w.heap.size, 1, none⟩ = some (.int .i64 a1) := by rw [hb.cell (by simp <;> omega)]; first | (simp [go_sem]; done)
  have c1_0_2 : w1.cell? ⟨w.heap.size, 2, none⟩ = some (.int .i64 a2) := by rw [hb.cell (by simp <;> omega)]; first | (simp [go_sem]; done)
  have c1_0_3 : w1.cell? ⟨w.heap.size, 3, none⟩ = some (.int .i64 a3) := by rw [hb.cell (by simp <;> omega)]; first | (simp [go_sem]; done)
  have c1_0_4 : w1.cell? ⟨w.heap.size, 4, none⟩ = some (.int .i64 a4) := by rw [hb.cell (by simp <;> omega)]; first | (simp [go_sem]; done)
  have c1_0_5 : w1.cell? ⟨w.heap.size, 5, none⟩ = some (.int .i64 a5) := by rw [hb.cell (by simp <;> omega)]; first | (simp [go_sem]; done)
  have c1_0_6 : w1.cell? ⟨w.heap.size, 6, none⟩ = some (.int .i64 a6) := by rw [hb.cell (by simp <;> omega)]; first | (simp [go_sem]; done)
  have c1_0_7 : w1.cell? ⟨w.heap.size, 7, none⟩ = some (.int .i64 a7) := by rw [hb.cell (by simp <;> omega)]; first | (simp [go_sem]; done)
  have c1_0_8 : w1.cell? ⟨w.heap.size, 8, none⟩ = some (.int .i64 a8) := by rw [hb.cell (by simp <;> omega)]; first | (simp [go_sem]; done)
  have hs1_1 : w.heap.size + 1 < w1.heap.size := by omega
  have c1_1_0 : w1.cell? ⟨w.heap.size + 1, 0, none⟩ = some (.int .i64 x) := by rw [hb.cell (by simp <;> omega)]; first | (simp [go_sem]; done)
  have c1_1_1 : w1.cell? ⟨w.heap.size + 1, 1, none⟩ = some (.int .i64 y) := by rw [hb.cell (by simp <;> omega)]; first | (simp [go_sem]; done)
  have c1_1_2 : w1.cell? ⟨w.heap.size + 1, 2, none⟩ = some (.int .i64 z) := by rw [hb.cell (by simp <;> omega)]; first | (simp [go_sem]; done)
  have HB1 := Lib.hid (Below.trans ((ba_c ((ba_c (Below.refl w.heap.size w) (Nat.le_refl _) _)) (Nat.le_refl _) _)) (hb.mono (Below.size ((ba_c ((ba_c (Below.refl w.heap.size w) (Nat.le_refl _) _)) (Nat.le_refl _) _)))))
  clear hb hsz
  go_wp2_with fail
  refine (Order28_go N _ _ _ _ _ _ _ _ _ _ HP.out HD.out hN1 hN2 HBK HMIN _).mono ?_
  rintro e w2 ⟨rfl, hb⟩
  have hsz : w1.heap.size + 1 ≤ w2.heap.size := by have := hb.size; simp at this; omega
  have hs2_0 : w.heap.size < w2.heap.size := by omega
  have c2_0_0 : w2.cell? ⟨w.heap.size, 0, none⟩ = some (.int .i64 a0) := by rw [hb.cell (by simp <;> omega)]; first | exact c1_0_0 | (rw [World.cell?_alloc_lt _ _ _ hs1_0]; exact c1_0_0) | (simp [go_sem]; done)
  have c2_0_1 : w2.cell? ⟨w.heap.size, 1, none⟩ = some (.int .i64 a1) := by rw [hb.cell (by simp <;> omega)]; first | exact c1_0_1 | (rw [World.cell?_alloc_lt _ _ _ hs1_0]; exact c1_0_1) | (simp [go_sem]; done)
  have c2_0_2 : w2.cell? ⟨w.heap.size, 2, none⟩ = some (.int .i64 a2) := by rw [hb.cell (by simp <;> omega)]; first | exact c1_0_2 | (rw [World.cell?_alloc_lt _ _ _ hs1_0]; exact c1_0_2) | (simp [go_sem]; done)
  have c2_0_3 : w2.cell? ⟨w.heap.size, 3, none⟩ = some (.int .i64 a3) := by rw [hb.cell (by simp <;> omega)]; first | exact c1_0_3 | (rw [World.cell?_alloc_lt _ _ _ hs1_0]; exact c1_0_3) | (simp [go_sem]; done)
  have c2_0_4 : w2.cell? ⟨w.heap.size, 4, none⟩ = some (.int .i64 a4) := by rw [hb.cell (by simp <;> omega)]; first | exact c1_0_4 | (rw [World.cell?_alloc_lt _ _ _ hs1_0]; exact c1_0_4) | (simp [go_sem]; done)
  have c2_0_5 : w2.cell? ⟨w.heap.size, 5, none⟩ = some (.int .i64 a5) := by rw [hb.cell (by simp <;> omega)]; first | exact c1_0_5 | (rw [World.cell?_alloc_lt _ _ _ hs1_0]; exact c1_0_5) | (simp [go_sem]; done)
  have c2_0_6 : w2.cell? ⟨w.heap.size, 6, none⟩ = some (.int .i64 a6) := by rw [hb.cell (by simp <;> omega)]; first | exact c1_0_6 | (rw [World.cell?_alloc_lt _ _ _ hs1_0]; exact c1_0_6) | (simp [go_sem]; done)
  have c2_0_7 : w2.cell? ⟨w.heap.size, 7, none⟩ = some (.int .i64 a7) := by rw [hb.cell (by simp <;> omega)]; first | exact c1_0_7 | (rw [World.cell?_alloc_lt _ _ _ hs1_0]; exact c1_0_7) | (simp [go_sem]; done)
  have c2_0_8 : w2.cell? ⟨w.heap.size, 8, none⟩ = some (.int .i64 a8) := by rw [hb.cell (by simp <;> omega)]; first | exact c1_0_8 | (rw [World.cell?_alloc_lt _ _ _ hs1_0]; exact c1_0_8) | (simp [go_sem]; done)
  have hs2_1 : w.heap.size + 1 < w2.heap.size := by omega
  have c2_1_0 : w2.cell? ⟨w.heap.size + 1, 0, none⟩ = some (.int .i64 x) := by rw [hb.cell (by simp <;> omega)]; first | exact c1_1_0 | (rw [World.cell?_alloc_lt _ _ _ hs1_1]; exact c1_1_0) | (simp [go_sem]; done)
  have c2_1_1 : w2.cell? ⟨w.heap.size + 1, 1, none⟩ = some (.int .i64 y) := by rw [hb.cell (by simp <;> omega)]; first | exact c1_1_1 | (rw [World.cell?_alloc_lt _ _ _ hs1_1]; exact c1_1_1) | (simp [go_sem]; done)
  have c2_1_2 : w2.cell? ⟨w.heap.size + 1, 2, none⟩ = some (.int .i64 z) := by rw [hb.cell (by simp <;> omega)]; first | exact c1_1_2 | (rw [World.cell?_alloc_lt _ _ _ hs1_1]; exact c1_1_2) | (simp [go_sem]; done)
  have hs2_2 : w1.heap.size < w2.heap.size := by omega
  have c2_2_0 : w2.cell? ⟨w1.heap.size, 0, none⟩ = some (.int .i64 t0) := by rw [hb.cell (by simp <;> omega)]; first | (simp [go_sem]; done)
  have c2_2_1 : w2.cell? ⟨w1.heap.size, 1, none⟩ = some (.int .i64 t1) := by rw [hb.cell (by simp <;> omega)]; first | (simp [go_sem]; done)
  have c2_2_2 : w2.cell? ⟨w1.heap.size, 2, none⟩ = some (.int .i64 t2) := by rw [hb.cell (by simp <;> omega)]; first | (simp [go_sem]; done)
  have HB2 := Lib.hid (Below.trans ((ba_c (HB1.out) (Nat.le_refl _) _)) (hb.mono (Below.size ((ba_c (HB1.out) (Nat.le_refl _) _)))))
  clear hb hsz c1_0_0 c1_0_1 c1_0_2 c1_0_3 c1_0_4 c1_0_5 c1_0_6 c1_0_7 c1_0_8 c1_1_0 c1_1_1 c1_1_2 hs1_0 hs1_1
  go_wp2_with fail
  refine (counted14 _).mono ?_
  rintro e w3 ⟨rfl, hb⟩
  have hsz : w2.heap.size + 1 ≤ w3.heap.size := by have := hb.size; simp at this; omega
  have hs3_0 : w.heap.size < w3.heap.size := by omega
  have c3_0_0 : w3.cell? ⟨w.heap.size, 0, none⟩ = some (.int .i64 a0) := by rw [hb.cell (by simp <;> omega)]; first | exact c2_0_0 | (rw [World.cell?_alloc_lt _ _ _ hs2_0]; exact c2_0_0) | (simp [go_sem]; done)
  have c3_0_1 : w3.cell? ⟨w.heap.size, 1, none⟩ = some (.int .i64 a1) := by rw [hb.cell (by simp <;> omega)]; first | exact c2_0_1 | (rw [World.cell?_alloc_lt _ _ _ hs2_0]; exact c2_0_1) | (simp [go_sem]; done)
  have c3_0_2 : w3.cell? ⟨w.heap.size, 2, none⟩ = some (.int .i64 a2) := by rw [hb.cell (by simp <;> omega)]; first | exact c2_0_2 | (rw [World.cell?_alloc_lt _ _ _ hs2_0]; exact c2_0_2) | (simp [go_sem]; done)
  have c3_0_3 : w3.cell? ⟨w.heap.size, 3, none⟩ = some (.int .i64 a3) := by rw [hb.cell (by simp <;> omega)]; first | exact c2_0_3 | (rw [World.cell?_alloc_lt _ _ _ hs2_0]; exact c2_0_3) | (simp [go_sem]; done)
  have c3_0_4 : w3.cell? ⟨w.heap.size, 4, none⟩ = some (.int .i64 a4) := by rw [hb.cell (by simp <;> omega)]; first | exact c2_0_4 | (rw [World.cell?_alloc_lt _ _ _ hs2_0]; exact c2_0_4) | (simp [go_sem]; done)
  have c3_0_5 : w3.cell? ⟨w.heap.size, 5, none⟩ = some (.int .i64 a5) := by rw [hb.cell (by simp <;> omega)]; first | exact c2_0_5 | (rw [World.cell?_alloc_lt _ _ _ hs2_0]; exact c2_0_5) | (simp [go_sem]; done)
  have c3_0_6 : w3.cell? ⟨w.heap.size, 6, none⟩ = some (.int .i64 a6) := by rw [hb.cell (by simp <;> omega)]; first | exact c2_0_6 | (rw [World.cell?_alloc_lt _ _ _ hs2_0]; exact c2_0_6) | (simp [go_sem]; done)
  have c3_0_7 : w3.cell? ⟨w.heap.size, 7, none⟩ = some (.int .i64 a7) := by rw [hb.cell (by simp <;> omega)]; first | exact c2_0_7 | (rw [World.cell?_alloc_lt _ _ _ hs2_0]; exact c2_0_7) | (simp [go_sem]; done)
  have c3_0_8 : w3.cell? ⟨w.heap.size, 8, none⟩ = some (.int .i64 a8) := by rw [hb.cell (by simp <;> omega)]; first | exact c2_0_8 | (rw [World.cell?_alloc_lt _ _ _ hs2_0]; exact c2_0_8) | (simp [go_sem]; done)
  have hs3_1 : w.heap.size + 1 < w3.heap.size := by omega
  have c3_1_0 : w3.cell? ⟨w.heap.size + 1, 0, none⟩ = some (.int .i64 x) := by rw [hb.cell (by simp <;> omega)]; first | exact c2_1_0 | (rw [World.cell?_alloc_lt _ _ _ hs2_1]; exact c2_1_0) | (simp [go_sem]; done)
  have c3_1_1 : w3.cell? ⟨w.heap.size + 1, 1, none⟩ = some (.int .i64 y) := by rw [hb.cell (by simp <;> omega)]; first | exact c2_1_1 | (rw [World.cell?_alloc_lt _ _ _ hs2_1]; exact c2_1_1) | (simp [go_sem]; done)
  have c3_1_2 : w3.cell? ⟨w.heap.size + 1, 2, none⟩ = some (.int .i64 z) := by rw [hb.cell (by simp <;> omega)]; first | exact c2_1_2 | (rw [World.cell?_alloc_lt _ _ _ hs2_1]; exact c2_1_2) | (simp [go_sem]; done)
  have hs3_2 : w1.heap.size < w3.heap.size := by omega
  have c3_2_0 : w3.cell? ⟨w1.heap.size, 0, none⟩ = some (.int .i64 t0) := by rw [hb.cell (by simp <;> omega)]; first | exact c2_2_0 | (rw [World.cell?_alloc_lt _ _ _ hs2_2]; exact c2_2_0) | (simp [go_sem]; done)
  have c3_2_1 : w3.cell? ⟨w1.heap.size, 1, none⟩ = some (.int .i64 t1) := by rw [hb.cell (by simp <;> omega)]; first | exact c2_2_1 | (rw [World.cell?_alloc_lt _ _ _ hs2_2]; exact c2_2_1) | (simp [go_sem]; done)
  have c3_2_2 : w3.cell? ⟨w1.heap.size, 2, none⟩ = some (.int .i64 t2) := by rw [hb.cell (by simp <;> omega)]; first | exact c2_2_2 | (rw [World.cell?_alloc_lt _ _ _ hs2_2]; exact c2_2_2) | (simp [go_sem]; done)
  have hs3_3 : w2.heap.size < w3.heap.size := by omega
  have c3_3_0 : w3.cell? ⟨w2.heap.size, 0, none⟩ = some (.int .i64 0) := by rw [hb.cell (by simp <;> omega)]; first | (simp [go_sem]; done)
  have c3_3_1 : w3.cell? ⟨w2.heap.size, 1, none⟩ = some (.int .i64 0) := by rw [hb.cell (by simp <;> omega)]; first | (simp [go_sem]; done)
  have c3_3_2 : w3.cell? ⟨w2.heap.size, 2, none⟩ = some (.int .i64 0) := by rw [hb.cell (by simp <;> omega)]; first | (simp [go_sem]; done)
  have HB3 := Lib.hid (Below.trans ((ba_c (HB2.out) (Nat.le_refl _) _)) (hb.mono (Below.size ((ba_c (HB2.out) (Nat.le_refl _) _)))))
  clear hb hsz c2_0_0 c2_0_1 c2_0_2 c2_0_3 c2_0_4 c2_0_5 c2_0_6 c2_0_7 c2_0_8 c2_1_0 c2_1_1 c2_1_2 c2_2_0 c2_2_1 c2_2_2 hs2_0 hs2_1 hs2_2
  go_wp2_with fail
  refine (isPrime15_yes _ HP.out _).mono ?_
  rintro e w4 ⟨rfl, hb⟩
  have hsz : w3.heap.size ≤ w4.heap.size := hb.size
  have hs4_0 : w.heap.size < w4.heap.size := by omega
  have c4_0_0 : w4.cell? ⟨w.heap.size, 0, none⟩ = some (.int .i64 a0) := by rw [hb.cell (by simp <;> omega)]; first | exact c3_0_0 | (rw [World.cell?_alloc_lt _ _ _ hs3_0]; exact c3_0_0) | (simp [go_sem]; done)
  have c4_0_1 : w4.cell? ⟨w.heap.size, 1, none⟩ = some (.int .i64 a1) := by rw [hb.cell (by simp <;> omega)]; first | exact c3_0_1 | (rw [World.cell?_alloc_lt _ _ _ hs3_0]; exact c3_0_1) | (simp [go_sem]; done)
  have c4_0_2 : w4.cell? ⟨w.heap.size, 2, none⟩ = some (.int .i64 a2) := by rw [hb.cell (by simp <;> omega)]; first | exact c3_0_2 | (rw [World.cell?_alloc_lt _ _ _ hs3_0]; exact c3_0_2) | (simp [go_sem]; done)
  have c4_0_3 : w4.cell? ⟨w.heap.size, 3, none⟩ = some (.int .i64 a3) := by rw [hb.cell (by simp <;> omega)]; first | exact c3_0_3 | (rw [World.cell?_alloc_lt _ _ _ hs3_0]; exact c3_0_3) | (simp [go_sem]; done)
  have c4_0_4 : w4.cell? ⟨w.heap.size, 4, none⟩ = some (.int .i64 a4) := by rw [hb.cell (by simp <;> omega)]; first | exact c3_0_4 | (rw [World.cell?_alloc_lt _ _ _ hs3_0]; exact c3_0_4) | (simp [go_sem]; done)
  have c4_0_5 : w4.cell? ⟨w.heap.size, 5, none⟩ = some (.int .i64 a5) := by rw [hb.cell (by simp <;> omega)]; first | exact c3_0_5 | (rw [World.cell?_alloc_lt _ _ _ hs3_0]; exact c3_0_5) | (simp [go_sem]; done)
  have c4_0_6 : w4.cell? ⟨w.heap.size, 6, none⟩ = some (.int .i64 a6) := by rw [hb.cell (by simp <;> omega)]; first | exact c3_0_6 | (rw [World.cell?_alloc_lt _ _ _ hs3_0]; exact c3_0_6) | (simp [go_sem]; done)
  have c4_0_7 : w4.cell? ⟨w.heap.size, 7, none⟩ = some (.int .i64 a7) := by rw [hb.cell (by simp <;> omega)]; first | exact c3_0_7 | (rw [World.cell?_alloc_lt _ _ _ hs3_0]; exact c3_0_7) | (simp [go_sem]; done)
  have c4_0_8 : w4.cell? ⟨w.heap.size, 8, none⟩ = some (.int .i64 a8) := by rw [hb.cell (by simp <;> omega)]; first | exact c3_0_8 | (rw [World.cell?_alloc_lt _ _ _ hs3_0]; exact c3_0_8) | (simp [go_sem]; done)
  have hs4_1 : w.heap.size + 1 < w4.heap.size := by omega
  have c4_1_0 : w4.cell? ⟨w.heap.size + 1, 0, none⟩ = some (.int .i64 x) := by rw [hb.cell (by simp <;> omega)]; first | exact c3_1_0 | (rw [World.cell?_alloc_lt _ _ _ hs3_1]; exact c3_1_0) | (simp [go_sem]; done)
  have c4_1_1 : w4.cell? ⟨w.heap.size + 1, 1, none⟩ = some (.int .i64 y) := by rw [hb.cell (by simp <;> omega)]; first | exact c3_1_1 | (rw [World.cell?_alloc_lt _ _ _ hs3_1]; exact c3_1_1) | (simp [go_sem]; done)
  have c4_1_2 : w4.cell? ⟨w.heap.size + 1, 2, none⟩ = some (.int .i64 z) := by rw [hb.cell (by simp <;> omega)]; first | exact c3_1_2 | (rw [World.cell?_alloc_lt _ _ _ hs3_1]; exact c3_1_2) | (simp [go_sem]; done)
  have hs4_2 : w1.heap.size < w4.heap.size := by omega
  have c4_2_0 : w4.cell? ⟨w1.heap.size, 0, none⟩ = some (.int .i64 t0) := by rw [hb.cell (by simp <;> omega)]; first | exact c3_2_0 | (rw [World.cell?_alloc_lt _ _ _ hs3_2]; exact c3_2_0) | (simp [go_sem]; done)
  have c4_2_1 : w4.cell? ⟨w1.heap.size, 1, none⟩ = some (.int .i64 t1) := by rw [hb.cell (by simp <;> omega)]; first | exact c3_2_1 | (rw [World.cell?_alloc_lt _ _ _ hs3_2]; exact c3_2_1) | (simp [go_sem]; done)
  have c4_2_2 : w4.cell? ⟨w1.heap.size, 2, none⟩ = some (.int .i64 t2) := by rw [hb.cell (by simp <;> omega)]; first | exact c3_2_2 | (rw [World.cell?_alloc_lt _ _ _ hs3_2]; exact c3_2_2) | (simp [go_sem]; done)
  have hs4_3 : w2.heap.size < w4.heap.size := by omega
  have c4_3_0 : w4.cell? ⟨w2.heap.size, 0, none⟩ = some (.int .i64 0) := by rw [hb.cell (by simp <;> omega)]; first | exact c3_3_0 | (rw [World.cell?_alloc_lt _ _ _ hs3_3]; exact c3_3_0) | (simp [go_sem]; done)
  have c4_3_1 : w4.cell? ⟨w2.heap.size, 1, none⟩ = some (.int .i64 0) := by rw [hb.cell (by simp <;> omega)]; first | exact c3_3_1 | (rw [World.cell?_alloc_lt _ _ _ hs3_3]; exact c3_3_1) | (simp [go_sem]; done)
  have c4_3_2 : w4.cell? ⟨w2.heap.size, 2, none⟩ = some (.int .i64 0) := by rw [hb.cell (by simp <;> omega)]; first | exact c3_3_2 | (rw [World.cell?_alloc_lt _ _ _ hs3_3]; exact c3_3_2) | (simp [go_sem]; done)
  have HB4 := Lib.hid (Below.trans (HB3.out) (hb.mono (Below.size (HB3.out))))
  clear hb hsz c3_0_0 c3_0_1 c3_0_2 c3_0_3 c3_0_4 c3_0_5 c3_0_6 c3_0_7 c3_0_8 c3_1_0 c3_1_1 c3_1_2 c3_2_0 c3_2_1 c3_2_2 c3_3_0 c3_3_1 c3_3_2 hs3_0 hs3_1 hs3_2 hs3_3
  go_wp2_with fail
  refine (rowsF29 _ _ _ _ _ _ _ _ _ _).mono ?_
  rintro e w5 ⟨rfl, hb⟩
  have hsz : w4.heap.size ≤ w5.heap.size := hb.size
  have hs5_0 : w.heap.size < w5.heap.size := by omega
  have c5_0_0 : w5.cell? ⟨w.heap.size, 0, none⟩ = some (.int .i64 a0) := by rw [hb.cell (by simp <;> omega)]; first | exact c4_0_0 | (rw [World.cell?_alloc_lt _ _ _ hs4_0]; exact c4_0_0) | (simp [go_sem]; done)
  have c5_0_1 : w5.cell? ⟨w.heap.size, 1, none⟩ = some (.int .i64 a1) := by rw [hb.cell (by simp <;> omega)]; first | exact c4_0_1 | (rw [World.cell?_alloc_lt _ _ _ hs4_0]; exact c4_0_1) | (simp [go_sem]; done)
  have c5_0_2 : w5.cell? ⟨w.heap.size, 2, none⟩ = some (.int .i64 a2) := by rw [hb.cell (by simp <;> omega)]; first | exact c4_0_2 | (rw [World.cell?_alloc_lt _ _ _ hs4_0]; exact c4_0_2) | (simp [go_sem]; done)
  have c5_0_3 : w5.cell? ⟨w.heap.size, 3, none⟩ = some (.int .i64 a3) := by rw [hb.cell (by simp <;> omega)]; first | exact c4_0_3 | (rw [World.cell?_alloc_lt _ _ _ hs4_0]; exact c4_0_3) | (simp [go_sem]; done)
  have c5_0_4 : w5.cell? ⟨w.heap.size, 4, none⟩ = some (.int .i64 a4) := by rw [hb.cell (by simp <;> omega)]; first | exact c4_0_4 | (rw [World.cell?_alloc_lt _ _ _ hs4_0]; exact c4_0_4) | (simp [go_sem]; done)
  have c5_0_5 : w5.cell? ⟨w.heap.size, 5, none⟩ = some (.int .i64 a5) := by rw [hb.cell (by simp <;> omega)]; first | exact c4_0_5 | (rw [World.cell?_alloc_lt _ _ _ hs4_0]; exact c4_0_5) | (simp [go_sem]; done)
  have c5_0_6 : w5.cell? ⟨w.heap.size, 6, none⟩ = some (.int .i64 a6) := by rw [hb.cell (by simp <;> omega)]; first | exact c4_0_6 | (rw [World.cell?_alloc_lt _ _ _ hs4_0]; exact c4_0_6) | (simp [go_sem]; done)
  have c5_0_7 : w5.cell? ⟨w.heap.size, 7, none⟩ = some (.int .i64 a7) := by rw [hb.cell (by simp <;> omega)]; first | exact c4_0_7 | (rw [World.cell?_alloc_lt _ _ _ hs4_0]; exact c4_0_7) | (simp [go_sem]; done)
  have c5_0_8 : w5.cell? ⟨w.heap.size, 8, none⟩ = some (.int .i64 a8) := by rw [hb.cell (by simp <;> omega)]; first | exact c4_0_8 | (rw [World.cell?_alloc_lt _ _ _ hs4_0]; exact c4_0_8) | (simp [go_sem]; done)
  have hs5_1 : w.heap.size + 1 < w5.heap.size := by omega
  have c5_1_0 : w5.cell? ⟨w.heap.size + 1, 0, none⟩ = some (.int .i64 x) := by rw [hb.cell (by simp <;> omega)]; first | exact c4_1_0 | (rw [World.cell?_alloc_lt _ _ _ hs4_1]; exact c4_1_0) | (simp [go_sem]; done)
  have c5_1_1 : w5.cell? ⟨w.heap.size + 1, 1, none⟩ = some (.int .i64 y) := by rw [hb.cell (by simp <;> omega)]; first | exact c4_1_1 | (rw [World.cell?_alloc_lt _ _ _ hs4_1]; exact c4_1_1) | (simp [go_sem]; done)
  have c5_1_2 : w5.cell? ⟨w.heap.size + 1, 2, none⟩ = some (.int .i64 z) := by rw [hb.cell (by simp <;> omega)]; first | exact c4_1_2 | (rw [World.cell?_alloc_lt _ _ _ hs4_1]; exact c4_1_2) | (simp [go_sem]; done)
  have hs5_2 : w1.heap.size < w5.heap.size := by omega
  have c5_2_0 : w5.cell? ⟨w1.heap.size, 0, none⟩ = some (.int .i64 t0) := by rw [hb.cell (by simp <;> omega)]; first | exact c4_2_0 | (rw [World.cell?_alloc_lt _ _ _ hs4_2]; exact c4_2_0) | (simp [go_sem]; done)
  have c5_2_1 : w5.cell? ⟨w1.heap.size, 1, none⟩ = some (.int .i64 t1) := by rw [hb.cell (by simp <;> omega)]; first | exact c4_2_1 | (rw [World.cell?_alloc_lt _ _ _ hs4_2]; exact c4_2_1) | (simp [go_sem]; done)
  have c5_2_2 : w5.cell? ⟨w1.heap.size, 2, none⟩ = some (.int .i64 t2) := by rw [hb.cell (by simp <;> omega)]; first | exact c4_2_2 | (rw [World.cell?_alloc_lt _ _ _ hs4_2]; exact c4_2_2) | (simp [go_sem]; done)
  have hs5_3 : w2.heap.size < w5.heap.size := by omega
  have c5_3_0 : w5.cell? ⟨w2.heap.size, 0, none⟩ = some (.int .i64 0) := by rw [hb.cell (by simp <;> omega)]; first | exact c4_3_0 | (rw [World.cell?_alloc_lt _ _ _ hs4_3]; exact c4_3_0) | (simp [go_sem]; done)
  have c5_3_1 : w5.cell? ⟨w2.heap.size, 1, none⟩ = some (.int .i64 0) := by rw [hb.cell (by simp <;> omega)]; first | exact c4_3_1 | (rw [World.cell?_alloc_lt _ _ _ hs4_3]; exact c4_3_1) | (simp [go_sem]; done)
  have c5_3_2 : w5.cell? ⟨w2.heap.size, 2, none⟩ = some (.int .i64 0) := by rw [hb.cell (by simp <;> omega)]; first | exact c4_3_2 | (rw [World.cell?_alloc_lt _ _ _ hs4_3]; exact c4_3_2) | (simp [go_sem]; done)
  have HB5 := Lib.hid (Below.trans (HB4.out) (hb.mono (Below.size (HB4.out))))
  clear hb hsz c4_0_0 c4_0_1 c4_0_2 c4_0_3 c4_0_4 c4_0_5 c4_0_6 c4_0_7 c4_0_8 c4_1_0 c4_1_1 c4_1_2 c4_2_0 c4_2_1 c4_2_2 c4_3_0 c4_3_1 c4_3_2 hs4_0 hs4_1 hs4_2 hs4_3
  go_wp2_with fail
  refine (detF16_is _ _ _ _ _ _ _ _ _ _ _ HP.out HG.out _).mono ?_
  rintro e w6 ⟨rfl, hb⟩
  have hsz : w5.heap.size + 3 ≤ w6.heap.size := by have := hb.size; simp at this; omega
  have hs6_0 : w.heap.size < w6.heap.size := by omega
  have c6_0_0 : w6.cell? ⟨w.heap.size, 0, none⟩ = some (.int .i64 a0) := by rw [hb.cell (by simp <;> omega)]; first | exact c5_0_0 | (rw [World.cell?_alloc_lt _ _ _ hs5_0]; exact c5_0_0) | (rw [World.cell?_alloc_lt _ _ _ (by simp <;> omega), World.cell?_alloc_lt _ _ _ (by simp <;> omega), World.cell?_alloc_lt _ _ _ (by simp <;> omega)]; exact c5_0_0) | (simp [go_sem]; done)
  have c6_0_1 : w6.cell? ⟨w.heap.size, 1, none⟩ = some (.int .i64 a1) := by rw [hb.cell (by simp <;> omega)]; first | exact c5_0_1 | (rw [World.cell?_alloc_lt _ _ _ hs5_0]; exact c5_0_1) | (rw [World.cell?_alloc_lt _ _ _ (by simp <;> omega), World.cell?_alloc_lt _ _ _ (by simp <;> omega), World.cell?_alloc_lt _ _ _ (by simp <;> omega)]; exact c5_0_1) | (simp [go_sem]; done)
  have c6_0_2 : w6.cell? ⟨w.heap.size, 2, none⟩ = some (.int .i64 a2) := by rw [hb.cell (by simp <;> omega)]; first | exact c5_0_2 | (rw [World.cell?_alloc_lt _ _ _ hs5_0]; exact c5_0_2) | (rw [World.cell?_alloc_lt _ _ _ (by simp <;> omega), World.cell?_alloc_lt _ _ _ (by simp <;> omega), World.cell?_alloc_lt _ _ _ (by simp <;> omega)]; exact c5_0_2) | (simp [go_sem]; done)
  have c6_0_3 : w6.cell? ⟨w.heap.size, 3, none⟩ = some (.int .i64 a3) := by rw [hb.cell (by simp <;> omega)]; first | exact c5_0_3 | (rw [World.cell?_alloc_lt _ _ _ hs5_0]; exact c5_0_3) | (rw [World.cell?_alloc_lt _ _ _ (by simp <;> omega), World.cell?_alloc_lt _ _ _ (by simp <;> omega), World.cell?_alloc_lt _ _ _ (by simp <;> omega)]; exact c5_0_3) | (simp [go_sem]; done)
  have c6_0_4 : w6.cell? ⟨w.heap.size, 4, none⟩ = some (.int .i64 a4) := by rw [hb.cell (by simp <;> omega)]; first | exact c5_0_4 | (rw [World.cell?_alloc_lt _ _ _ hs5_0]; exact c5_0_4) | (rw [World.cell?_alloc_lt _ _ _ (by simp <;> omega), World.cell?_alloc_lt _ _ _ (by simp <;> omega), World.cell?_alloc_lt _ _ _ (by simp <;> omega)]; exact c5_0_4) | (simp [go_sem]; done)
  have c6_0_5 : w6.cell? ⟨w.heap.size, 5, none⟩ = some (.int .i64 a5) := by rw [hb.cell (by simp <;> omega)]; first | exact c5_0_5 | (rw [World.cell?_alloc_lt _ _ _ hs5_0]; exact c5_0_5) | (rw [World.cell?_alloc_lt _ _ _ (by simp <;> omega), World.cell?_alloc_lt _ _ _ (by simp <;> omega), World.cell?_alloc_lt _ _ _ (by simp <;> omega)]; exact c5_0_5) | (simp [go_sem]; done)
  have c6_0_6 : w6.cell? ⟨w.heap.size, 6, none⟩ = some (.int .i64 a6) := by rw [hb.cell (by simp <;> omega)]; first | exact c5_0_6 | (rw [World.cell?_alloc_lt _ _ _ hs5_0]; exact c5_0_6) | (rw [World.cell?_alloc_lt _ _ _ (by simp <;> omega), World.cell?_alloc_lt _ _ _ (by simp <;> omega), World.cell?_alloc_lt _ _ _ (by simp <;> omega)]; exact c5_0_6) | (simp [go_sem]; done)
  have c6_0_7 : w6.cell? ⟨w.heap.size, 7, none⟩ = some (.int .i64 a7) := by rw [hb.cell (by simp <;> omega)]; first | exact c5_0_7 | (rw [World.cell?_alloc_lt _ _ _ hs5_0]; exact c5_0_7) | (rw [World.cell?_alloc_lt _ _ _ (by simp <;> omega), World.cell?_alloc_lt _ _ _ (by simp <;> omega), World.cell?_alloc_lt _ _ _ (by simp <;> omega)]; exact c5_0_7) | (simp [go_sem]; done)
  have c6_0_8 : w6.cell? ⟨w.heap.size, 8, none⟩ = some (.int .i64 a8) := by rw [hb.cell (by simp <;> omega)]; first | exact c5_0_8 | (rw [World.cell?_alloc_lt _ _ _ hs5_0]; exact c5_0_8) | (rw [World.cell?_alloc_lt _ _ _ (by simp <;> omega), World.cell?_alloc_lt _ _ _ (by simp <;> omega), World.cell?_alloc_lt _ _ _ (by simp <;> omega)]; exact c5_0_8) | (simp [go_sem]; done)
  have hs6_1 : w.heap.size + 1 < w6.heap.size := by omega
  have c6_1_0 : w6.cell? ⟨w.heap.size + 1, 0, none⟩ = some (.int .i64 x) := by rw [hb.cell (by simp <;> omega)]; first | exact c5_1_0 | (rw [World.cell?_alloc_lt _ _ _ hs5_1]; exact c5_1_0) | (rw [World.cell?_alloc_lt _ _ _ (by simp <;> omega), World.cell?_alloc_lt _ _ _ (by simp <;> omega), World.cell?_alloc_lt _ _ _ (by simp <;> omega)]; exact c5_1_0) | (simp [go_sem]; done)
  have c6_1_1 : w6.cell? ⟨w.heap.size + 1, 1, none⟩ = some (.int .i64 y) := by rw [hb.cell (by simp <;> omega)]; first | exact c5_1_1 | (rw [World.cell?_alloc_lt _ _ _ hs5_1]; exact c5_1_1) | (rw [World.cell?_alloc_lt _ _ _ (by simp <;> omega), World.cell?_alloc_lt _ _ _ (by simp <;> omega), World.cell?_alloc_lt _ _ _ (by simp <;> omega)]; exact c5_1_1) | (simp [go_sem]; done)
  have c6_1_2 : w6.cell? ⟨w.heap.size + 1, 2, none⟩ = some (.int .i64 z) := by rw [hb.cell (by simp <;> omega)]; first | exact c5_1_2 | (rw [World.cell?_alloc_lt _ _ _ hs5_1]; exact c5_1_2) | (rw [World.cell?_alloc_lt _ _ _ (by simp <;> omega), World.cell?_alloc_lt _ _ _ (by simp <;> omega), World.cell?_alloc_lt _ _ _ (by simp <;> omega)]; exact c5_1_2) | (simp [go_sem]; done)
  have hs6_2 : w1.heap.size < w6.heap.size := by omega
  have c6_2_0 : w6.cell? ⟨w1.heap.size, 0, none⟩ = some (.int .i64 t0) := by rw [hb.cell (by simp <;> omega)]; first | exact c5_2_0 | (rw [World.cell?_alloc_lt _ _ _ hs5_2]; exact c5_2_0) | (rw [World.cell?_alloc_lt _ _ _ (by simp <;> omega), World.cell?_alloc_lt _ _ _ (by simp <;> omega), World.cell?_alloc_lt _ _ _ (by simp <;> omega)]; exact c5_2_0) | (simp [go_sem]; done)
  have c6_2_1 : w6.cell? ⟨w1.heap.size, 1, none⟩ = some (.int .i64 t1) := by rw [hb.cell (by simp <;> omega)]; first | exact c5_2_1 | (rw [World.cell?_alloc_lt _ _ _ hs5_2]; exact c5_2_1) | (rw [World.cell?_alloc_lt _ _ _ (by simp <;> omega), World.cell?_alloc_lt _ _ _ (by simp <;> omega), World.cell?_alloc_lt _ _ _ (by simp <;> omega)]; exact c5_2_1) | (simp [go_sem]; done)
  have c6_2_2 : w6.cell? ⟨w1.heap.size, 2, none⟩ = some (.int .i64 t2) := by rw [hb.cell (by simp <;> omega)]; first | exact c5_2_2 | (rw [World.cell?_alloc_lt _ _ _ hs5_2]; exact c5_2_2) | (rw [World.cell?_alloc_lt _ _ _ (by simp <;> omega), World.cell?_alloc_lt _ _ _ (by simp <;> omega), World.cell?_alloc_lt _ _ _ (by simp <;> omega)]; exact c5_2_2) | (simp [go_sem]; done)
  have hs6_3 : w2.heap.size < w6.heap.size := by omega
  have c6_3_0 : w6.cell? ⟨w2.heap.size, 0, none⟩ = some (.int .i64 0) := by rw [hb.cell (by simp <;> omega)]; first | exact c5_3_0 | (rw [World.cell?_alloc_lt _ _ _ hs5_3]; exact c5_3_0) | (rw [World.cell?_alloc_lt _ _ _ (by simp <;> omega), World.cell?_alloc_lt _ _ _ (by simp <;> omega), World.cell?_alloc_lt _ _ _ (by simp <;> omega)]; exact c5_3_0) | (simp [go_sem]; done)
  have c6_3_1 : w6.cell? ⟨w2.heap.size, 1, none⟩ = some (.int .i64 0) := by rw [hb.cell (by simp <;> omega)]; first | exact c5_3_1 | (rw [World.cell?_alloc_lt _ _ _ hs5_3]; exact c5_3_1) | (rw [World.cell?_alloc_lt _ _ _ (by simp <;> omega), World.cell?_alloc_lt _ _ _ (by simp <;> omega), World.cell?_alloc_lt _ _ _ (by simp <;> omega)]; exact c5_3_1) | (simp [go_sem]; done)
  have c6_3_2 : w6.cell? ⟨w2.heap.size, 2, none⟩ = some (.int .i64 0) := by rw [hb.cell (by simp <;> omega)]; first | exact c5_3_2 | (rw [World.cell?_alloc_lt _ _ _ hs5_3]; exact c5_3_2) | (rw [World.cell?_alloc_lt _ _ _ (by simp <;> omega), World.cell?_alloc_lt _ _ _ (by simp <;> omega), World.cell?_alloc_lt _ _ _ (by simp <;> omega)]; exact c5_3_2) | (simp [go_sem]; done)
  have hs6_4 : w5.heap.size < w6.heap.size := by omega
  have c6_4_0 : w6.cell? ⟨w5.heap.size, 0, none⟩ = some (.int .i64 a0) := by rw [hb.cell (by simp <;> omega)]; first | (simp [go_sem]; done)
  have c6_4_1 : w6.cell? ⟨w5.heap.size, 1, none⟩ = some (.int .i64 a1) := by rw [hb.cell (by simp <;> omega)]; first | (simp [go_sem]; done)
  have c6_4_2 : w6.cell? ⟨w5.heap.size, 2, none⟩ = some (.int .i64 a2) := by rw [hb.cell (by simp <;> omega)]; first | (simp [go_sem]; done)
  have hs6_5 : w5.heap.size + 1 < w6.heap.size := by omega
  have c6_5_0 : w6.cell? ⟨w5.heap.size + 1, 0, none⟩ = some (.int .i64 a3) := by rw [hb.cell (by simp <;> omega)]; first | (simp [go_sem]; done)
  have c6_5_1 : w6.cell? ⟨w5.heap.size + 1, 1, none⟩ = some (.int .i64 a4) := by rw [hb.cell (by simp <;> omega)]; first | (simp [go_sem]; done)
  have c6_5_2 : w6.cell? ⟨w5.heap.size + 1, 2, none⟩ = some (.int .i64 a5) := by rw [hb.cell (by simp <;> omega)]; first | (simp [go_sem]; done)
  have hs6_6 : w5.heap.size + 2 < w6.heap.size := by omega
  have c6_6_0 : w6.cell? ⟨w5.heap.size + 2, 0, none⟩ = some (.int .i64 a6) := by rw [hb.cell (by simp <;> omega)]; first | (simp [go_sem]; done)
  have c6_6_1 : w6.cell? ⟨w5.heap.size + 2, 1, none⟩ = some (.int .i64 a7) := by rw [hb.cell (by simp <;> omega)]; first | (simp [go_sem]; done)
  have c6_6_2 : w6.cell? ⟨w5.heap.size + 2, 2, none⟩ = some (.int .i64 a8) := by rw [hb.cell (by simp <;> omega)]; first | (simp [go_sem]; done)
  have HB6 := Lib.hid (Below.trans ((ba_c ((ba_c ((ba_c (HB5.out) (Nat.le_refl _) _)) (Nat.le_refl _) _)) (Nat.le_refl _) _)) (hb.mono (Below.size ((ba_c ((ba_c ((ba_c (HB5.out) (Nat.le_refl _) _)) (Nat.le_refl _) _)) (Nat.le_refl _) _)))))
  clear hb hsz c5_0_0 c5_0_1 c5_0_2 c5_0_3 c5_0_4 c5_0_5 c5_0_6 c5_0_7 c5_0_8 c5_1_0 c5_1_1 c5_1_2 c5_2_0 c5_2_1 c5_2_2 c5_3_0 c5_3_1 c5_3_2 hs5_0 hs5_1 hs5_2 hs5_3
  go_wp2_with fail
  refine (plainF21e _ _ _ _ _ _ _ _ HU.out HZ.out HP.out _).mono ?_
  rintro e w7 ⟨rfl, hb⟩
  have hsz : w6.heap.size ≤ w7.heap.size := hb.size
  have hs7_0 : w.heap.size < w7.heap.size := by omega
  have c7_0_0 : w7.cell? ⟨w.heap.size, 0, none⟩ = some (.int .i64 a0) := by rw [hb.cell (by simp <;> omega)]; first | exact c6_0_0 | (rw [World.cell?_alloc_lt _ _ _ hs6_0]; exact c6_0_0) | (simp [go_sem]; done)
  have c7_0_1 : w7.cell? ⟨w.heap.size, 1, none⟩ = some (.int .i64 a1) := by rw [hb.cell (by simp <;> omega)]; first | exact c6_0_1 | (rw [World.cell?_alloc_lt _ _ _ hs6_0]; exact c6_0_1) | (simp [go_sem]; done)
  have c7_0_2 : w7.cell? ⟨w.heap.size, 2, none⟩ = some (.int .i64 a2) := by rw [hb.cell (by simp <;> omega)]; first | exact c6_0_2 | (rw [World.cell?_alloc_lt _ _ _ hs6_0]; exact c6_0_2) | (simp [go_sem]; done)
  have c7_0_3 : w7.cell? ⟨w.heap.size, 3, none⟩ = some (.int .i64 a3) := by rw [hb.cell (by simp <;> omega)]; first | exact c6_0_3 | (rw [World.cell?_alloc_lt _ _ _ hs6_0]; exact c6_0_3) | (simp [go_sem]; done)
  have c7_0_4 : w7.cell? ⟨w.heap.size, 4, none⟩ = some (.int .i64 a4) := by rw [hb.cell (by simp <;> omega)]; first | exact c6_0_4 | (rw [World.cell?_alloc_lt _ _ _ hs6_0]; exact c6_0_4) | (simp [go_sem]; done)
  have c7_0_5 : w7.cell? ⟨w.heap.size, 5, none⟩ = some (.int .i64 a5) := by rw [hb.cell (by simp <;> omega)]; first | exact c6_0_5 | (rw [World.cell?_alloc_lt _ _ _ hs6_0]; exact c6_0_5) | (simp [go_sem]; done)
  have c7_0_6 : w7.cell? ⟨w.heap.size, 6, none⟩ = some (.int .i64 a6) := by rw [hb.cell (by simp <;> omega)]; first | exact c6_0_6 | (rw [World.cell?_alloc_lt _ _ _ hs6_0]; exact c6_0_6) | (simp [go_sem]; done)
  have c7_0_7 : w7.cell? ⟨w.heap.size, 7, none⟩ = some (.int .i64 a7) := by rw [hb.cell (by simp <;> omega)]; first | exact c6_0_7 | (rw [World.cell?_alloc_lt _ _ _ hs6_0]; exact c6_0_7) | (simp [go_sem]; done)
  have c7_0_8 : w7.cell? ⟨w.heap.size, 8, none⟩ = some (.int .i64 a8) := by rw [hb.cell (by simp <;> omega)]; first | exact c6_0_8 | (rw [World.cell?_alloc_lt _ _ _ hs6_0]; exact c6_0_8) | (simp [go_sem]; done)
  have hs7_1 : w.heap.size + 1 < w7.heap.size := by omega
  have c7_1_0 : w7.cell? ⟨w.heap.size + 1, 0, none⟩ = some (.int .i64 x) := by rw [hb.cell (by simp <;> omega)]; first | exact c6_1_0 | (rw [World.cell?_alloc_lt _ _ _ hs6_1]; exact c6_1_0) | (simp [go_sem]; done)
  have c7_1_1 : w7.cell? ⟨w.heap.size + 1, 1, none⟩ = some (.int .i64 y) := by rw [hb.cell (by simp <;> omega)]; first | exact c6_1_1 | (rw [World.cell?_alloc_lt _ _ _ hs6_1]; exact c6_1_1) | (simp [go_sem]; done)
  have c7_1_2 : w7.cell? ⟨w.heap.size + 1, 2, none⟩ = some (.int .i64 z) := by rw [hb.cell (by simp <;> omega)]; first | exact c6_1_2 | (rw [World.cell?_alloc_lt _ _ _ hs6_1]; exact c6_1_2) | (simp [go_sem]; done)
  have hs7_2 : w1.heap.size < w7.heap.size := by omega
  have c7_2_0 : w7.cell? ⟨w1.heap.size, 0, none⟩ = some (.int .i64 t0) := by rw [hb.cell (by simp <;> omega)]; first | exact c6_2_0 | (rw [World.cell?_alloc_lt _ _ _ hs6_2]; exact c6_2_0) | (simp [go_sem]; done)
  have c7_2_1 : w7.cell? ⟨w1.heap.size, 1, none⟩ = some (.int .i64 t1) := by rw [hb.cell (by simp <;> omega)]; first | exact c6_2_1 | (rw [World.cell?_alloc_lt _ _ _ hs6_2]; exact c6_2_1) | (simp [go_sem]; done)
  have c7_2_2 : w7.cell? ⟨w1.heap.size, 2, none⟩ = some (.int .i64 t2) := by rw [hb.cell (by simp <;> omega)]; first | exact c6_2_2 | (rw [World.cell?_alloc_lt _ _ _ hs6_2]; exact c6_2_2) | (simp [go_sem]; done)
  have hs7_3 : w2.heap.size < w7.heap.size := by omega
  have c7_3_0 : w7.cell? ⟨w2.heap.size, 0, none⟩ = some (.int .i64 0) := by rw [hb.cell (by simp <;> omega)]; first | exact c6_3_0 | (rw [World.cell?_alloc_lt _ _ _ hs6_3]; exact c6_3_0) | (simp [go_sem]; done)
  have c7_3_1 : w7.cell? ⟨w2.heap.size, 1, none⟩ = some (.int .i64 0) := by rw [hb.cell (by simp <;> omega)]; first | exact c6_3_1 | (rw [World.cell?_alloc_lt _ _ _ hs6_3]; exact c6_3_1) | (simp [go_sem]; done)
  have c7_3_2 : w7.cell? ⟨w2.heap.size, 2, none⟩ = some (.int .i64 0) := by rw [hb.cell (by simp <;> omega)]; first | exact c6_3_2 | (rw [World.cell?_alloc_lt _ _ _ hs6_3]; exact c6_3_2) | (simp [go_sem]; done)
  have hs7_4 : w5.heap.size < w7.heap.size := by omega
  have c7_4_0 : w7.cell? ⟨w5.heap.size, 0, none⟩ = some (.int .i64 a0) := by rw [hb.cell (by simp <;> omega)]; first | exact c6_4_0 | (rw [World.cell?_alloc_lt _ _ _ hs6_4]; exact c6_4_0) | (simp [go_sem]; done)
  have c7_4_1 : w7.cell? ⟨w5.heap.size, 1, none⟩ = some (.int .i64 a1) := by rw [hb.cell (by simp <;> omega)]; first | exact c6_4_1 | (rw [World.cell?_alloc_lt _ _ _ hs6_4]; exact c6_4_1) | (simp [go_sem]; done)
  have c7_4_2 : w7.cell? ⟨w5.heap.size, 2, none⟩ = some (.int .i64 a2) := by rw [hb.cell (by simp <;> omega)]; first | exact c6_4_2 | (rw [World.cell?_alloc_lt _ _ _ hs6_4]; exact c6_4_2) | (simp [go_sem]; done)
  have hs7_5 : w5.heap.size + 1 < w7.heap.size := by omega
  have c7_5_0 : w7.cell? ⟨w5.heap.size + 1, 0, none⟩ = some (.int .i64 a3) := by rw [hb.cell (by simp <;> omega)]; first | exact c6_5_0 | (rw [World.cell?_alloc_lt _ _ _ hs6_5]; exact c6_5_0) | (simp [go_sem]; done)
  have c7_5_1 : w7.cell? ⟨w5.heap.size + 1, 1, none⟩ = some (.int .i64 a4) := by rw [hb.cell (by simp <;> omega)]; first | exact c6_5_1 | (rw [World.cell?_alloc_lt _ _ _ hs6_5]; exact c6_5_1) | (simp [go_sem]; done)
  have c7_5_2 : w7.cell? ⟨w5.heap.size + 1, 2, none⟩ = some (.int .i64 a5) := by rw [hb.cell (by simp <;> omega)]; first | exact c6_5_2 | (rw [World.cell?_alloc_lt _ _ _ hs6_5]; exact c6_5_2) | (simp [go_sem]; done)
  have hs7_6 : w5.heap.size + 2 < w7.heap.size := by omega
  have c7_6_0 : w7.cell? ⟨w5.heap.size + 2, 0, none⟩ = some (.int .i64 a6) := by rw [hb.cell (by simp <;> omega)]; first | exact c6_6_0 | (rw [World.cell?_alloc_lt _ _ _ hs6_6]; exact c6_6_0) | (simp [go_sem]; done)
  have c7_6_1 : w7.cell? ⟨w5.heap.size + 2, 1, none⟩ = some (.int .i64 a7) := by rw [hb.cell (by simp <;> omega)]; first | exact c6_6_1 | (rw [World.cell?_alloc_lt _ _ _ hs6_6]; exact c6_6_1) | (simp [go_sem]; done)
  have c7_6_2 : w7.cell? ⟨w5.heap.size + 2, 2, none⟩ = some (.int .i64 a8) := by rw [hb.cell (by simp <;> omega)]; first | exact c6_6_2 | (rw [World.cell?_alloc_lt _ _ _ hs6_6]; exact c6_6_2) | (simp [go_sem]; done)
  have HB7 := Lib.hid (Below.trans (HB6.out) (hb.mono (Below.size (HB6.out))))
  clear hb hsz c6_0_0 c6_0_1 c6_0_2 c6_0_3 c6_0_4 c6_0_5 c6_0_6 c6_0_7 c6_0_8 c6_1_0 c6_1_1 c6_1_2 c6_2_0 c6_2_1 c6_2_2 c6_3_0 c6_3_1 c6_3_2 c6_4_0 c6_4_1 c6_4_2 c6_5_0 c6_5_1 c6_5_2 c6_6_0 c6_6_1 c6_6_2 hs6_0 hs6_1 hs6_2 hs6_3 hs6_4 hs6_5 hs6_6
  go_upto_region 12 with fail
  have hst0 : w.heap.size < (w7.alloc (Obj.cells #[.int .i64 u0, .int .i64 u1, .int .i64 u2] 27)).heap.size := by simp; omega
  have g0_0 : (w7.alloc (Obj.cells #[.int .i64 u0, .int .i64 u1, .int .i64 u2] 27)).cell? ⟨w.heap.size, 0, none⟩ = some (.int .i64 a0) := by rw [World.cell?_alloc_lt _ _ _ hs7_0]; exact c7_0_0
  have g0_1 : (w7.alloc (Obj.cells #[.int .i64 u0, .int .i64 u1, .int .i64 u2] 27)).cell? ⟨w.heap.size, 1, none⟩ = some (.int .i64 a1) := by rw [World.cell?_alloc_lt _ _ _ hs7_0]; exact c7_0_1
  have g0_2 : (w7.alloc (Obj.cells #[.int .i64 u0, .int .i64 u1, .int .i64 u2] 27)).cell? ⟨w.heap.size, 2, none⟩ = some (.int .i64 a2) := by rw [World.cell?_alloc_lt _ _ _ hs7_0]; exact c7_0_2
  have g0_3 : (w7.alloc (Obj.cells #[.int .i64 u0, .int .i64 u1, .int .i64 u2] 27)).cell? ⟨w.heap.size, 3, none⟩ = some (.int .i64 a3) := by rw [World.cell?_alloc_lt _ _ _ hs7_0]; exact c7_0_3
  have g0_4 : (w7.alloc (Obj.cells #[.int .i64 u0, .int .i64 u1, .int .i64 u2] 27)).cell? ⟨w.heap.size, 4, none⟩ = some (.int .i64 a4) := by rw [World.cell?_alloc_lt _ _ _ hs7_0]; exact c7_0_4
  have g0_5 : (w7.alloc (Obj.cells #[.int .i64 u0, .int .i64 u1, .int .i64 u2] 27)).cell? ⟨w.heap.size, 5, none⟩ = some (.int .i64 a5) := by rw [World.cell?_alloc_lt _ _ _ hs7_0]; exact c7_0_5
  have g0_6 : (w7.alloc (Obj.cells #[.int .i64 u0, .int .i64 u1, .int .i64 u2] 27)).cell? ⟨w.heap.size, 6, none⟩ = some (.int .i64 a6) := by rw [World.cell?_alloc_lt _ _ _ hs7_0]; exact c7_0_6
  have g0_7 : (w7.alloc (Obj.cells #[.int .i64 u0, .int .i64 u1, .int .i64 u2] 27)).cell? ⟨w.heap.size, 7, none⟩ = some (.int .i64 a7) := by rw [World.cell?_alloc_lt _ _ _ hs7_0]; exact c7_0_7
  have g0_8 : (w7.alloc (Obj.cells #[.int .i64 u0, .int .i64 u1, .int .i64 u2] 27)).cell? ⟨w.heap.size, 8, none⟩ = some (.int .i64 a8) := by rw [World.cell?_alloc_lt _ _ _ hs7_0]; exact c7_0_8
  have hst1 : w.heap.size + 1 < (w7.alloc (Obj.cells #[.int .i64 u0, .int .i64 u1, .int .i64 u2] 27)).heap.size := by simp; omega
  have g1_0 : (w7.alloc (Obj.cells #[.int .i64 u0, .int .i64 u1, .int .i64 u2] 27)).cell? ⟨w.heap.size + 1, 0, none⟩ = some (.int .i64 x) := by rw [World.cell?_alloc_lt _ _ _ hs7_1]; exact c7_1_0
  have g1_1 : (w7.alloc (Obj.cells #[.int .i64 u0, .int .i64 u1, .int .i64 u2] 27)).cell? ⟨w.heap.size + 1, 1, none⟩ = some (.int .i64 y) := by rw [World.cell?_alloc_lt _ _ _ hs7_1]; exact c7_1_1
  have g1_2 : (w7.alloc (Obj.cells #[.int .i64 u0, .int .i64 u1, .int .i64 u2] 27)).cell? ⟨w.heap.size + 1, 2, none⟩ = some (.int .i64 z) := by rw [World.cell?_alloc_lt _ _ _ hs7_1]; exact c7_1_2
  have hst2 : w1.heap.size < (w7.alloc (Obj.cells #[.int .i64 u0, .int .i64 u1, .int .i64 u2] 27)).heap.size := by simp; omega
  have g2_0 : (w7.alloc (Obj.cells #[.int .i64 u0, .int .i64 u1, .int .i64 u2] 27)).cell? ⟨w1.heap.size, 0, none⟩ = some (.int .i64 t0) := by rw [World.cell?_alloc_lt _ _ _ hs7_2]; exact c7_2_0
  have g2_1 : (w7.alloc (Obj.cells #[.int .i64 u0, .int .i64 u1, .int .i64 u2] 27)).cell? ⟨w1.heap.size, 1, none⟩ = some (.int .i64 t1) := by rw [World.cell?_alloc_lt _ _ _ hs7_2]; exact c7_2_1
  have g2_2 : (w7.alloc (Obj.cells #[.int .i64 u0, .int .i64 u1, .int .i64 u2] 27)).cell? ⟨w1.heap.size, 2, none⟩ = some (.int .i64 t2) := by rw [World.cell?_alloc_lt _ _ _ hs7_2]; exact c7_2_2
  have hB0 := Lib.hid (ba_c HB7.out (Nat.le_refl _) (Obj.cells #[.int .i64 u0, .int .i64 u1, .int .i64 u2] 27))
  clear c7_0_0 c7_0_1 c7_0_2 c7_0_3 c7_0_4 c7_0_5 c7_0_6 c7_0_7 c7_0_8 c7_1_0 c7_1_1 c7_1_2 c7_2_0 c7_2_1 c7_2_2 c7_3_0 c7_3_1 c7_3_2 c7_4_0 c7_4_1 c7_4_2 c7_5_0 c7_5_1 c7_5_2 c7_6_0 c7_6_1 c7_6_2 hs7_0 hs7_1 hs7_2 hs7_3 hs7_4 hs7_5 hs7_6
  generalize (w7.alloc (Obj.cells #[.int .i64 u0, .int .i64 u1, .int .i64 u2] 27)) = W0 at *
  refine wp_region_T (Below (W0.heap.size) (W0)) 9 (by kernel_rfl) ?_ ?_
  · exact Below.drew (Below.refl _ _)
  intro HS
  refine wpT_takeP 0 (v := ?_) rfl (by kernel_rfl) (fun _ _ _ h => h) (by rfl) ?_ ?_ ?_
  rotate_left
  · (intro W; go_simp; first | done | with_reducible rfl)
  · (first | (intro _; with_reducible assumption) | (intro h0; cases h0))
  try simp only [Act.put, List.getElem_toArray, List.getElem_cons_zero, List.getElem_cons_succ, List.setIfInBounds_toArray, List.set_cons_zero, List.set_cons_succ]
  refine wpT_takeP 1 (v := ?_) rfl (by kernel_rfl) (fun _ _ _ h => h) (by rfl) ?_ ?_ ?_
  rotate_left
  · (intro W; go_simp; first | done | with_reducible rfl)
  · (first | (intro _; with_reducible assumption) | (intro h0; cases h0))
  try simp only [Act.put, List.getElem_toArray, List.getElem_cons_zero, List.getElem_cons_succ, List.setIfInBounds_toArray, List.set_cons_zero, List.set_cons_succ]
  refine wpT_takeP 2 (v := ?_) rfl (by kernel_rfl) (fun _ _ _ h => h) (by rfl) ?_ ?_ ?_
  rotate_left
  · (intro W; go_simp; first | done | with_reducible rfl)
  · (first | (intro _; with_reducible assumption) | (intro h0; cases h0))
  try simp only [Act.put, List.getElem_toArray, List.getElem_cons_zero, List.getElem_cons_succ, List.setIfInBounds_toArray, List.set_cons_zero, List.set_cons_succ]
  refine wpT_takeP 6 (v := ?_) rfl (by kernel_rfl) (fun _ _ _ h => h) (by rfl) ?_ ?_ ?_
  rotate_left
  · (intro W; go_simp; first | done | with_reducible rfl)
  · (first | (intro _; with_reducible assumption) | (intro h0; cases h0))
  try simp only [Act.put, List.getElem_toArray, List.getElem_cons_zero, List.getElem_cons_succ, List.setIfInBounds_toArray, List.set_cons_zero, List.set_cons_succ]
  refine wpT_take 3 30 (v := ?_) rfl (by kernel_rfl) (fun _ _ _ h => h) (by rfl) ?_ HS ?_
  rotate_left
  · (intro W hW; have hq0 := fun o => hW.cell (p := ⟨w.heap.size, o, none⟩) (by simp <;> omega); have hq1 := fun o => hW.cell (p := ⟨w.heap.size + 1, o, none⟩) (by simp <;> omega); have hq2 := fun o => hW.cell (p := ⟨w1.heap.size, o, none⟩) (by simp <;> omega); go_simp; first | done | with_reducible rfl)
  try simp only [Act.put, List.getElem_toArray, List.getElem_cons_zero, List.getElem_cons_succ, List.setIfInBounds_toArray, List.set_cons_zero, List.set_cons_succ]
  refine wpT_take 4 30 (v := ?_) rfl (by kernel_rfl) (fun _ _ _ h => h) (by rfl) ?_ HS ?_
  rotate_left
  · (intro W hW; have hq0 := fun o => hW.cell (p := ⟨w.heap.size, o, none⟩) (by simp <;> omega); have hq1 := fun o => hW.cell (p := ⟨w.heap.size + 1, o, none⟩) (by simp <;> omega); have hq2 := fun o => hW.cell (p := ⟨w1.heap.size, o, none⟩) (by simp <;> omega); go_simp; first | done | with_reducible rfl)
  try simp only [Act.put, List.getElem_toArray, List.getElem_cons_zero, List.getElem_cons_succ, List.setIfInBounds_toArray, List.set_cons_zero, List.set_cons_succ]
  refine wpT_take 5 30 (v := ?_) rfl (by kernel_rfl) (fun _ _ _ h => h) (by rfl) ?_ HS ?_
  rotate_left
  · (intro W hW; have hq0 := fun o => hW.cell (p := ⟨w.heap.size, o, none⟩) (by simp <;> omega); have hq1 := fun o => hW.cell (p := ⟨w.heap.size + 1, o, none⟩) (by simp <;> omega); have hq2 := fun o => hW.cell (p := ⟨w1.heap.size, o, none⟩) (by simp <;> omega); go_simp; first | done | with_reducible rfl)
  try simp only [Act.put, List.getElem_toArray, List.getElem_cons_zero, List.getElem_cons_succ, List.setIfInBounds_toArray, List.set_cons_zero, List.set_cons_succ]
  refine wpT_one 7 (by kernel_rfl) rfl (fun K hK => ?_)
  go_simp
  refine (mapF30_is _ _ _ _ _ _ _ _ _ _ _ _ _ _ _ _ HP.out HT.out _).mono ?_
  rintro e v1 ⟨rfl, hb⟩
  have HS := Below.trans HS (hb.mono HS.size)
  have HSV := HS
  clear hb
  refine hK.out _ _ ?_ ?_
  · (first | (intro _; with_reducible assumption) | (intro h0; cases h0))
  clear hK K
  try simp only [Act.put, List.getElem_toArray, List.getElem_cons_zero, List.getElem_cons_succ, List.setIfInBounds_toArray, List.set_cons_zero, List.set_cons_succ]
  refine wpT_one 8 (by kernel_rfl) rfl (fun K hK => ?_)
  go_simp
  refine hK.out _ _ ?_ ?_
  · (first | (intro _; with_reducible assumption) | (intro h0; cases h0; done) | (intro _; simp [go_sem]))
  clear hK K
  try simp only [Act.put, List.getElem_toArray, List.getElem_cons_zero, List.getElem_cons_succ, List.setIfInBounds_toArray, List.set_cons_zero, List.set_cons_succ]
  refine wpT_one 9 (by kernel_rfl) rfl (fun K hK => ?_)
  go_simp
  refine hK.out _ _ ?_ ?_
  · (first | (intro _; with_reducible assumption) | (intro h0; cases h0; done) | (intro _; simp [go_sem]))
  clear hK K
  try simp only [Act.put, List.getElem_toArray, List.getElem_cons_zero, List.getElem_cons_succ, List.setIfInBounds_toArray, List.set_cons_zero, List.set_cons_succ]
  refine wpT_done (by kernel_rfl) ?_ _
  have c8_0_0 : v1.cell? ⟨w.heap.size, 0, none⟩ = some (.int .i64 a0) := by rw [HS.cell (p := ⟨w.heap.size, 0, none⟩) hst0]; exact g0_0
  have c8_0_1 : v1.cell? ⟨w.heap.size, 1, none⟩ = some (.int .i64 a1) := by rw [HS.cell (p := ⟨w.heap.size, 1, none⟩) hst0]; exact g0_1
  have c8_0_2 : v1.cell? ⟨w.heap.size, 2, none⟩ = some (.int .i64 a2) := by rw [HS.cell (p := ⟨w.heap.size, 2, none⟩) hst0]; exact g0_2
  have c8_0_3 : v1.cell? ⟨w.heap.size, 3, none⟩ = some (.int .i64 a3) := by rw [HS.cell (p := ⟨w.heap.size, 3, none⟩) hst0]; exact g0_3
  have c8_0_4 : v1.cell? ⟨w.heap.size, 4, none⟩ = some (.int .i64 a4) := by rw [HS.cell (p := ⟨w.heap.size, 4, none⟩) hst0]; exact g0_4
  have c8_0_5 : v1.cell? ⟨w.heap.size, 5, none⟩ = some (.int .i64 a5) := by rw [HS.cell (p := ⟨w.heap.size, 5, none⟩) hst0]; exact g0_5
  have c8_0_6 : v1.cell? ⟨w.heap.size, 6, none⟩ = some (.int .i64 a6) := by rw [HS.cell (p := ⟨w.heap.size, 6, none⟩) hst0]; exact g0_6
  have c8_0_7 : v1.cell? ⟨w.heap.size, 7, none⟩ = some (.int .i64 a7) := by rw [HS.cell (p := ⟨w.heap.size, 7, none⟩) hst0]; exact g0_7
  have c8_0_8 : v1.cell? ⟨w.heap.size, 8, none⟩ = some (.int .i64 a8) := by rw [HS.cell (p := ⟨w.heap.size, 8, none⟩) hst0]; exact g0_8
  have hs8_0 : w.heap.size < v1.heap.size := Nat.lt_of_lt_of_le hst0 HS.size
  have hB := hB0.out.trans (HS.mono hB0.out.size)
  clear HS HSV g0_0 g0_1 g0_2 g0_3 g0_4 g0_5 g0_6 g0_7 g0_8 g1_0 g1_1 g1_2 g2_0 g2_1 g2_2
  go_wp2_with fail
  refine (allF25 P HP.out _).mono ?_
  rintro e wf ⟨v, rfl, hgat⟩
  have hszf := hgat.2.size
  obtain ⟨g1, cap1, rfl, _, hg1, _, hrows⟩ := hgat.rows HN.out (by omega)
  have hwf : w.heap.size < wf.heap.size := by (try simp at hszf); omega
  have e0 : wf.cell? ⟨w.heap.size, 0, none⟩ = some (.int .i64 a0) := by rw [hgat.2.cell (p := ⟨w.heap.size, 0, none⟩) (by simp; omega)]; first | exact c8_0_0 | (rw [World.cell?_alloc_lt _ _ _ hs8_0]; exact c8_0_0)
  have e1 : wf.cell? ⟨w.heap.size, 1, none⟩ = some (.int .i64 a1) := by rw [hgat.2.cell (p := ⟨w.heap.size, 1, none⟩) (by simp; omega)]; first | exact c8_0_1 | (rw [World.cell?_alloc_lt _ _ _ hs8_0]; exact c8_0_1)
  have e2 : wf.cell? ⟨w.heap.size, 2, none⟩ = some (.int .i64 a2) := by rw [hgat.2.cell (p := ⟨w.heap.size, 2, none⟩) (by simp; omega)]; first | exact c8_0_2 | (rw [World.cell?_alloc_lt _ _ _ hs8_0]; exact c8_0_2)
  have e3 : wf.cell? ⟨w.heap.size, 3, none⟩ = some (.int .i64 a3) := by rw [hgat.2.cell (p := ⟨w.heap.size, 3, none⟩) (by simp; omega)]; first | exact c8_0_3 | (rw [World.cell?_alloc_lt _ _ _ hs8_0]; exact c8_0_3)
  have e4 : wf.cell? ⟨w.heap.size, 4, none⟩ = some (.int .i64 a4) := by rw [hgat.2.cell (p := ⟨w.heap.size, 4, none⟩) (by simp; omega)]; first | exact c8_0_4 | (rw [World.cell?_alloc_lt _ _ _ hs8_0]; exact c8_0_4)
  have e5 : wf.cell? ⟨w.heap.size, 5, none⟩ = some (.int .i64 a5) := by rw [hgat.2.cell (p := ⟨w.heap.size, 5, none⟩) (by simp; omega)]; first | exact c8_0_5 | (rw [World.cell?_alloc_lt _ _ _ hs8_0]; exact c8_0_5)
  have e6 : wf.cell? ⟨w.heap.size, 6, none⟩ = some (.int .i64 a6) := by rw [hgat.2.cell (p := ⟨w.heap.size, 6, none⟩) (by simp; omega)]; first | exact c8_0_6 | (rw [World.cell?_alloc_lt _ _ _ hs8_0]; exact c8_0_6)
  have e7 : wf.cell? ⟨w.heap.size, 7, none⟩ = some (.int .i64 a7) := by rw [hgat.2.cell (p := ⟨w.heap.size, 7, none⟩) (by simp; omega)]; first | exact c8_0_7 | (rw [World.cell?_alloc_lt _ _ _ hs8_0]; exact c8_0_7)
  have e8 : wf.cell? ⟨w.heap.size, 8, none⟩ = some (.int .i64 a8) := by rw [hgat.2.cell (p := ⟨w.heap.size, 8, none⟩) (by simp; omega)]; first | exact c8_0_8 | (rw [World.cell?_alloc_lt _ _ _ hs8_0]; exact c8_0_8)
  have HBF := Lib.hid (hB.trans (hgat.2.mono hB.size))
  have HR1 := Lib.hid hrows
  clear hgat hrows hB hszf c8_0_0 c8_0_1 c8_0_2 c8_0_3 c8_0_4 c8_0_5 c8_0_6 c8_0_7 c8_0_8
  go_wp2_with fail
  refine (Clone31 g1 cap1 n (allK P (P * P * P)) HN.out (by omega) (by omega) _ hg1 HR1.out).mono ?_
  rintro e wg ⟨g2, cap2, rfl, hg2a, hg2b, hrw, hbg⟩
  have HRG := Lib.hid hrw
  have HBG := Lib.hid hbg
  clear hrw hbg
  go_wp2_with fail
  go_loopw [20] (fun s wr => ∃ k : Nat, 1 ≤ k ∧ k ≤ N ∧ s = .int .i64 k ∧ RowsW wr g2 n (fun j => itr (sT P a0 a1 a2 a3 a4 a5 a6 a7 a8) (k - 1) ((allK P (P * P * P)).getD j (0, 0, 0))) ∧ Below wf.heap.size wf wr ∧ g2 < wr.heap.size) (fun s _ => N + 1 - (intOf s).toNat)
  case atStart => exact ⟨1, by omega, by omega, rfl, HRG.out, HBG.out, hg2b⟩
  case round =>
    obtain ⟨k, hk1, hk2, rfl, hrw, hbl, hgs⟩ := hrel
    obtain ⟨wk, rfl⟩ : ∃ wo : World, wo = wr := ⟨_, rfl⟩
    have HRK := Lib.hid (RowsW.congr (pt' := mixL (sT P a0 a1 a2 a3 a4 a5 a6 a7 a8) (fun i => (allK P (P * P * P)).getD i (0, 0, 0)) k 0) hrw (fun j _ => by unfold mixL; rw [if_neg (by omega)]))
    have HBKK := Lib.hid hbl
    clear hrw hbl
    go_wp2_with fail
    go_loopw [119] (fun i wr => ∃ m : Nat, m ≤ n ∧ i = .int .i64 m ∧ RowsW wr g2 n (mixL (sT P a0 a1 a2 a3 a4 a5 a6 a7 a8) (fun i => (allK P (P * P * P)).getD i (0, 0, 0)) k m) ∧ Below wf.heap.size wf wr ∧ g2 < wr.heap.size) (fun i _ => n - (intOf i).toNat)
    case atStart => exact ⟨0, by omega, rfl, HRK.out, HBKK.out, hgs⟩
    case round =>
      clear hgs
      obtain ⟨m, hm, rfl, hrw, hbl, hgs⟩ := hrel
      obtain ⟨wm, rfl⟩ : ∃ wo : World, wo = wr := ⟨_, rfl⟩
      have HRW := Lib.hid hrw
      have HBL := Lib.hid hbl
      by_cases hlt : m < n
      · obtain ⟨⟨x, y, z⟩, hxyz⟩ : ∃ t, itr (sT P a0 a1 a2 a3 a4 a5 a6 a7 a8) (k - 1) ((allK P (P * P * P)).getD m (0, 0, 0)) = t := ⟨_, rfl⟩
        obtain ⟨⟨u0, u1, u2⟩, hu⟩ : ∃ u, (sT P a0 a1 a2 a3 a4 a5 a6 a7 a8) (x, y, z) = u := ⟨_, rfl⟩
        have hu' : (sT P a0 a1 a2 a3 a4 a5 a6 a7 a8) (itr (sT P a0 a1 a2 a3 a4 a5 a6 a7 a8) (k - 1) ((fun i => (allK P (P * P * P)).getD i (0, 0, 0)) m)) = (u0, u1, u2) := by show (sT P a0 a1 a2 a3 a4 a5 a6 a7 a8) (itr (sT P a0 a1 a2 a3 a4 a5 a6 a7 a8) (k - 1) ((allK P (P * P * P)).getD m (0, 0, 0))) = _; rw [hxyz]; exact hu
        obtain ⟨⟨d0, d1, d2⟩, _⟩ := hrw m hlt
        rw [show mixL (sT P a0 a1 a2 a3 a4 a5 a6 a7 a8) (fun i => (allK P (P * P * P)).getD i (0, 0, 0)) k m m = (x, y, z) by unfold mixL; rw [if_neg (by omega)]; exact hxyz] at d0 d1 d2
        dsimp only at d0 d1 d2
        have HU := Lib.hid hu
        have HU2 := Lib.hid hu'
        have hwm : wf.heap.size ≤ wm.heap.size := hbl.size
        have q0 : wm.cell? ⟨w.heap.size, 0, none⟩ = some (.int .i64 a0) := by rw [hbl.cell (p := ⟨w.heap.size, 0, none⟩) hwf]; exact e0
        have q1 : wm.cell? ⟨w.heap.size, 1, none⟩ = some (.int .i64 a1) := by rw [hbl.cell (p := ⟨w.heap.size, 1, none⟩) hwf]; exact e1
        have q2 : wm.cell? ⟨w.heap.size, 2, none⟩ = some (.int .i64 a2) := by rw [hbl.cell (p := ⟨w.heap.size, 2, none⟩) hwf]; exact e2
        have q3 : wm.cell? ⟨w.heap.size, 3, none⟩ = some (.int .i64 a3) := by rw [hbl.cell (p := ⟨w.heap.size, 3, none⟩) hwf]; exact e3
        have q4 : wm.cell? ⟨w.heap.size, 4, none⟩ = some (.int .i64 a4) := by rw [hbl.cell (p := ⟨w.heap.size, 4, none⟩) hwf]; exact e4
        have q5 : wm.cell? ⟨w.heap.size, 5, none⟩ = some (.int .i64 a5) := by rw [hbl.cell (p := ⟨w.heap.size, 5, none⟩) hwf]; exact e5
        have q6 : wm.cell? ⟨w.heap.size, 6, none⟩ = some (.int .i64 a6) := by rw [hbl.cell (p := ⟨w.heap.size, 6, none⟩) hwf]; exact e6
        have q7 : wm.cell? ⟨w.heap.size, 7, none⟩ = some (.int .i64 a7) := by rw [hbl.cell (p := ⟨w.heap.size, 7, none⟩) hwf]; exact e7
        have q8 : wm.cell? ⟨w.heap.size, 8, none⟩ = some (.int .i64 a8) := by rw [hbl.cell (p := ⟨w.heap.size, 8, none⟩) hwf]; exact e8
        have l1 : (0 : Int) ≤ (m : Int) := by omega
        have l2 : (m : Int) < (n : Int) := by omega
        have el : m * 3 = 3 * m := by omega
        have hww : w.heap.size < wm.heap.size := by omega
        clear hrw hbl hxyz hu hu' e0 e1 e2 e3 e4 e5 e6 e7 e8
        have hu' := HU2
        go_upto_region 23 with fail
        refine wp_region_T (Below (wm.heap.size) (wm)) 10 (by kernel_rfl) ?_ ?_
        · exact Below.drew (Below.refl _ _)
        intro HS
        refine wpT_takeP 0 (v := ?_) rfl (by kernel_rfl) (fun _ _ _ h => h) (by rfl) ?_ ?_ ?_
        rotate_left
        · (intro W; go_simp; first | done | with_reducible rfl)
        · (first | (intro _; with_reducible assumption) | (intro h0; cases h0))
        try simp only [Act.put, List.getElem_toArray, List.getElem_cons_zero, List.getElem_cons_succ, List.setIfInBounds_toArray, List.set_cons_zero, List.set_cons_succ]
        refine wpT_takeP 1 (v := ?_) rfl (by kernel_rfl) (fun _ _ _ h => h) (by rfl) ?_ ?_ ?_
        rotate_left
        · (intro W; go_simp; first | done | with_reducible rfl)
        · (first | (intro _; with_reducible assumption) | (intro h0; cases h0))
        try simp only [Act.put, List.getElem_toArray, List.getElem_cons_zero, List.getElem_cons_succ, List.setIfInBounds_toArray, List.set_cons_zero, List.set_cons_succ]
        refine wpT_takeP 3 (v := ?_) rfl (by kernel_rfl) (fun _ _ _ h => h) (by rfl) ?_ ?_ ?_
        rotate_left
        · (intro W; go_simp; first | done | with_reducible rfl)
        · (first | (intro _; with_reducible assumption) | (intro h0; cases h0))
        try simp only [Act.put, List.getElem_toArray, List.getElem_cons_zero, List.getElem_cons_succ, List.setIfInBounds_toArray, List.set_cons_zero, List.set_cons_succ]
        refine wpT_takeP 4 (v := ?_) rfl (by kernel_rfl) (fun _ _ _ h => h) (by rfl) ?_ ?_ ?_
        rotate_left
        · (intro W; go_simp; first | done | with_reducible rfl)
        · (first | (intro _; with_reducible assumption) | (intro h0; cases h0))
        try simp only [Act.put, List.getElem_toArray, List.getElem_cons_zero, List.getElem_cons_succ, List.setIfInBounds_toArray, List.set_cons_zero, List.set_cons_succ]
        refine wpT_takeP 5 (v := ?_) rfl (by kernel_rfl) (fun _ _ _ h => h) (by rfl) ?_ ?_ ?_
        rotate_left
        · (intro W; go_simp; first | done | with_reducible rfl)
        · (first | (intro _; with_reducible assumption) | (intro h0; cases h0))
        try simp only [Act.put, List.getElem_toArray, List.getElem_cons_zero, List.getElem_cons_succ, List.setIfInBounds_toArray, List.set_cons_zero, List.set_cons_succ]
        refine wpT_takeP 7 (v := ?_) rfl (by kernel_rfl) (fun _ _ _ h => h) (by rfl) ?_ ?_ ?_
        rotate_left
        · (intro W; go_simp; first | done | with_reducible rfl)
        · (first | (intro _; with_reducible assumption) | (intro h0; cases h0))
        try simp only [Act.put, List.getElem_toArray, List.getElem_cons_zero, List.getElem_cons_succ, List.setIfInBounds_toArray, List.set_cons_zero, List.set_cons_succ]
        refine wpT_take 2 30 (v := ?_) rfl (by kernel_rfl) (fun _ _ _ h => h) (by rfl) ?_ HS ?_
        rotate_left
        · (intro W hW; have hq0 := fun o => hW.cell (p := ⟨w.heap.size, o, none⟩) (by simp <;> omega); have hq1 := fun o => hW.cell (p := ⟨g2, o, none⟩) (by simp <;> omega); go_simp; first | done | with_reducible rfl)
        try simp only [Act.put, List.getElem_toArray, List.getElem_cons_zero, List.getElem_cons_succ, List.setIfInBounds_toArray, List.set_cons_zero, List.set_cons_succ]
        refine wpT_take 6 30 (v := ?_) rfl (by kernel_rfl) (fun _ _ _ h => h) (by rfl) ?_ HS ?_
        rotate_left
        · (intro W hW; have hq0 := fun o => hW.cell (p := ⟨w.heap.size, o, none⟩) (by simp <;> omega); have hq1 := fun o => hW.cell (p := ⟨g2, o, none⟩) (by simp <;> omega); go_simp; first | done | with_reducible rfl)
        try simp only [Act.put, List.getElem_toArray, List.getElem_cons_zero, List.getElem_cons_succ, List.setIfInBounds_toArray, List.set_cons_zero, List.set_cons_succ]
        refine wpT_one 8 (by kernel_rfl) rfl (fun K hK => ?_)
        go_simp
        refine (mapF30_is _ _ _ _ _ _ _ _ _ _ _ _ _ _ _ _ HP.out HU.out _).mono ?_
        rintro e v1 ⟨rfl, hb⟩
        have HS := Below.trans HS (hb.mono HS.size)
        have HSV := HS
        clear hb
        refine hK.out _ _ ?_ ?_
        · (first | (intro _; with_reducible assumption) | (intro h0; cases h0))
        clear hK K
        try simp only [Act.put, List.getElem_toArray, List.getElem_cons_zero, List.getElem_cons_succ, List.setIfInBounds_toArray, List.set_cons_zero, List.set_cons_succ]
        refine wpT_takeP 9 (v := ?_) rfl (by kernel_rfl) (fun _ _ _ h => h) (by rfl) ?_ ?_ ?_
        rotate_left
        · (intro W; go_simp; first | done | with_reducible rfl)
        · (first | (intro _; with_reducible assumption) | (intro h0; cases h0))
        try simp only [Act.put, List.getElem_toArray, List.getElem_cons_zero, List.getElem_cons_succ, List.setIfInBounds_toArray, List.set_cons_zero, List.set_cons_succ]
        have HRV := Lib.hid (RowsW.below HRW.out HS hgs)
        have hgv : g2 < v1.heap.size := Nat.lt_of_lt_of_le hgs HS.size
        obtain ⟨⟨s0, s1, s2⟩, r0, r1, r2⟩ := HRV.out m hlt
        refine wpT_one 10 (by kernel_rfl) rfl (fun K hK => ?_)
        go_simp
        refine hK.out _ _ ?_ ?_
        · (first | (intro _; with_reducible assumption) | (intro h0; cases h0; done) | (intro _; simp [go_sem]))
        clear hK K
        try simp only [Act.put, List.getElem_toArray, List.getElem_cons_zero, List.getElem_cons_succ, List.setIfInBounds_toArray, List.set_cons_zero, List.set_cons_succ]
        refine wpT_done (by kernel_rfl) ?_ _
        have HRN := Lib.hid (RowsW.congr (RowsW.set HRV.out m hlt u0 u1 u2) (mixL_set hk1 HU2.out))
        have HBN := Lib.hid ((((HBL.out.trans (HS.mono HBL.out.size)).setCell (p := ⟨g2, 3 * m, none⟩) hg2a (.int .i64 u0)).setCell (p := ⟨g2, 3 * m + 1, none⟩) hg2a (.int .i64 u1)).setCell (p := ⟨g2, 3 * m + 2, none⟩) hg2a (.int .i64 u2))
        go_wp2_with fail
        exact ⟨⟨m + 1, by omega, by go_num, HRN.out, HBN.out, by simpa using hgv⟩, by simp [intOf]; omega⟩
      · have hmn : m = n := by omega
        subst hmn
        have HRM := Lib.hid (RowsW.congr (pt' := fun j => itr (sT P a0 a1 a2 a3 a4 a5 a6 a7 a8) k ((allK P (P * P * P)).getD j (0, 0, 0))) hrw (fun j hj => by unfold mixL; rw [if_pos hj]))
        have HR2 := Lib.hid (HR1.out.below hbl hg1)
        clear hrw hbl HRW
        by_cases hkN : k = N
        · subst hkN
          have hrow := RowsAt.congr' HRM.out.rows (f' := fun j => (allK P (P * P * P)).getD j (0, 0, 0)) (fun j hj => HALL.out j hj)
          go_wp2_with fail
          refine (Equal24_same g2 g1 cap2 cap1 m (fun j => (allK P (P * P * P)).getD j (0, 0, 0)) (by omega) _ hrow HR2.out).mono ?_
          rintro e wz ⟨rfl, nd, hwz⟩
          have HZZ := Lib.hid (show Below w.heap.size w wz by rw [hwz]; exact dr_o (HBF.out.trans (HBL.out.mono (by omega))) _)
          clear hwz hrow
          go_wp2_with fail
          go_ret
          exact ⟨rfl, HZZ.out⟩
        · obtain ⟨jd, hjd, hde⟩ := HNOT.out k hk1 (by omega)
          go_wp2_with fail
          refine (Equal24_diff g2 g1 cap2 cap1 m jd (fun j => itr (sT P a0 a1 a2 a3 a4 a5 a6 a7 a8) k ((allK P (P * P * P)).getD j (0, 0, 0))) (fun j => (allK P (P * P * P)).getD j (0, 0, 0)) (by omega) hjd hde _ HRM.out.rows HR2.out).mono ?_
          rintro e wz ⟨rfl, nd, hwz⟩
          have HRZ := Lib.hid (show RowsW wz g2 m (fun j => itr (sT P a0 a1 a2 a3 a4 a5 a6 a7 a8) (k + 1 - 1) ((allK P (P * P * P)).getD j (0, 0, 0))) by rw [hwz]; exact HRM.out)
          have HBZ := Lib.hid (show Below wf.heap.size wf wz by rw [hwz]; exact dr_o HBL.out _)
          have hgz : g2 < wz.heap.size := by rw [hwz]; exact hgs
          clear hwz
          go_wp2_with fail
          exact ⟨⟨k + 1, by omega, by omega, by go_num, HRZ.out, HBZ.out, hgz⟩, by simp [intOf]; omega⟩

end Go.Proofs.Ytfdbkocpljiehaa
