/- Walks: finite.Apply. -/
import Derived.Test.YtfdbkocpljiehaaWu
set_option linter.unusedSimpArgs false
set_option linter.unusedVariables false
namespace Go.Proofs.Ytfdbkocpljiehaa
open Go.RowKit

set_option maxRecDepth 100000 in
set_option maxHeartbeats 2000000 in
theorem Apply18_bad (p a0 a1 a2 a3 a4 a5 a6 a7 a8 x y z : Int) (hp : isP p = false) (w : World) :
    Calls Try.prog 18 #[.int .i64 p, .agg #[.int .i64 a0, .int .i64 a1, .int .i64 a2, .int .i64 a3, .int .i64 a4, .int .i64 a5, .int .i64 a6, .int .i64 a7, .int .i64 a8], .agg #[.int .i64 x, .int .i64 y, .int .i64 z]] w fun e w' =>
      e = .returned (.tuple #[.agg #[.int .i64 0, .int .i64 0, .int .i64 0], .int .i64 4]) ∧ Below w.heap.size w w' := by
  go_enter Try.func18, Try.ntmps18
  go_wp2_with (go_at_call 35; refine (prime35_no _ hp _).mono ?_; rintro e w' ⟨rfl, rfl⟩)
  go_returns
  exact ⟨rfl, by go_grown⟩

set_option maxRecDepth 100000 in
set_option maxHeartbeats 4000000 in
theorem Apply18_fw (p a0 a1 a2 a3 a4 a5 a6 a7 a8 A0 A1 A2 A3 A4 A5 A6 A7 A8 X Y Z x y z u0 u1 u2 t0 t1 t2 : Int) (zb : Bool) (hp : isP p = true) (h0 : Hid (a0 % p = A0)) (h1 : Hid (a1 % p = A1)) (h2 : Hid (a2 % p = A2)) (h3 : Hid (a3 % p = A3)) (h4 : Hid (a4 % p = A4)) (h5 : Hid (a5 % p = A5)) (h6 : Hid (a6 % p = A6)) (h7 : Hid (a7 % p = A7)) (h8 : Hid (a8 % p = A8)) (b0 : 0 ≤ A0 ∧ A0 ≤ 12) (b1 : 0 ≤ A1 ∧ A1 ≤ 12) (b2 : 0 ≤ A2 ∧ A2 ≤ 12) (b3 : 0 ≤ A3 ∧ A3 ≤ 12) (b4 : 0 ≤ A4 ∧ A4 ≤ 12) (b5 : 0 ≤ A5 ∧ A5 ≤ 12) (b6 : 0 ≤ A6 ∧ A6 ≤ 12) (b7 : 0 ≤ A7 ∧ A7 ≤ 12) (b8 : 0 ≤ A8 ∧ A8 ≤ 12) (hX : Hid ((A4 * A8 - A5 * A7) % p = X)) (hY : Hid ((A5 * A6 - A3 * A8) % p = Y)) (hZ : Hid ((A3 * A7 - A4 * A6) % p = Z)) (bX : 0 ≤ X ∧ X ≤ 12) (bY : 0 ≤ Y ∧ Y ≤ 12) (bZ : 0 ≤ Z ∧ Z ≤ 12) (hd : ((A0 * X + A1 * Y + A2 * Z) % p != 0) = false) (hu : pl p x y z = (u0, u1, u2)) (hz : zz p x y z = zb) (w : World) :
    Calls Try.prog 18 #[.int .i64 p, .agg #[.int .i64 a0, .int .i64 a1, .int .i64 a2, .int .i64 a3, .int .i64 a4, .int .i64 a5, .int .i64 a6, .int .i64 a7, .int .i64 a8], .agg #[.int .i64 x, .int .i64 y, .int .i64 z]] w fun e w' =>
      e = .returned (.tuple #[.agg #[.int .i64 0, .int .i64 0, .int .i64 0], .int .i64 5]) ∧ Below w.heap.size w w' := by
  obtain ⟨h, h'⟩ := isP_bd hp
  have hub := pl_bd p x y z h h'
  rw [hu] at hub
  obtain ⟨bu0, bu1, bu2⟩ := hub
  dsimp only at bu0 bu1 bu2
  have HP := Lib.hid hp
  have Hhu := Lib.hid hu
  have Hhz := Lib.hid hz
  clear hp hu hz
  go_enter Try.func18, Try.ntmps18
  go_wp2_with (go_at_call 35; refine (prime35_yes _ HP.out _).mono ?_; rintro e w' ⟨rfl, rfl⟩)
  go_wp2_with fail
  refine (readW38 _ _ _ _ _ _ _ _ _ _ _ _ _ _ _ _ _ _ _ _ _ _ h h' h0 h1 h2 h3 h4 h5 h6 h7 h8 b0 b1 b2 b3 b4 b5 b6 b7 b8 hX hY hZ bX bY bZ _).mono ?_
  rintro e w1 ⟨rfl, hb⟩
  have hsz : w.heap.size + 3 ≤ w1.heap.size := by have := hb.size; simp at this; omega
  have hs1_0 : w.heap.size < w1.heap.size := by omega
  have c1_0_0 : w1.cell? ⟨w.heap.size, 0, none⟩ = some (.int .i64 a0) := by rw [hb.cell (by simp <;> omega)]; first | (simp [go_sem]; done)
  have c1_0_1 : w1.cell? ⟨w.heap.size, 1, none⟩ = some (.int .i64 a1) := by rw [hb.cell (by simp <;> omega)]; first | (simp [go_sem]; done)
  have c1_0_2 : w1.cell? ⟨w.heap.size, 2, none⟩ = some (.int .i64 a2) := by rw [hb.cell (by simp <;> omega)]; first | (simp [go_sem]; done)
  have c1_0_3 : w1.cell? ⟨w.heap.size, 3, none⟩ = some (.int .i64 a3) := by rw [hb.cell (by simp <;> omega)]; first | (simp [go_sem]; done)
  have c1_0_4 : w1.cell? ⟨w.heap.size, 4, none⟩ = some (.int .i64 a4) := by rw [hb.cell (by simp <;> omega)]; first | (simp [go_sem]; done)
  have c1_0_5 : w1.cell? ⟨w.heap.size, 5, none⟩ = some (.int .i64 a5) := by rw [hb.cell (by simp <;> omega)]; first | (simp [go_sem]; done)
  have c1_0_6 : w1.cell? ⟨w.heap.size, 6, none⟩ = some (.int .i64 a6) := by rw [hb.cell (by simp <;> omega)]; first | (simp [go_sem]; done)
  have c1_0_7 : w1.cell? ⟨w.heap.size, 7, none⟩ = some (.int .i64 a7) := by rw [hb.cell (by simp <;> omega)]; first | (simp [go_sem]; done)
  have c1_0_8 : w1.cell? ⟨w.heap.size, 8, none⟩ = some (.int .i64 a8) := by rw [hb.cell (by simp <;> omega)]; first | (simp [go_sem]; done)
  have hs1_1 : w.heap.size + 1 < w1.heap.size := by omega
  have c1_1_0 : w1.cell? ⟨w.heap.size + 1, 0, none⟩ = some (.int .i64 x) := by rw [hb.cell (by simp <;> omega)]; first | (simp [go_sem]; done)
  have c1_1_1 : w1.cell? ⟨w.heap.size + 1, 1, none⟩ = some (.int .i64 y) := by rw [hb.cell (by simp <;> omega)]; first | (simp [go_sem]; done)
  have c1_1_2 : w1.cell? ⟨w.heap.size + 1, 2, none⟩ = some (.int .i64 z) := by rw [hb.cell (by simp <;> omega)]; first | (simp [go_sem]; done)
  have hs1_2 : w.heap.size + 1 + 1 < w1.heap.size := by omega
  have c1_2_0 : w1.cell? ⟨w.heap.size + 1 + 1, 0, none⟩ = some (.int .i64 0) := by rw [hb.cell (by simp <;> omega)]; first | (simp [go_sem]; done)
  have c1_2_1 : w1.cell? ⟨w.heap.size + 1 + 1, 1, none⟩ = some (.int .i64 0) := by rw [hb.cell (by simp <;> omega)]; first | (simp [go_sem]; done)
  have c1_2_2 : w1.cell? ⟨w.heap.size + 1 + 1, 2, none⟩ = some (.int .i64 0) := by rw [hb.cell (by simp <;> omega)]; first | (simp [go_sem]; done)
  have g1_2_0 : w1.frozen? ⟨w.heap.size + 1 + 1, 0, none⟩ = false := by rw [hb.frozen (by simp <;> omega)]; first | (simp [go_sem]; done)
  have g1_2_1 : w1.frozen? ⟨w.heap.size + 1 + 1, 1, none⟩ = false := by rw [hb.frozen (by simp <;> omega)]; first | (simp [go_sem]; done)
  have g1_2_2 : w1.frozen? ⟨w.heap.size + 1 + 1, 2, none⟩ = false := by rw [hb.frozen (by simp <;> omega)]; first | (simp [go_sem]; done)
  have HB1 := Lib.hid (Below.trans ((ba_c ((ba_c ((ba_c (Below.refl w.heap.size w) (Nat.le_refl _) _)) (Nat.le_refl _) _)) (Nat.le_refl _) _)) (hb.mono (Below.size ((ba_c ((ba_c ((ba_c (Below.refl w.heap.size w) (Nat.le_refl _) _)) (Nat.le_refl _) _)) (Nat.le_refl _) _)))))
  clear hb hsz
  go_wp2_with fail
  refine (plain36e _ _ _ _ _ _ _ _ Hhu.out Hhz.out h h' _).mono ?_
  rintro e w2 ⟨rfl, hb⟩
  have hsz : w1.heap.size + 1 ≤ w2.heap.size := by have := hb.size; simp at this; omega
  have hs2_0 : w.heap.size < w2.heap.size := by omega
  have c2_0_0 : w2.cell? ⟨w.heap.size, 0, none⟩ = some (.int .i64 a0) := by rw [hb.cell (by simp <;> omega)]; first | exact c1_0_0 | (rw [World.cell?_alloc_lt _ _ _ hs1_0]; exact c1_0_0) | (simp [go_sem]; done)
  have c2_0_1 : w2.cell? ⟨w.heap.size, 1, none⟩ = some (.int .i64 a1) := by rw [hb.cell (by simp <;> omega)]; first | exact c1_0_1 | (rw [World.cell?_alloc_lt _ _ _ hs1_0]; exact c1_0_1) | (simp [go_sem]; done)
  have c2_0_2 : w2.cell? ⟨w.heap.size, 2, none⟩ = some (.int .i64 a2) := by rw [hb.cell (by simp <;> omega)]; first | exact c1_0_2 | (rw [World.cell?_alloc_lt _ _ _ hs1_0]; exact c1_0_2) | (simp [go_sem]; done)
  have c2_0_3 : w2.cell? ⟨w.heap.size, 3, none⟩ = some (.int .i64 a3) := by rw [hb.cell (by simp <;> omega)]; first | exact c1_0_3 | (rw [World.cell?_alloc_lt _ _ _ hs1_0]; exact c1_0_3) | (simp [go_sem]; done)
  have c2_0_4 : w2.cell? ⟨w.heap.size, 4, none⟩ = some (.int .i64 a4) := by rw [hb.cell (by simp <;> omega)]; first | exact c1_0_4 | (rw [World.cell?_alloc_lt _ _ _ hs1_0]; exact c1_0_4) | (simp [go_sem]; done)
  have c2_0_5 : w2.cell? ⟨w.heap.size, 5, none⟩ = some (.int .i64 a5) := by rw [hb.cell (by simp <;> omega)]; first | exact c1_0_5 | (rw [World.cell?_alloc_lt _ _ _ hs1_0]; exact c1_0_5) | (simp [go_sem]; done)
  have c2_0_6 : w2.cell? ⟨w.heap.size, 6, none⟩ = some (.int .i64 a6) := by rw [hb.cell (by simp <;> omega)]; first | exact c1_0_6 | (rw [World.cell?_alloc_lt _ _ _ hs1_0]; exact c1_0_6) | (simp [go_sem]; done)
  have c2_0_7 : w2.cell? ⟨w.heap.size, 7, none⟩ = some (.int .i64 a7) := by rw [hb.cell (by simp <;> omega)]; first | exact c1_0_7 | (rw [World.cell?_alloc_lt _ _ _ hs1_0]; exact c1_0_7) | (simp [go_sem]; done)
  have c2_0_8 : w2.cell? ⟨w.heap.size, 8, none⟩ = some (.int .i64 a8) := by rw [hb.cell (by simp <;> omega)]; first | exact c1_0_8 | (rw [World.cell?_alloc_lt _ _ _ hs1_0]; exact c1_0_8) | (simp [go_sem]; done)
  have hs2_1 : w.heap.size + 1 < w2.heap.size := by omega
  have c2_1_0 : w2.cell? ⟨w.heap.size + 1, 0, none⟩ = some (.int .i64 x) := by rw [hb.cell (by simp <;> omega)]; first | exact c1_1_0 | (rw [World.cell?_alloc_lt _ _ _ hs1_1]; exact c1_1_0) | (simp [go_sem]; done)
  have c2_1_1 : w2.cell? ⟨w.heap.size + 1, 1, none⟩ = some (.int .i64 y) := by rw [hb.cell (by simp <;> omega)]; first | exact c1_1_1 | (rw [World.cell?_alloc_lt _ _ _ hs1_1]; exact c1_1_1) | (simp [go_sem]; done)
  have c2_1_2 : w2.cell? ⟨w.heap.size + 1, 2, none⟩ = some (.int .i64 z) := by rw [hb.cell (by simp <;> omega)]; first | exact c1_1_2 | (rw [World.cell?_alloc_lt _ _ _ hs1_1]; exact c1_1_2) | (simp [go_sem]; done)
  have hs2_2 : w.heap.size + 1 + 1 < w2.heap.size := by omega
  have c2_2_0 : w2.cell? ⟨w.heap.size + 1 + 1, 0, none⟩ = some (.int .i64 0) := by rw [hb.cell (by simp <;> omega)]; first | exact c1_2_0 | (rw [World.cell?_alloc_lt _ _ _ hs1_2]; exact c1_2_0) | (simp [go_sem]; done)
  have c2_2_1 : w2.cell? ⟨w.heap.size + 1 + 1, 1, none⟩ = some (.int .i64 0) := by rw [hb.cell (by simp <;> omega)]; first | exact c1_2_1 | (rw [World.cell?_alloc_lt _ _ _ hs1_2]; exact c1_2_1) | (simp [go_sem]; done)
  have c2_2_2 : w2.cell? ⟨w.heap.size + 1 + 1, 2, none⟩ = some (.int .i64 0) := by rw [hb.cell (by simp <;> omega)]; first | exact c1_2_2 | (rw [World.cell?_alloc_lt _ _ _ hs1_2]; exact c1_2_2) | (simp [go_sem]; done)
  have g2_2_0 : w2.frozen? ⟨w.heap.size + 1 + 1, 0, none⟩ = false := by rw [hb.frozen (by simp <;> omega)]; first | exact g1_2_0 | (rw [World.frozen?_alloc_old _ _ _ (Nat.ne_of_lt hs1_2)]; exact g1_2_0) | (simp [go_sem, g1_2_0]; done) | (simp [go_sem]; done)
  have g2_2_1 : w2.frozen? ⟨w.heap.size + 1 + 1, 1, none⟩ = false := by rw [hb.frozen (by simp <;> omega)]; first | exact g1_2_1 | (rw [World.frozen?_alloc_old _ _ _ (Nat.ne_of_lt hs1_2)]; exact g1_2_1) | (simp [go_sem, g1_2_1]; done) | (simp [go_sem]; done)
  have g2_2_2 : w2.frozen? ⟨w.heap.size + 1 + 1, 2, none⟩ = false := by rw [hb.frozen (by simp <;> omega)]; first | exact g1_2_2 | (rw [World.frozen?_alloc_old _ _ _ (Nat.ne_of_lt hs1_2)]; exact g1_2_2) | (simp [go_sem, g1_2_2]; done) | (simp [go_sem]; done)
  have hs2_3 : w1.heap.size < w2.heap.size := by omega
  have c2_3_0 : w2.cell? ⟨w1.heap.size, 0, none⟩ = some (.int .i64 A0) := by rw [hb.cell (by simp <;> omega)]; first | (simp [go_sem]; done)
  have c2_3_1 : w2.cell? ⟨w1.heap.size, 1, none⟩ = some (.int .i64 A1) := by rw [hb.cell (by simp <;> omega)]; first | (simp [go_sem]; done)
  have c2_3_2 : w2.cell? ⟨w1.heap.size, 2, none⟩ = some (.int .i64 A2) := by rw [hb.cell (by simp <;> omega)]; first | (simp [go_sem]; done)
  have c2_3_3 : w2.cell? ⟨w1.heap.size, 3, none⟩ = some (.int .i64 A3) := by rw [hb.cell (by simp <;> omega)]; first | (simp [go_sem]; done)
  have c2_3_4 : w2.cell? ⟨w1.heap.size, 4, none⟩ = some (.int .i64 A4) := by rw [hb.cell (by simp <;> omega)]; first | (simp [go_sem]; done)
  have c2_3_5 : w2.cell? ⟨w1.heap.size, 5, none⟩ = some (.int .i64 A5) := by rw [hb.cell (by simp <;> omega)]; first | (simp [go_sem]; done)
  have c2_3_6 : w2.cell? ⟨w1.heap.size, 6, none⟩ = some (.int .i64 A6) := by rw [hb.cell (by simp <;> omega)]; first | (simp [go_sem]; done)
  have c2_3_7 : w2.cell? ⟨w1.heap.size, 7, none⟩ = some (.int .i64 A7) := by rw [hb.cell (by simp <;> omega)]; first | (simp [go_sem]; done)
  have c2_3_8 : w2.cell? ⟨w1.heap.size, 8, none⟩ = some (.int .i64 A8) := by rw [hb.cell (by simp <;> omega)]; first | (simp [go_sem]; done)
  have HB2 := Lib.hid (Below.trans ((ba_c (HB1.out) (Nat.le_refl _) _)) (hb.mono (Below.size ((ba_c (HB1.out) (Nat.le_refl _) _)))))
  clear hb hsz c1_0_0 c1_0_1 c1_0_2 c1_0_3 c1_0_4 c1_0_5 c1_0_6 c1_0_7 c1_0_8 c1_1_0 c1_1_1 c1_1_2 c1_2_0 c1_2_1 c1_2_2 g1_2_0 g1_2_1 g1_2_2 hs1_0 hs1_1 hs1_2
  go_wp2
  refine bodyPost_ret (v := .tuple #[.agg #[.int .i64 0, .int .i64 0, .int .i64 0], .int .i64 5]) (by simp [results, Try.results18, go_sem, c2_2_0, g2_2_0, c2_2_1, g2_2_1, c2_2_2, g2_2_2, hs2_0, hs2_1, hs2_2, hs2_3]) rfl ⟨rfl, ?_⟩
  have hB := HB2.out
  go_grown

set_option maxRecDepth 100000 in
set_option maxHeartbeats 4000000 in
theorem Apply18_fh (p a0 a1 a2 a3 a4 a5 a6 a7 a8 A0 A1 A2 A3 A4 A5 A6 A7 A8 X Y Z x y z u0 u1 u2 t0 t1 t2 : Int) (hp : isP p = true) (h0 : Hid (a0 % p = A0)) (h1 : Hid (a1 % p = A1)) (h2 : Hid (a2 % p = A2)) (h3 : Hid (a3 % p = A3)) (h4 : Hid (a4 % p = A4)) (h5 : Hid (a5 % p = A5)) (h6 : Hid (a6 % p = A6)) (h7 : Hid (a7 % p = A7)) (h8 : Hid (a8 % p = A8)) (b0 : 0 ≤ A0 ∧ A0 ≤ 12) (b1 : 0 ≤ A1 ∧ A1 ≤ 12) (b2 : 0 ≤ A2 ∧ A2 ≤ 12) (b3 : 0 ≤ A3 ∧ A3 ≤ 12) (b4 : 0 ≤ A4 ∧ A4 ≤ 12) (b5 : 0 ≤ A5 ∧ A5 ≤ 12) (b6 : 0 ≤ A6 ∧ A6 ≤ 12) (b7 : 0 ≤ A7 ∧ A7 ≤ 12) (b8 : 0 ≤ A8 ∧ A8 ≤ 12) (hX : Hid ((A4 * A8 - A5 * A7) % p = X)) (hY : Hid ((A5 * A6 - A3 * A8) % p = Y)) (hZ : Hid ((A3 * A7 - A4 * A6) % p = Z)) (bX : 0 ≤ X ∧ X ≤ 12) (bY : 0 ≤ Y ∧ Y ≤ 12) (bZ : 0 ≤ Z ∧ Z ≤ 12) (hd : ((A0 * X + A1 * Y + A2 * Z) % p != 0) = true) (hu : pl p x y z = (u0, u1, u2)) (hz : zz p x y z = true) (w : World) :
    Calls Try.prog 18 #[.int .i64 p, .agg #[.int .i64 a0, .int .i64 a1, .int .i64 a2, .int .i64 a3, .int .i64 a4, .int .i64 a5, .int .i64 a6, .int .i64 a7, .int .i64 a8], .agg #[.int .i64 x, .int .i64 y, .int .i64 z]] w fun e w' =>
      e = .returned (.tuple #[.agg #[.int .i64 0, .int .i64 0, .int .i64 0], .int .i64 5]) ∧ Below w.heap.size w w' := by
  obtain ⟨h, h'⟩ := isP_bd hp
  have hub := pl_bd p x y z h h'
  rw [hu] at hub
  obtain ⟨bu0, bu1, bu2⟩ := hub
  dsimp only at bu0 bu1 bu2
  have HP := Lib.hid hp
  have Hhu := Lib.hid hu
  have Hhz := Lib.hid hz
  clear hp hu hz
  go_enter Try.func18, Try.ntmps18
  go_wp2_with (go_at_call 35; refine (prime35_yes _ HP.out _).mono ?_; rintro e w' ⟨rfl, rfl⟩)
  go_wp2_with fail
  refine (readW38 _ _ _ _ _ _ _ _ _ _ _ _ _ _ _ _ _ _ _ _ _ _ h h' h0 h1 h2 h3 h4 h5 h6 h7 h8 b0 b1 b2 b3 b4 b5 b6 b7 b8 hX hY hZ bX bY bZ _).mono ?_
  rintro e w1 ⟨rfl, hb⟩
  have hsz : w.heap.size + 3 ≤ w1.heap.size := by have := hb.size; simp at this; omega
  have hs1_0 : w.heap.size < w1.heap.size := by omega
  have c1_0_0 : w1.cell? ⟨w.heap.size, 0, none⟩ = some (.int .i64 a0) := by rw [hb.cell (by simp <;> omega)]; first | (simp [go_sem]; done)
  have c1_0_1 : w1.cell? ⟨w.heap.size, 1, none⟩ = some (.int .i64 a1) := by rw [hb.cell (by simp <;> omega)]; first | (simp [go_sem]; done)
  have c1_0_2 : w1.cell? ⟨w.heap.size, 2, none⟩ = some (.int .i64 a2) := by rw [hb.cell (by simp <;> omega)]; first | (simp [go_sem]; done)
  have c1_0_3 : w1.cell? ⟨w.heap.size, 3, none⟩ = some (.int .i64 a3) := by rw [hb.cell (by simp <;> omega)]; first | (simp [go_sem]; done)
  have c1_0_4 : w1.cell? ⟨w.heap.size, 4, none⟩ = some (.int .i64 a4) := by rw [hb.cell (by simp <;> omega)]; first | (simp [go_sem]; done)
  have c1_0_5 : w1.cell? ⟨w.heap.size, 5, none⟩ = some (.int .i64 a5) := by rw [hb.cell (by simp <;> omega)]; first | (simp [go_sem]; done)
  have c1_0_6 : w1.cell? ⟨w.heap.size, 6, none⟩ = some (.int .i64 a6) := by rw [hb.cell (by simp <;> omega)]; first | (simp [go_sem]; done)
  have c1_0_7 : w1.cell? ⟨w.heap.size, 7, none⟩ = some (.int .i64 a7) := by rw [hb.cell (by simp <;> omega)]; first | (simp [go_sem]; done)
  have c1_0_8 : w1.cell? ⟨w.heap.size, 8, none⟩ = some (.int .i64 a8) := by rw [hb.cell (by simp <;> omega)]; first | (simp [go_sem]; done)
  have hs1_1 : w.heap.size + 1 < w1.heap.size := by omega
  have c1_1_0 : w1.cell? ⟨w.heap.size + 1, 0, none⟩ = some (.int .i64 x) := by rw [hb.cell (by simp <;> omega)]; first | (simp [go_sem]; done)
  have c1_1_1 : w1.cell? ⟨w.heap.size + 1, 1, none⟩ = some (.int .i64 y) := by rw [hb.cell (by simp <;> omega)]; first | (simp [go_sem]; done)
  have c1_1_2 : w1.cell? ⟨w.heap.size + 1, 2, none⟩ = some (.int .i64 z) := by rw [hb.cell (by simp <;> omega)]; first | (simp [go_sem]; done)
  have hs1_2 : w.heap.size + 1 + 1 < w1.heap.size := by omega
  have c1_2_0 : w1.cell? ⟨w.heap.size + 1 + 1, 0, none⟩ = some (.int .i64 0) := by rw [hb.cell (by simp <;> omega)]; first | (simp [go_sem]; done)
  have c1_2_1 : w1.cell? ⟨w.heap.size + 1 + 1, 1, none⟩ = some (.int .i64 0) := by rw [hb.cell (by simp <;> omega)]; first | (simp [go_sem]; done)
  have c1_2_2 : w1.cell? ⟨w.heap.size + 1 + 1, 2, none⟩ = some (.int .i64 0) := by rw [hb.cell (by simp <;> omega)]; first | (simp [go_sem]; done)
  have g1_2_0 : w1.frozen? ⟨w.heap.size + 1 + 1, 0, none⟩ = false := by rw [hb.frozen (by simp <;> omega)]; first | (simp [go_sem]; done)
  have g1_2_1 : w1.frozen? ⟨w.heap.size + 1 + 1, 1, none⟩ = false := by rw [hb.frozen (by simp <;> omega)]; first | (simp [go_sem]; done)
  have g1_2_2 : w1.frozen? ⟨w.heap.size + 1 + 1, 2, none⟩ = false := by rw [hb.frozen (by simp <;> omega)]; first | (simp [go_sem]; done)
  have HB1 := Lib.hid (Below.trans ((ba_c ((ba_c ((ba_c (Below.refl w.heap.size w) (Nat.le_refl _) _)) (Nat.le_refl _) _)) (Nat.le_refl _) _)) (hb.mono (Below.size ((ba_c ((ba_c ((ba_c (Below.refl w.heap.size w) (Nat.le_refl _) _)) (Nat.le_refl _) _)) (Nat.le_refl _) _)))))
  clear hb hsz
  go_wp2_with fail
  refine (plain36e _ _ _ _ _ _ _ _ Hhu.out Hhz.out h h' _).mono ?_
  rintro e w2 ⟨rfl, hb⟩
  have hsz : w1.heap.size + 1 ≤ w2.heap.size := by have := hb.size; simp at this; omega
  have hs2_0 : w.heap.size < w2.heap.size := by omega
  have c2_0_0 : w2.cell? ⟨w.heap.size, 0, none⟩ = some (.int .i64 a0) := by rw [hb.cell (by simp <;> omega)]; first | exact c1_0_0 | (rw [World.cell?_alloc_lt _ _ _ hs1_0]; exact c1_0_0) | (simp [go_sem]; done)
  have c2_0_1 : w2.cell? ⟨w.heap.size, 1, none⟩ = some (.int .i64 a1) := by rw [hb.cell (by simp <;> omega)]; first | exact c1_0_1 | (rw [World.cell?_alloc_lt _ _ _ hs1_0]; exact c1_0_1) | (simp [go_sem]; done)
  have c2_0_2 : w2.cell? ⟨w.heap.size, 2, none⟩ = some (.int .i64 a2) := by rw [hb.cell (by simp <;> omega)]; first | exact c1_0_2 | (rw [World.cell?_alloc_lt _ _ _ hs1_0]; exact c1_0_2) | (simp [go_sem]; done)
  have c2_0_3 : w2.cell? ⟨w.heap.size, 3, none⟩ = some (.int .i64 a3) := by rw [hb.cell (by simp <;> omega)]; first | exact c1_0_3 | (rw [World.cell?_alloc_lt _ _ _ hs1_0]; exact c1_0_3) | (simp [go_sem]; done)
  have c2_0_4 : w2.cell? ⟨w.heap.size, 4, none⟩ = some (.int .i64 a4) := by rw [hb.cell (by simp <;> omega)]; first | exact c1_0_4 | (rw [World.cell?_alloc_lt _ _ _ hs1_0]; exact c1_0_4) | (simp [go_sem]; done)
  have c2_0_5 : w2.cell? ⟨w.heap.size, 5, none⟩ = some (.int .i64 a5) := by rw [hb.cell (by simp <;> omega)]; first | exact c1_0_5 | (rw [World.cell?_alloc_lt _ _ _ hs1_0]; exact c1_0_5) | (simp [go_sem]; done)
  have c2_0_6 : w2.cell? ⟨w.heap.size, 6, none⟩ = some (.int .i64 a6) := by rw [hb.cell (by simp <;> omega)]; first | exact c1_0_6 | (rw [World.cell?_alloc_lt _ _ _ hs1_0]; exact c1_0_6) | (simp [go_sem]; done)
  have c2_0_7 : w2.cell? ⟨w.heap.size, 7, none⟩ = some (.int .i64 a7) := by rw [hb.cell (by simp <;> omega)]; first | exact c1_0_7 | (rw [World.cell?_alloc_lt _ _ _ hs1_0]; exact c1_0_7) | (simp [go_sem]; done)
  have c2_0_8 : w2.cell? ⟨w.heap.size, 8, none⟩ = some (.int .i64 a8) := by rw [hb.cell (by simp <;> omega)]; first | exact c1_0_8 | (rw [World.cell?_alloc_lt _ _ _ hs1_0]; exact c1_0_8) | (simp [go_sem]; done)
  have hs2_1 : w.heap.size + 1 < w2.heap.size := by omega
  have c2_1_0 : w2.cell? ⟨w.heap.size + 1, 0, none⟩ = some (.int .i64 x) := by rw [hb.cell (by simp <;> omega)]; first | exact c1_1_0 | (rw [World.cell?_alloc_lt _ _ _ hs1_1]; exact c1_1_0) | (simp [go_sem]; done)
  have c2_1_1 : w2.cell? ⟨w.heap.size + 1, 1, none⟩ = some (.int .i64 y) := by rw [hb.cell (by simp <;> omega)]; first | exact c1_1_1 | (rw [World.cell?_alloc_lt _ _ _ hs1_1]; exact c1_1_1) | (simp [go_sem]; done)
  have c2_1_2 : w2.cell? ⟨w.heap.size + 1, 2, none⟩ = some (.int .i64 z) := by rw [hb.cell (by simp <;> omega)]; first | exact c1_1_2 | (rw [World.cell?_alloc_lt _ _ _ hs1_1]; exact c1_1_2) | (simp [go_sem]; done)
  have hs2_2 : w.heap.size + 1 + 1 < w2.heap.size := by omega
  have c2_2_0 : w2.cell? ⟨w.heap.size + 1 + 1, 0, none⟩ = some (.int .i64 0) := by rw [hb.cell (by simp <;> omega)]; first | exact c1_2_0 | (rw [World.cell?_alloc_lt _ _ _ hs1_2]; exact c1_2_0) | (simp [go_sem]; done)
  have c2_2_1 : w2.cell? ⟨w.heap.size + 1 + 1, 1, none⟩ = some (.int .i64 0) := by rw [hb.cell (by simp <;> omega)]; first | exact c1_2_1 | (rw [World.cell?_alloc_lt _ _ _ hs1_2]; exact c1_2_1) | (simp [go_sem]; done)
  have c2_2_2 : w2.cell? ⟨w.heap.size + 1 + 1, 2, none⟩ = some (.int .i64 0) := by rw [hb.cell (by simp <;> omega)]; first | exact c1_2_2 | (rw [World.cell?_alloc_lt _ _ _ hs1_2]; exact c1_2_2) | (simp [go_sem]; done)
  have g2_2_0 : w2.frozen? ⟨w.heap.size + 1 + 1, 0, none⟩ = false := by rw [hb.frozen (by simp <;> omega)]; first | exact g1_2_0 | (rw [World.frozen?_alloc_old _ _ _ (Nat.ne_of_lt hs1_2)]; exact g1_2_0) | (simp [go_sem, g1_2_0]; done) | (simp [go_sem]; done)
  have g2_2_1 : w2.frozen? ⟨w.heap.size + 1 + 1, 1, none⟩ = false := by rw [hb.frozen (by simp <;> omega)]; first | exact g1_2_1 | (rw [World.frozen?_alloc_old _ _ _ (Nat.ne_of_lt hs1_2)]; exact g1_2_1) | (simp [go_sem, g1_2_1]; done) | (simp [go_sem]; done)
  have g2_2_2 : w2.frozen? ⟨w.heap.size + 1 + 1, 2, none⟩ = false := by rw [hb.frozen (by simp <;> omega)]; first | exact g1_2_2 | (rw [World.frozen?_alloc_old _ _ _ (Nat.ne_of_lt hs1_2)]; exact g1_2_2) | (simp [go_sem, g1_2_2]; done) | (simp [go_sem]; done)
  have hs2_3 : w1.heap.size < w2.heap.size := by omega
  have c2_3_0 : w2.cell? ⟨w1.heap.size, 0, none⟩ = some (.int .i64 A0) := by rw [hb.cell (by simp <;> omega)]; first | (simp [go_sem]; done)
  have c2_3_1 : w2.cell? ⟨w1.heap.size, 1, none⟩ = some (.int .i64 A1) := by rw [hb.cell (by simp <;> omega)]; first | (simp [go_sem]; done)
  have c2_3_2 : w2.cell? ⟨w1.heap.size, 2, none⟩ = some (.int .i64 A2) := by rw [hb.cell (by simp <;> omega)]; first | (simp [go_sem]; done)
  have c2_3_3 : w2.cell? ⟨w1.heap.size, 3, none⟩ = some (.int .i64 A3) := by rw [hb.cell (by simp <;> omega)]; first | (simp [go_sem]; done)
  have c2_3_4 : w2.cell? ⟨w1.heap.size, 4, none⟩ = some (.int .i64 A4) := by rw [hb.cell (by simp <;> omega)]; first | (simp [go_sem]; done)
  have c2_3_5 : w2.cell? ⟨w1.heap.size, 5, none⟩ = some (.int .i64 A5) := by rw [hb.cell (by simp <;> omega)]; first | (simp [go_sem]; done)
  have c2_3_6 : w2.cell? ⟨w1.heap.size, 6, none⟩ = some (.int .i64 A6) := by rw [hb.cell (by simp <;> omega)]; first | (simp [go_sem]; done)
  have c2_3_7 : w2.cell? ⟨w1.heap.size, 7, none⟩ = some (.int .i64 A7) := by rw [hb.cell (by simp <;> omega)]; first | (simp [go_sem]; done)
  have c2_3_8 : w2.cell? ⟨w1.heap.size, 8, none⟩ = some (.int .i64 A8) := by rw [hb.cell (by simp <;> omega)]; first | (simp [go_sem]; done)
  have HB2 := Lib.hid (Below.trans ((ba_c (HB1.out) (Nat.le_refl _) _)) (hb.mono (Below.size ((ba_c (HB1.out) (Nat.le_refl _) _)))))
  clear hb hsz c1_0_0 c1_0_1 c1_0_2 c1_0_3 c1_0_4 c1_0_5 c1_0_6 c1_0_7 c1_0_8 c1_1_0 c1_1_1 c1_1_2 c1_2_0 c1_2_1 c1_2_2 g1_2_0 g1_2_1 g1_2_2 hs1_0 hs1_1 hs1_2
  go_wp2
  refine bodyPost_ret (v := .tuple #[.agg #[.int .i64 0, .int .i64 0, .int .i64 0], .int .i64 5]) (by simp [results, Try.results18, go_sem, c2_2_0, g2_2_0, c2_2_1, g2_2_1, c2_2_2, g2_2_2, hs2_0, hs2_1, hs2_2, hs2_3]) rfl ⟨rfl, ?_⟩
  have hB := HB2.out
  go_grown

set_option maxRecDepth 100000 in
set_option maxHeartbeats 4000000 in
theorem Apply18_ok (p a0 a1 a2 a3 a4 a5 a6 a7 a8 A0 A1 A2 A3 A4 A5 A6 A7 A8 X Y Z x y z u0 u1 u2 t0 t1 t2 : Int) (hp : isP p = true) (h0 : Hid (a0 % p = A0)) (h1 : Hid (a1 % p = A1)) (h2 : Hid (a2 % p = A2)) (h3 : Hid (a3 % p = A3)) (h4 : Hid (a4 % p = A4)) (h5 : Hid (a5 % p = A5)) (h6 : Hid (a6 % p = A6)) (h7 : Hid (a7 % p = A7)) (h8 : Hid (a8 % p = A8)) (b0 : 0 ≤ A0 ∧ A0 ≤ 12) (b1 : 0 ≤ A1 ∧ A1 ≤ 12) (b2 : 0 ≤ A2 ∧ A2 ≤ 12) (b3 : 0 ≤ A3 ∧ A3 ≤ 12) (b4 : 0 ≤ A4 ∧ A4 ≤ 12) (b5 : 0 ≤ A5 ∧ A5 ≤ 12) (b6 : 0 ≤ A6 ∧ A6 ≤ 12) (b7 : 0 ≤ A7 ∧ A7 ≤ 12) (b8 : 0 ≤ A8 ∧ A8 ≤ 12) (hX : Hid ((A4 * A8 - A5 * A7) % p = X)) (hY : Hid ((A5 * A6 - A3 * A8) % p = Y)) (hZ : Hid ((A3 * A7 - A4 * A6) % p = Z)) (bX : 0 ≤ X ∧ X ≤ 12) (bY : 0 ≤ Y ∧ Y ≤ 12) (bZ : 0 ≤ Z ∧ Z ≤ 12) (hd : ((A0 * X + A1 * Y + A2 * Z) % p != 0) = true) (hu : pl p x y z = (u0, u1, u2)) (hz : zz p x y z = false) (zt : Bool) (ht : pl p ((A0 * u0 + A1 * u1 + A2 * u2) % p) ((A3 * u0 + A4 * u1 + A5 * u2) % p) ((A6 * u0 + A7 * u1 + A8 * u2) % p) = (t0, t1, t2)) (htz : zz p ((A0 * u0 + A1 * u1 + A2 * u2) % p) ((A3 * u0 + A4 * u1 + A5 * u2) % p) ((A6 * u0 + A7 * u1 + A8 * u2) % p) = zt) (w : World) :
    Calls Try.prog 18 #[.int .i64 p, .agg #[.int .i64 a0, .int .i64 a1, .int .i64 a2, .int .i64 a3, .int .i64 a4, .int .i64 a5, .int .i64 a6, .int .i64 a7, .int .i64 a8], .agg #[.int .i64 x, .int .i64 y, .int .i64 z]] w fun e w' =>
      e = .returned (.tuple #[.agg #[.int .i64 t0, .int .i64 t1, .int .i64 t2], .int .i64 0]) ∧ Below w.heap.size w w' := by
  obtain ⟨h, h'⟩ := isP_bd hp
  have hub := pl_bd p x y z h h'
  rw [hu] at hub
  obtain ⟨bu0, bu1, bu2⟩ := hub
  dsimp only at bu0 bu1 bu2
  have HP := Lib.hid hp
  have Hhu := Lib.hid hu
  have Hhz := Lib.hid hz
  have Hht := Lib.hid ht
  have Hhtz := Lib.hid htz
  clear ht htz
  clear hp hu hz
  go_enter Try.func18, Try.ntmps18
  go_wp2_with (go_at_call 35; refine (prime35_yes _ HP.out _).mono ?_; rintro e w' ⟨rfl, rfl⟩)
  go_wp2_with fail
  refine (readW38 _ _ _ _ _ _ _ _ _ _ _ _ _ _ _ _ _ _ _ _ _ _ h h' h0 h1 h2 h3 h4 h5 h6 h7 h8 b0 b1 b2 b3 b4 b5 b6 b7 b8 hX hY hZ bX bY bZ _).mono ?_
  rintro e w1 ⟨rfl, hb⟩
  have hsz : w.heap.size + 3 ≤ w1.heap.size := by have := hb.size; simp at this; omega
  have hs1_0 : w.heap.size < w1.heap.size := by omega
  have c1_0_0 : w1.cell? ⟨w.heap.size, 0, none⟩ = some (.int .i64 a0) := by rw [hb.cell (by simp <;> omega)]; first | (simp [go_sem]; done)
  have c1_0_1 : w1.cell? ⟨w.heap.size, 1, none⟩ = some (.int .i64 a1) := by rw [hb.cell (by simp <;> omega)]; first | (simp [go_sem]; done)
  have c1_0_2 : w1.cell? ⟨w.heap.size, 2, none⟩ = some (.int .i64 a2) := by rw [hb.cell (by simp <;> omega)]; first | (simp [go_sem]; done)
  have c1_0_3 : w1.cell? ⟨w.heap.size, 3, none⟩ = some (.int .i64 a3) := by rw [hb.cell (by simp <;> omega)]; first | (simp [go_sem]; done)
  have c1_0_4 : w1.cell? ⟨w.heap.size, 4, none⟩ = some (.int .i64 a4) := by rw [hb.cell (by simp <;> omega)]; first | (simp [go_sem]; done)
  have c1_0_5 : w1.cell? ⟨w.heap.size, 5, none⟩ = some (.int .i64 a5) := by rw [hb.cell (by simp <;> omega)]; first | (simp [go_sem]; done)
  have c1_0_6 : w1.cell? ⟨w.heap.size, 6, none⟩ = some (.int .i64 a6) := by rw [hb.cell (by simp <;> omega)]; first | (simp [go_sem]; done)
  have c1_0_7 : w1.cell? ⟨w.heap.size, 7, none⟩ = some (.int .i64 a7) := by rw [hb.cell (by simp <;> omega)]; first | (simp [go_sem]; done)
  have c1_0_8 : w1.cell? ⟨w.heap.size, 8, none⟩ = some (.int .i64 a8) := by rw [hb.cell (by simp <;> omega)]; first | (simp [go_sem]; done)
  have hs1_1 : w.heap.size + 1 < w1.heap.size := by omega
  have c1_1_0 : w1.cell? ⟨w.heap.size + 1, 0, none⟩ = some (.int .i64 x) := by rw [hb.cell (by simp <;> omega)]; first | (simp [go_sem]; done)
  have c1_1_1 : w1.cell? ⟨w.heap.size + 1, 1, none⟩ = some (.int .i64 y) := by rw [hb.cell (by simp <;> omega)]; first | (simp [go_sem]; done)
  have c1_1_2 : w1.cell? ⟨w.heap.size + 1, 2, none⟩ = some (.int .i64 z) := by rw [hb.cell (by simp <;> omega)]; first | (simp [go_sem]; done)
  have hs1_2 : w.heap.size + 1 + 1 < w1.heap.size := by omega
  have c1_2_0 : w1.cell? ⟨w.heap.size + 1 + 1, 0, none⟩ = some (.int .i64 0) := by rw [hb.cell (by simp <;> omega)]; first | (simp [go_sem]; done)
  have c1_2_1 : w1.cell? ⟨w.heap.size + 1 + 1, 1, none⟩ = some (.int .i64 0) := by rw [hb.cell (by simp <;> omega)]; first | (simp [go_sem]; done)
  have c1_2_2 : w1.cell? ⟨w.heap.size + 1 + 1, 2, none⟩ = some (.int .i64 0) := by rw [hb.cell (by simp <;> omega)]; first | (simp [go_sem]; done)
  have g1_2_0 : w1.frozen? ⟨w.heap.size + 1 + 1, 0, none⟩ = false := by rw [hb.frozen (by simp <;> omega)]; first | (simp [go_sem]; done)
  have g1_2_1 : w1.frozen? ⟨w.heap.size + 1 + 1, 1, none⟩ = false := by rw [hb.frozen (by simp <;> omega)]; first | (simp [go_sem]; done)
  have g1_2_2 : w1.frozen? ⟨w.heap.size + 1 + 1, 2, none⟩ = false := by rw [hb.frozen (by simp <;> omega)]; first | (simp [go_sem]; done)
  have HB1 := Lib.hid (Below.trans ((ba_c ((ba_c ((ba_c (Below.refl w.heap.size w) (Nat.le_refl _) _)) (Nat.le_refl _) _)) (Nat.le_refl _) _)) (hb.mono (Below.size ((ba_c ((ba_c ((ba_c (Below.refl w.heap.size w) (Nat.le_refl _) _)) (Nat.le_refl _) _)) (Nat.le_refl _) _)))))
  clear hb hsz
  go_wp2_with fail
  refine (plain36e _ _ _ _ _ _ _ _ Hhu.out Hhz.out h h' _).mono ?_
  rintro e w2 ⟨rfl, hb⟩
  have hsz : w1.heap.size + 1 ≤ w2.heap.size := by have := hb.size; simp at this; omega
  have hs2_0 : w.heap.size < w2.heap.size := by omega
  have c2_0_0 : w2.cell? ⟨w.heap.size, 0, none⟩ = some (.int .i64 a0) := by rw [hb.cell (by simp <;> omega)]; first | exact c1_0_0 | (rw [World.cell?_alloc_lt _ _ _ hs1_0]; exact c1_0_0) | (simp [go_sem]; done)
  have c2_0_1 : w2.cell? ⟨w.heap.size, 1, none⟩ = some (.int .i64 a1) := by rw [hb.cell (by simp <;> omega)]; first | exact c1_0_1 | (rw [World.cell?_alloc_lt _ _ _ hs1_0]; exact c1_0_1) | (simp [go_sem]; done)
  have c2_0_2 : w2.cell? ⟨w.heap.size, 2, none⟩ = some (.int .i64 a2) := by rw [hb.cell (by simp <;> omega)]; first | exact c1_0_2 | (rw [World.cell?_alloc_lt _ _ _ hs1_0]; exact c1_0_2) | (simp [go_sem]; done)
  have c2_0_3 : w2.cell? ⟨w.heap.size, 3, none⟩ = some (.int .i64 a3) := by rw [hb.cell (by simp <;> omega)]; first | exact c1_0_3 | (rw [World.cell?_alloc_lt _ _ _ hs1_0]; exact c1_0_3) | (simp [go_sem]; done)
  have c2_0_4 : w2.cell? ⟨w.heap.size, 4, none⟩ = some (.int .i64 a4) := by rw [hb.cell (by simp <;> omega)]; first | exact c1_0_4 | (rw [World.cell?_alloc_lt _ _ _ hs1_0]; exact c1_0_4) | (simp [go_sem]; done)
  have c2_0_5 : w2.cell? ⟨w.heap.size, 5, none⟩ = some (.int .i64 a5) := by rw [hb.cell (by simp <;> omega)]; first | exact c1_0_5 | (rw [World.cell?_alloc_lt _ _ _ hs1_0]; exact c1_0_5) | (simp [go_sem]; done)
  have c2_0_6 : w2.cell? ⟨w.heap.size, 6, none⟩ = some (.int .i64 a6) := by rw [hb.cell (by simp <;> omega)]; first | exact c1_0_6 | (rw [World.cell?_alloc_lt _ _ _ hs1_0]; exact c1_0_6) | (simp [go_sem]; done)
  have c2_0_7 : w2.cell? ⟨w.heap.size, 7, none⟩ = some (.int .i64 a7) := by rw [hb.cell (by simp <;> omega)]; first | exact c1_0_7 | (rw [World.cell?_alloc_lt _ _ _ hs1_0]; exact c1_0_7) | (simp [go_sem]; done)
  have c2_0_8 : w2.cell? ⟨w.heap.size, 8, none⟩ = some (.int .i64 a8) := by rw [hb.cell (by simp <;> omega)]; first | exact c1_0_8 | (rw [World.cell?_alloc_lt _ _ _ hs1_0]; exact c1_0_8) | (simp [go_sem]; done)
  have hs2_1 : w.heap.size + 1 < w2.heap.size := by omega
  have c2_1_0 : w2.cell? ⟨w.heap.size + 1, 0, none⟩ = some (.int .i64 x) := by rw [hb.cell (by simp <;> omega)]; first | exact c1_1_0 | (rw [World.cell?_alloc_lt _ _ _ hs1_1]; exact c1_1_0) | (simp [go_sem]; done)
  have c2_1_1 : w2.cell? ⟨w.heap.size + 1, 1, none⟩ = some (.int .i64 y) := by rw [hb.cell (by simp <;> omega)]; first | exact c1_1_1 | (rw [World.cell?_alloc_lt _ _ _ hs1_1]; exact c1_1_1) | (simp [go_sem]; done)
  have c2_1_2 : w2.cell? ⟨w.heap.size + 1, 2, none⟩ = some (.int .i64 z) := by rw [hb.cell (by simp <;> omega)]; first | exact c1_1_2 | (rw [World.cell?_alloc_lt _ _ _ hs1_1]; exact c1_1_2) | (simp [go_sem]; done)
  have hs2_2 : w.heap.size + 1 + 1 < w2.heap.size := by omega
  have c2_2_0 : w2.cell? ⟨w.heap.size + 1 + 1, 0, none⟩ = some (.int .i64 0) := by rw [hb.cell (by simp <;> omega)]; first | exact c1_2_0 | (rw [World.cell?_alloc_lt _ _ _ hs1_2]; exact c1_2_0) | (simp [go_sem]; done)
  have c2_2_1 : w2.cell? ⟨w.heap.size + 1 + 1, 1, none⟩ = some (.int .i64 0) := by rw [hb.cell (by simp <;> omega)]; first | exact c1_2_1 | (rw [World.cell?_alloc_lt _ _ _ hs1_2]; exact c1_2_1) | (simp [go_sem]; done)
  have c2_2_2 : w2.cell? ⟨w.heap.size + 1 + 1, 2, none⟩ = some (.int .i64 0) := by rw [hb.cell (by simp <;> omega)]; first | exact c1_2_2 | (rw [World.cell?_alloc_lt _ _ _ hs1_2]; exact c1_2_2) | (simp [go_sem]; done)
  have g2_2_0 : w2.frozen? ⟨w.heap.size + 1 + 1, 0, none⟩ = false := by rw [hb.frozen (by simp <;> omega)]; first | exact g1_2_0 | (rw [World.frozen?_alloc_old _ _ _ (Nat.ne_of_lt hs1_2)]; exact g1_2_0) | (simp [go_sem, g1_2_0]; done) | (simp [go_sem]; done)
  have g2_2_1 : w2.frozen? ⟨w.heap.size + 1 + 1, 1, none⟩ = false := by rw [hb.frozen (by simp <;> omega)]; first | exact g1_2_1 | (rw [World.frozen?_alloc_old _ _ _ (Nat.ne_of_lt hs1_2)]; exact g1_2_1) | (simp [go_sem, g1_2_1]; done) | (simp [go_sem]; done)
  have g2_2_2 : w2.frozen? ⟨w.heap.size + 1 + 1, 2, none⟩ = false := by rw [hb.frozen (by simp <;> omega)]; first | exact g1_2_2 | (rw [World.frozen?_alloc_old _ _ _ (Nat.ne_of_lt hs1_2)]; exact g1_2_2) | (simp [go_sem, g1_2_2]; done) | (simp [go_sem]; done)
  have hs2_3 : w1.heap.size < w2.heap.size := by omega
  have c2_3_0 : w2.cell? ⟨w1.heap.size, 0, none⟩ = some (.int .i64 A0) := by rw [hb.cell (by simp <;> omega)]; first | (simp [go_sem]; done)
  have c2_3_1 : w2.cell? ⟨w1.heap.size, 1, none⟩ = some (.int .i64 A1) := by rw [hb.cell (by simp <;> omega)]; first | (simp [go_sem]; done)
  have c2_3_2 : w2.cell? ⟨w1.heap.size, 2, none⟩ = some (.int .i64 A2) := by rw [hb.cell (by simp <;> omega)]; first | (simp [go_sem]; done)
  have c2_3_3 : w2.cell? ⟨w1.heap.size, 3, none⟩ = some (.int .i64 A3) := by rw [hb.cell (by simp <;> omega)]; first | (simp [go_sem]; done)
  have c2_3_4 : w2.cell? ⟨w1.heap.size, 4, none⟩ = some (.int .i64 A4) := by rw [hb.cell (by simp <;> omega)]; first | (simp [go_sem]; done)
  have c2_3_5 : w2.cell? ⟨w1.heap.size, 5, none⟩ = some (.int .i64 A5) := by rw [hb.cell (by simp <;> omega)]; first | (simp [go_sem]; done)
  have c2_3_6 : w2.cell? ⟨w1.heap.size, 6, none⟩ = some (.int .i64 A6) := by rw [hb.cell (by simp <;> omega)]; first | (simp [go_sem]; done)
  have c2_3_7 : w2.cell? ⟨w1.heap.size, 7, none⟩ = some (.int .i64 A7) := by rw [hb.cell (by simp <;> omega)]; first | (simp [go_sem]; done)
  have c2_3_8 : w2.cell? ⟨w1.heap.size, 8, none⟩ = some (.int .i64 A8) := by rw [hb.cell (by simp <;> omega)]; first | (simp [go_sem]; done)
  have HB2 := Lib.hid (Below.trans ((ba_c (HB1.out) (Nat.le_refl _) _)) (hb.mono (Below.size ((ba_c (HB1.out) (Nat.le_refl _) _)))))
  clear hb hsz c1_0_0 c1_0_1 c1_0_2 c1_0_3 c1_0_4 c1_0_5 c1_0_6 c1_0_7 c1_0_8 c1_1_0 c1_1_1 c1_1_2 c1_2_0 c1_2_1 c1_2_2 g1_2_0 g1_2_1 g1_2_2 hs1_0 hs1_1 hs1_2
  go_wp2_with fail
  refine (apply39 _ _ _ _ _ _ _ _ _ _ _ _ _ h h' b0 b1 b2 b3 b4 b5 b6 b7 b8 bu0 bu1 bu2 _).mono ?_
  rintro e w3 ⟨rfl, hb⟩
  have hsz : w2.heap.size + 1 ≤ w3.heap.size := by have := hb.size; simp at this; omega
  have hs3_0 : w.heap.size < w3.heap.size := by omega
  have c3_0_0 : w3.cell? ⟨w.heap.size, 0, none⟩ = some (.int .i64 a0) := by rw [hb.cell (by simp <;> omega)]; first | exact c2_0_0 | (rw [World.cell?_alloc_lt _ _ _ hs2_0]; exact c2_0_0) | (simp [go_sem]; done)
  have c3_0_1 : w3.cell? ⟨w.heap.size, 1, none⟩ = some (.int .i64 a1) := by rw [hb.cell (by simp <;> omega)]; first | exact c2_0_1 | (rw [World.cell?_alloc_lt _ _ _ hs2_0]; exact c2_0_1) | (simp [go_sem]; done)
  have c3_0_2 : w3.cell? ⟨w.heap.size, 2, none⟩ = some (.int .i64 a2) := by rw [hb.cell (by simp <;> omega)]; first | exact c2_0_2 | (rw [World.cell?_alloc_lt _ _ _ hs2_0]; exact c2_0_2) | (simp [go_sem]; done)
  have c3_0_3 : w3.cell? ⟨w.heap.size, 3, none⟩ = some (.int .i64 a3) := by rw [hb.cell (by simp <;> omega)]; first | exact c2_0_3 | (rw [World.cell?_alloc_lt _ _ _ hs2_0]; exact c2_0_3) | (simp [go_sem]; done)
  have c3_0_4 : w3.cell? ⟨w.heap.size, 4, none⟩ = some (.int .i64 a4) := by rw [hb.cell (by simp <;> omega)]; first | exact c2_0_4 | (rw [World.cell?_alloc_lt _ _ _ hs2_0]; exact c2_0_4) | (simp [go_sem]; done)
  have c3_0_5 : w3.cell? ⟨w.heap.size, 5, none⟩ = some (.int .i64 a5) := by rw [hb.cell (by simp <;> omega)]; first | exact c2_0_5 | (rw [World.cell?_alloc_lt _ _ _ hs2_0]; exact c2_0_5) | (simp [go_sem]; done)
  have c3_0_6 : w3.cell? ⟨w.heap.size, 6, none⟩ = some (.int .i64 a6) := by rw [hb.cell (by simp <;> omega)]; first | exact c2_0_6 | (rw [World.cell?_alloc_lt _ _ _ hs2_0]; exact c2_0_6) | (simp [go_sem]; done)
  have c3_0_7 : w3.cell? ⟨w.heap.size, 7, none⟩ = some (.int .i64 a7) := by rw [hb.cell (by simp <;> omega)]; first | exact c2_0_7 | (rw [World.cell?_alloc_lt _ _ _ hs2_0]; exact c2_0_7) | (simp [go_sem]; done)
  have c3_0_8 : w3.cell? ⟨w.heap.size, 8, none⟩ = some (.int .i64 a8) := by rw [hb.cell (by simp <;> omega)]; first | exact c2_0_8 | (rw [World.cell?_alloc_lt _ _ _ hs2_0]; exact c2_0_8) | (simp [go_sem]; done)
  have hs3_1 : w.heap.size + 1 < w3.heap.size := by omega
  have c3_1_0 : w3.cell? ⟨w.heap.size + 1, 0, none⟩ = some (.int .i64 x) := by rw [hb.cell (by simp <;> omega)]; first | exact c2_1_0 | (rw [World.cell?_alloc_lt _ _ _ hs2_1]; exact c2_1_0) | (simp [go_sem]; done)
  have c3_1_1 : w3.cell? ⟨w.heap.size + 1, 1, none⟩ = some (.int .i64 y) := by rw [hb.cell (by simp <;> omega)]; first | exact c2_1_1 | (rw [World.cell?_alloc_lt _ _ _ hs2_1]; exact c2_1_1) | (simp [go_sem]; done)
  have c3_1_2 : w3.cell? ⟨w.heap.size + 1, 2, none⟩ = some (.int .i64 z) := by rw [hb.cell (by simp <;> omega)]; first | exact c2_1_2 | (rw [World.cell?_alloc_lt _ _ _ hs2_1]; exact c2_1_2) | (simp [go_sem]; done)
  have hs3_2 : w.heap.size + 1 + 1 < w3.heap.size := by omega
  have c3_2_0 : w3.cell? ⟨w.heap.size + 1 + 1, 0, none⟩ = some (.int .i64 0) := by rw [hb.cell (by simp <;> omega)]; first | exact c2_2_0 | (rw [World.cell?_alloc_lt _ _ _ hs2_2]; exact c2_2_0) | (simp [go_sem]; done)
  have c3_2_1 : w3.cell? ⟨w.heap.size + 1 + 1, 1, none⟩ = some (.int .i64 0) := by rw [hb.cell (by simp <;> omega)]; first | exact c2_2_1 | (rw [World.cell?_alloc_lt _ _ _ hs2_2]; exact c2_2_1) | (simp [go_sem]; done)
  have c3_2_2 : w3.cell? ⟨w.heap.size + 1 + 1, 2, none⟩ = some (.int .i64 0) := by rw [hb.cell (by simp <;> omega)]; first | exact c2_2_2 | (rw [World.cell?_alloc_lt _ _ _ hs2_2]; exact c2_2_2) | (simp [go_sem]; done)
  have g3_2_0 : w3.frozen? ⟨w.heap.size + 1 + 1, 0, none⟩ = false := by rw [hb.frozen (by simp <;> omega)]; first | exact g2_2_0 | (rw [World.frozen?_alloc_old _ _ _ (Nat.ne_of_lt hs2_2)]; exact g2_2_0) | (simp [go_sem, g2_2_0]; done) | (simp [go_sem]; done)
  have g3_2_1 : w3.frozen? ⟨w.heap.size + 1 + 1, 1, none⟩ = false := by rw [hb.frozen (by simp <;> omega)]; first | exact g2_2_1 | (rw [World.frozen?_alloc_old _ _ _ (Nat.ne_of_lt hs2_2)]; exact g2_2_1) | (simp [go_sem, g2_2_1]; done) | (simp [go_sem]; done)
  have g3_2_2 : w3.frozen? ⟨w.heap.size + 1 + 1, 2, none⟩ = false := by rw [hb.frozen (by simp <;> omega)]; first | exact g2_2_2 | (rw [World.frozen?_alloc_old _ _ _ (Nat.ne_of_lt hs2_2)]; exact g2_2_2) | (simp [go_sem, g2_2_2]; done) | (simp [go_sem]; done)
  have hs3_3 : w1.heap.size < w3.heap.size := by omega
  have c3_3_0 : w3.cell? ⟨w1.heap.size, 0, none⟩ = some (.int .i64 A0) := by rw [hb.cell (by simp <;> omega)]; first | exact c2_3_0 | (rw [World.cell?_alloc_lt _ _ _ hs2_3]; exact c2_3_0) | (simp [go_sem]; done)
  have c3_3_1 : w3.cell? ⟨w1.heap.size, 1, none⟩ = some (.int .i64 A1) := by rw [hb.cell (by simp <;> omega)]; first | exact c2_3_1 | (rw [World.cell?_alloc_lt _ _ _ hs2_3]; exact c2_3_1) | (simp [go_sem]; done)
  have c3_3_2 : w3.cell? ⟨w1.heap.size, 2, none⟩ = some (.int .i64 A2) := by rw [hb.cell (by simp <;> omega)]; first | exact c2_3_2 | (rw [World.cell?_alloc_lt _ _ _ hs2_3]; exact c2_3_2) | (simp [go_sem]; done)
  have c3_3_3 : w3.cell? ⟨w1.heap.size, 3, none⟩ = some (.int .i64 A3) := by rw [hb.cell (by simp <;> omega)]; first | exact c2_3_3 | (rw [World.cell?_alloc_lt _ _ _ hs2_3]; exact c2_3_3) | (simp [go_sem]; done)
  have c3_3_4 : w3.cell? ⟨w1.heap.size, 4, none⟩ = some (.int .i64 A4) := by rw [hb.cell (by simp <;> omega)]; first | exact c2_3_4 | (rw [World.cell?_alloc_lt _ _ _ hs2_3]; exact c2_3_4) | (simp [go_sem]; done)
  have c3_3_5 : w3.cell? ⟨w1.heap.size, 5, none⟩ = some (.int .i64 A5) := by rw [hb.cell (by simp <;> omega)]; first | exact c2_3_5 | (rw [World.cell?_alloc_lt _ _ _ hs2_3]; exact c2_3_5) | (simp [go_sem]; done)
  have c3_3_6 : w3.cell? ⟨w1.heap.size, 6, none⟩ = some (.int .i64 A6) := by rw [hb.cell (by simp <;> omega)]; first | exact c2_3_6 | (rw [World.cell?_alloc_lt _ _ _ hs2_3]; exact c2_3_6) | (simp [go_sem]; done)
  have c3_3_7 : w3.cell? ⟨w1.heap.size, 7, none⟩ = some (.int .i64 A7) := by rw [hb.cell (by simp <;> omega)]; first | exact c2_3_7 | (rw [World.cell?_alloc_lt _ _ _ hs2_3]; exact c2_3_7) | (simp [go_sem]; done)
  have c3_3_8 : w3.cell? ⟨w1.heap.size, 8, none⟩ = some (.int .i64 A8) := by rw [hb.cell (by simp <;> omega)]; first | exact c2_3_8 | (rw [World.cell?_alloc_lt _ _ _ hs2_3]; exact c2_3_8) | (simp [go_sem]; done)
  have hs3_4 : w2.heap.size < w3.heap.size := by omega
  have c3_4_0 : w3.cell? ⟨w2.heap.size, 0, none⟩ = some (.int .i64 u0) := by rw [hb.cell (by simp <;> omega)]; first | (simp [go_sem]; done)
  have c3_4_1 : w3.cell? ⟨w2.heap.size, 1, none⟩ = some (.int .i64 u1) := by rw [hb.cell (by simp <;> omega)]; first | (simp [go_sem]; done)
  have c3_4_2 : w3.cell? ⟨w2.heap.size, 2, none⟩ = some (.int .i64 u2) := by rw [hb.cell (by simp <;> omega)]; first | (simp [go_sem]; done)
  have HB3 := Lib.hid (Below.trans ((ba_c (HB2.out) (Nat.le_refl _) _)) (hb.mono (Below.size ((ba_c (HB2.out) (Nat.le_refl _) _)))))
  clear hb hsz c2_0_0 c2_0_1 c2_0_2 c2_0_3 c2_0_4 c2_0_5 c2_0_6 c2_0_7 c2_0_8 c2_1_0 c2_1_1 c2_1_2 c2_2_0 c2_2_1 c2_2_2 c2_3_0 c2_3_1 c2_3_2 c2_3_3 c2_3_4 c2_3_5 c2_3_6 c2_3_7 c2_3_8 g2_2_0 g2_2_1 g2_2_2 hs2_0 hs2_1 hs2_2 hs2_3
  go_wp2_with fail
  refine (plain36e _ _ _ _ _ _ _ _ Hht.out Hhtz.out h h' _).mono ?_
  rintro e w4 ⟨rfl, hb⟩
  have hsz : w3.heap.size ≤ w4.heap.size := hb.size
  have hs4_0 : w.heap.size < w4.heap.size := by omega
  have c4_0_0 : w4.cell? ⟨w.heap.size, 0, none⟩ = some (.int .i64 a0) := by rw [hb.cell (by simp <;> omega)]; first | exact c3_0_0 | (rw [World.cell?_alloc_lt _ _ _ hs3_0]; exact c3_0_0) | (simp [go_sem]; done)
  have c4_0_1 : w4.cell? ⟨w.heap.size, 1, none⟩ = some (.int .i64 a1) := by rw [hb.cell (by simp <;> omega)]; first | exact c3_0_1 | (rw [World.cell?_alloc_lt _ _ _ hs3_0]; exact c3_0_1) | (simp [go_sem]; done)
  have c4_0_2 : w4.cell? ⟨w.heap.size, 2, none⟩ = some (.int .i64 a2) := by rw [hb.cell (by simp <;> omega)]; first | exact c3_0_2 | (rw [World.cell?_alloc_lt _ _ _ hs3_0]; exact c3_0_2) | (simp [go_sem]; done)
  have c4_0_3 : w4.cell? ⟨w.heap.size, 3, none⟩ = some (.int .i64 a3) := by rw [hb.cell (by simp <;> omega)]; first | exact c3_0_3 | (rw [World.cell?_alloc_lt _ _ _ hs3_0]; exact c3_0_3) | (simp [go_sem]; done)
  have c4_0_4 : w4.cell? ⟨w.heap.size, 4, none⟩ = some (.int .i64 a4) := by rw [hb.cell (by simp <;> omega)]; first | exact c3_0_4 | (rw [World.cell?_alloc_lt _ _ _ hs3_0]; exact c3_0_4) | (simp [go_sem]; done)
  have c4_0_5 : w4.cell? ⟨w.heap.size, 5, none⟩ = some (.int .i64 a5) := by rw [hb.cell (by simp <;> omega)]; first | exact c3_0_5 | (rw [World.cell?_alloc_lt _ _ _ hs3_0]; exact c3_0_5) | (simp [go_sem]; done)
  have c4_0_6 : w4.cell? ⟨w.heap.size, 6, none⟩ = some (.int .i64 a6) := by rw [hb.cell (by simp <;> omega)]; first | exact c3_0_6 | (rw [World.cell?_alloc_lt _ _ _ hs3_0]; exact c3_0_6) | (simp [go_sem]; done)
  have c4_0_7 : w4.cell? ⟨w.heap.size, 7, none⟩ = some (.int .i64 a7) := by rw [hb.cell (by simp <;> omega)]; first | exact c3_0_7 | (rw [World.cell?_alloc_lt _ _ _ hs3_0]; exact c3_0_7) | (simp [go_sem]; done)
  have c4_0_8 : w4.cell? ⟨w.heap.size, 8, none⟩ = some (.int .i64 a8) := by rw [hb.cell (by simp <;> omega)]; first | exact c3_0_8 | (rw [World.cell?_alloc_lt _ _ _ hs3_0]; exact c3_0_8) | (simp [go_sem]; done)
  have hs4_1 : w.heap.size + 1 < w4.heap.size := by omega
  have c4_1_0 : w4.cell? ⟨w.heap.size + 1, 0, none⟩ = some (.int .i64 x) := by rw [hb.cell (by simp <;> omega)]; first | exact c3_1_0 | (rw [World.cell?_alloc_lt _ _ _ hs3_1]; exact c3_1_0) | (simp [go_sem]; done)
  have c4_1_1 : w4.cell? ⟨w.heap.size + 1, 1, none⟩ = some (.int .i64 y) := by rw [hb.cell (by simp <;> omega)]; first | exact c3_1_1 | (rw [World.cell?_alloc_lt _ _ _ hs3_1]; exact c3_1_1) | (simp [go_sem]; done)
  have c4_1_2 : w4.cell? ⟨w.heap.size + 1, 2, none⟩ = some (.int .i64 z) := by rw [hb.cell (by simp <;> omega)]; first | exact c3_1_2 | (rw [World.cell?_alloc_lt _ _ _ hs3_1]; exact c3_1_2) | (simp [go_sem]; done)
  have hs4_2 : w.heap.size + 1 + 1 < w4.heap.size := by omega
  have c4_2_0 : w4.cell? ⟨w.heap.size + 1 + 1, 0, none⟩ = some (.int .i64 0) := by rw [hb.cell (by simp <;> omega)]; first | exact c3_2_0 | (rw [World.cell?_alloc_lt _ _ _ hs3_2]; exact c3_2_0) | (simp [go_sem]; done)
  have c4_2_1 : w4.cell? ⟨w.heap.size + 1 + 1, 1, none⟩ = some (.int .i64 0) := by rw [hb.cell (by simp <;> omega)]; first | exact c3_2_1 | (rw [World.cell?_alloc_lt _ _ _ hs3_2]; exact c3_2_1) | (simp [go_sem]; done)
  have c4_2_2 : w4.cell? ⟨w.heap.size + 1 + 1, 2, none⟩ = some (.int .i64 0) := by rw [hb.cell (by simp <;> omega)]; first | exact c3_2_2 | (rw [World.cell?_alloc_lt _ _ _ hs3_2]; exact c3_2_2) | (simp [go_sem]; done)
  have g4_2_0 : w4.frozen? ⟨w.heap.size + 1 + 1, 0, none⟩ = false := by rw [hb.frozen (by simp <;> omega)]; first | exact g3_2_0 | (rw [World.frozen?_alloc_old _ _ _ (Nat.ne_of_lt hs3_2)]; exact g3_2_0) | (simp [go_sem, g3_2_0]; done) | (simp [go_sem]; done)
  have g4_2_1 : w4.frozen? ⟨w.heap.size + 1 + 1, 1, none⟩ = false := by rw [hb.frozen (by simp <;> omega)]; first | exact g3_2_1 | (rw [World.frozen?_alloc_old _ _ _ (Nat.ne_of_lt hs3_2)]; exact g3_2_1) | (simp [go_sem, g3_2_1]; done) | (simp [go_sem]; done)
  have g4_2_2 : w4.frozen? ⟨w.heap.size + 1 + 1, 2, none⟩ = false := by rw [hb.frozen (by simp <;> omega)]; first | exact g3_2_2 | (rw [World.frozen?_alloc_old _ _ _ (Nat.ne_of_lt hs3_2)]; exact g3_2_2) | (simp [go_sem, g3_2_2]; done) | (simp [go_sem]; done)
  have hs4_3 : w1.heap.size < w4.heap.size := by omega
  have c4_3_0 : w4.cell? ⟨w1.heap.size, 0, none⟩ = some (.int .i64 A0) := by rw [hb.cell (by simp <;> omega)]; first | exact c3_3_0 | (rw [World.cell?_alloc_lt _ _ _ hs3_3]; exact c3_3_0) | (simp [go_sem]; done)
  have c4_3_1 : w4.cell? ⟨w1.heap.size, 1, none⟩ = some (.int .i64 A1) := by rw [hb.cell (by simp <;> omega)]; first | exact c3_3_1 | (rw [World.cell?_alloc_lt _ _ _ hs3_3]; exact c3_3_1) | (simp [go_sem]; done)
  have c4_3_2 : w4.cell? ⟨w1.heap.size, 2, none⟩ = some (.int .i64 A2) := by rw [hb.cell (by simp <;> omega)]; first | exact c3_3_2 | (rw [World.cell?_alloc_lt _ _ _ hs3_3]; exact c3_3_2) | (simp [go_sem]; done)
  have c4_3_3 : w4.cell? ⟨w1.heap.size, 3, none⟩ = some (.int .i64 A3) := by rw [hb.cell (by simp <;> omega)]; first | exact c3_3_3 | (rw [World.cell?_alloc_lt _ _ _ hs3_3]; exact c3_3_3) | (simp [go_sem]; done)
  have c4_3_4 : w4.cell? ⟨w1.heap.size, 4, none⟩ = some (.int .i64 A4) := by rw [hb.cell (by simp <;> omega)]; first | exact c3_3_4 | (rw [World.cell?_alloc_lt _ _ _ hs3_3]; exact c3_3_4) | (simp [go_sem]; done)
  have c4_3_5 : w4.cell? ⟨w1.heap.size, 5, none⟩ = some (.int .i64 A5) := by rw [hb.cell (by simp <;> omega)]; first | exact c3_3_5 | (rw [World.cell?_alloc_lt _ _ _ hs3_3]; exact c3_3_5) | (simp [go_sem]; done)
  have c4_3_6 : w4.cell? ⟨w1.heap.size, 6, none⟩ = some (.int .i64 A6) := by rw [hb.cell (by simp <;> omega)]; first | exact c3_3_6 | (rw [World.cell?_alloc_lt _ _ _ hs3_3]; exact c3_3_6) | (simp [go_sem]; done)
  have c4_3_7 : w4.cell? ⟨w1.heap.size, 7, none⟩ = some (.int .i64 A7) := by rw [hb.cell (by simp <;> omega)]; first | exact c3_3_7 | (rw [World.cell?_alloc_lt _ _ _ hs3_3]; exact c3_3_7) | (simp [go_sem]; done)
  have c4_3_8 : w4.cell? ⟨w1.heap.size, 8, none⟩ = some (.int .i64 A8) := by rw [hb.cell (by simp <;> omega)]; first | exact c3_3_8 | (rw [World.cell?_alloc_lt _ _ _ hs3_3]; exact c3_3_8) | (simp [go_sem]; done)
  have hs4_4 : w2.heap.size < w4.heap.size := by omega
  have c4_4_0 : w4.cell? ⟨w2.heap.size, 0, none⟩ = some (.int .i64 u0) := by rw [hb.cell (by simp <;> omega)]; first | exact c3_4_0 | (rw [World.cell?_alloc_lt _ _ _ hs3_4]; exact c3_4_0) | (simp [go_sem]; done)
  have c4_4_1 : w4.cell? ⟨w2.heap.size, 1, none⟩ = some (.int .i64 u1) := by rw [hb.cell (by simp <;> omega)]; first | exact c3_4_1 | (rw [World.cell?_alloc_lt _ _ _ hs3_4]; exact c3_4_1) | (simp [go_sem]; done)
  have c4_4_2 : w4.cell? ⟨w2.heap.size, 2, none⟩ = some (.int .i64 u2) := by rw [hb.cell (by simp <;> omega)]; first | exact c3_4_2 | (rw [World.cell?_alloc_lt _ _ _ hs3_4]; exact c3_4_2) | (simp [go_sem]; done)
  have HB4 := Lib.hid (Below.trans (HB3.out) (hb.mono (Below.size (HB3.out))))
  clear hb hsz c3_0_0 c3_0_1 c3_0_2 c3_0_3 c3_0_4 c3_0_5 c3_0_6 c3_0_7 c3_0_8 c3_1_0 c3_1_1 c3_1_2 c3_2_0 c3_2_1 c3_2_2 c3_3_0 c3_3_1 c3_3_2 c3_3_3 c3_3_4 c3_3_5 c3_3_6 c3_3_7 c3_3_8 c3_4_0 c3_4_1 c3_4_2 g3_2_0 g3_2_1 g3_2_2 hs3_0 hs3_1 hs3_2 hs3_3 hs3_4
  go_wp2
  refine bodyPost_ret (v := .tuple #[.agg #[.int .i64 t0, .int .i64 t1, .int .i64 t2], .int .i64 0]) (by simp [results, Try.results18, go_sem, c4_2_0, g4_2_0, c4_2_1, g4_2_1, c4_2_2, g4_2_2, hs4_0, hs4_1, hs4_2, hs4_3, hs4_4]) rfl ⟨rfl, ?_⟩
  have hB := HB4.out
  go_grown

end Go.Proofs.Ytfdbkocpljiehaa
