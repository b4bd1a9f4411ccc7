/- Walks: the law FiniteApply. -/
import Derived.Test.YtfdbkocpljiehaaYa
import Derived.Test.YtfdbkocpljiehaaZh
import Derived.Test.YtfdbkocpljiehaaZo
import Derived.Test.YtfdbkocpljiehaaMh
set_option linter.unusedSimpArgs false
set_option linter.unusedVariables false
namespace Go.Proofs.Ytfdbkocpljiehaa
open Go.RowKit

/-- the determinant of a map, modulo p, as finite asks for it -/
def gdB (p a0 a1 a2 a3 a4 a5 a6 a7 a8 : Int) : Bool := (a0 % p * ((a4 % p * (a8 % p) - a5 % p * (a7 % p)) % p) + a1 % p * ((a5 % p * (a6 % p) - a3 % p * (a8 % p)) % p) + a2 % p * ((a3 % p * (a7 % p) - a4 % p * (a6 % p)) % p)) % p != 0
def sT (p a0 a1 a2 a3 a4 a5 a6 a7 a8 : Int) : Int × Int × Int → Int × Int × Int := stp p (a0 % p) (a1 % p) (a2 % p) (a3 % p) (a4 % p) (a5 % p) (a6 % p) (a7 % p) (a8 % p)

theorem Order28_no (p a0 a1 a2 a3 a4 a5 a6 a7 a8 : Int) (hp : isP p = true) (hd : gdB p a0 a1 a2 a3 a4 a5 a6 a7 a8 = false) (w : World) :
    Calls Try.prog 28 #[.int .i64 p, .agg #[.int .i64 a0, .int .i64 a1, .int .i64 a2, .int .i64 a3, .int .i64 a4, .int .i64 a5, .int .i64 a6, .int .i64 a7, .int .i64 a8]] w fun e w' => e = .returned (.tuple #[.int .i64 0, .int .i64 5]) ∧ Below w.heap.size w w' := by
  obtain ⟨h, h'⟩ := isP_bd hp
  exact Order28_flat p a0 a1 a2 a3 a4 a5 a6 a7 a8 _ _ _ _ _ _ _ _ _ _ _ _ hp (Lib.hid rfl) (Lib.hid rfl) (Lib.hid rfl) (Lib.hid rfl) (Lib.hid rfl) (Lib.hid rfl) (Lib.hid rfl) (Lib.hid rfl) (Lib.hid rfl) (em12 _ _ h h') (em12 _ _ h h') (em12 _ _ h h') (em12 _ _ h h') (em12 _ _ h h') (em12 _ _ h h') (em12 _ _ h h') (em12 _ _ h h') (em12 _ _ h h') (Lib.hid rfl) (Lib.hid rfl) (Lib.hid rfl) (em12 _ _ h h') (em12 _ _ h h') (em12 _ _ h h') hd w
theorem Order28_go (N : Nat) (p a0 a1 a2 a3 a4 a5 a6 a7 a8 : Int) (hp : isP p = true) (hd : gdB p a0 a1 a2 a3 a4 a5 a6 a7 a8 = true) (hN : 1 ≤ N) (hN' : N ≤ 23298085122481) (hback : Hid (bk (sT p a0 a1 a2 a3 a4 a5 a6 a7 a8) N 4 = true)) (hmin : Hid (∀ k, 1 ≤ k → k < N → bk (sT p a0 a1 a2 a3 a4 a5 a6 a7 a8) k 4 = false)) (w : World) :
    Calls Try.prog 28 #[.int .i64 p, .agg #[.int .i64 a0, .int .i64 a1, .int .i64 a2, .int .i64 a3, .int .i64 a4, .int .i64 a5, .int .i64 a6, .int .i64 a7, .int .i64 a8]] w fun e w' => e = .returned (.tuple #[.int .i64 N, .int .i64 0]) ∧ Below w.heap.size w w' := by
  obtain ⟨h, h'⟩ := isP_bd hp
  exact Order28_big N p a0 a1 a2 a3 a4 a5 a6 a7 a8 _ _ _ _ _ _ _ _ _ _ _ _ hp (Lib.hid rfl) (Lib.hid rfl) (Lib.hid rfl) (Lib.hid rfl) (Lib.hid rfl) (Lib.hid rfl) (Lib.hid rfl) (Lib.hid rfl) (Lib.hid rfl) (em12 _ _ h h') (em12 _ _ h h') (em12 _ _ h h') (em12 _ _ h h') (em12 _ _ h h') (em12 _ _ h h') (em12 _ _ h h') (em12 _ _ h h') (em12 _ _ h h') (Lib.hid rfl) (Lib.hid rfl) (Lib.hid rfl) (em12 _ _ h h') (em12 _ _ h h') (em12 _ _ h h') hd hN hN' hback hmin w
theorem Apply18_no (p a0 a1 a2 a3 a4 a5 a6 a7 a8 x y z : Int) (zb : Bool) (hp : isP p = true) (hd : gdB p a0 a1 a2 a3 a4 a5 a6 a7 a8 = false) (hz : zz p x y z = zb) (w : World) :
    Calls Try.prog 18 #[.int .i64 p, .agg #[.int .i64 a0, .int .i64 a1, .int .i64 a2, .int .i64 a3, .int .i64 a4, .int .i64 a5, .int .i64 a6, .int .i64 a7, .int .i64 a8], .agg #[.int .i64 x, .int .i64 y, .int .i64 z]] w fun e w' => e = .returned (.tuple #[.agg #[.int .i64 0, .int .i64 0, .int .i64 0], .int .i64 5]) ∧ Below w.heap.size w w' := by
  obtain ⟨h, h'⟩ := isP_bd hp
  exact Apply18_fw p a0 a1 a2 a3 a4 a5 a6 a7 a8 _ _ _ _ _ _ _ _ _ _ _ _ x y z _ _ _ 0 0 0 zb hp (Lib.hid rfl) (Lib.hid rfl) (Lib.hid rfl) (Lib.hid rfl) (Lib.hid rfl) (Lib.hid rfl) (Lib.hid rfl) (Lib.hid rfl) (Lib.hid rfl) (em12 _ _ h h') (em12 _ _ h h') (em12 _ _ h h') (em12 _ _ h h') (em12 _ _ h h') (em12 _ _ h h') (em12 _ _ h h') (em12 _ _ h h') (em12 _ _ h h') (Lib.hid rfl) (Lib.hid rfl) (Lib.hid rfl) (em12 _ _ h h') (em12 _ _ h h') (em12 _ _ h h') hd rfl hz w
theorem Apply18_none (p a0 a1 a2 a3 a4 a5 a6 a7 a8 x y z : Int) (hp : isP p = true) (hd : gdB p a0 a1 a2 a3 a4 a5 a6 a7 a8 = true) (hz : zz p x y z = true) (w : World) :
    Calls Try.prog 18 #[.int .i64 p, .agg #[.int .i64 a0, .int .i64 a1, .int .i64 a2, .int .i64 a3, .int .i64 a4, .int .i64 a5, .int .i64 a6, .int .i64 a7, .int .i64 a8], .agg #[.int .i64 x, .int .i64 y, .int .i64 z]] w fun e w' => e = .returned (.tuple #[.agg #[.int .i64 0, .int .i64 0, .int .i64 0], .int .i64 5]) ∧ Below w.heap.size w w' := by
  obtain ⟨h, h'⟩ := isP_bd hp
  exact Apply18_fh p a0 a1 a2 a3 a4 a5 a6 a7 a8 _ _ _ _ _ _ _ _ _ _ _ _ x y z _ _ _ 0 0 0 hp (Lib.hid rfl) (Lib.hid rfl) (Lib.hid rfl) (Lib.hid rfl) (Lib.hid rfl) (Lib.hid rfl) (Lib.hid rfl) (Lib.hid rfl) (Lib.hid rfl) (em12 _ _ h h') (em12 _ _ h h') (em12 _ _ h h') (em12 _ _ h h') (em12 _ _ h h') (em12 _ _ h h') (em12 _ _ h h') (em12 _ _ h h') (em12 _ _ h h') (Lib.hid rfl) (Lib.hid rfl) (Lib.hid rfl) (em12 _ _ h h') (em12 _ _ h h') (em12 _ _ h h') hd rfl hz w
theorem Apply18_go (p a0 a1 a2 a3 a4 a5 a6 a7 a8 x y z t0 t1 t2 : Int) (hp : isP p = true) (hd : gdB p a0 a1 a2 a3 a4 a5 a6 a7 a8 = true) (hz : zz p x y z = false) (ht : sT p a0 a1 a2 a3 a4 a5 a6 a7 a8 (x, y, z) = (t0, t1, t2)) (w : World) :
    Calls Try.prog 18 #[.int .i64 p, .agg #[.int .i64 a0, .int .i64 a1, .int .i64 a2, .int .i64 a3, .int .i64 a4, .int .i64 a5, .int .i64 a6, .int .i64 a7, .int .i64 a8], .agg #[.int .i64 x, .int .i64 y, .int .i64 z]] w fun e w' => e = .returned (.tuple #[.agg #[.int .i64 t0, .int .i64 t1, .int .i64 t2], .int .i64 0]) ∧ Below w.heap.size w w' := by
  obtain ⟨h, h'⟩ := isP_bd hp
  obtain ⟨⟨u0, u1, u2⟩, hu⟩ : ∃ u, pl p x y z = u := ⟨_, rfl⟩
  have e := stp_pl hp (a0 % p) (a1 % p) (a2 % p) (a3 % p) (a4 % p) (a5 % p) (a6 % p) (a7 % p) (a8 % p) (h := (x, y, z)) hz
  rw [show pl p (x, y, z).1 (x, y, z).2.1 (x, y, z).2.2 = (u0, u1, u2) from hu, show stp p (a0 % p) (a1 % p) (a2 % p) (a3 % p) (a4 % p) (a5 % p) (a6 % p) (a7 % p) (a8 % p) (x, y, z) = (t0, t1, t2) from ht] at e
  exact Apply18_ok p a0 a1 a2 a3 a4 a5 a6 a7 a8 _ _ _ _ _ _ _ _ _ _ _ _ x y z u0 u1 u2 t0 t1 t2 hp (Lib.hid rfl) (Lib.hid rfl) (Lib.hid rfl) (Lib.hid rfl) (Lib.hid rfl) (Lib.hid rfl) (Lib.hid rfl) (Lib.hid rfl) (Lib.hid rfl) (em12 _ _ h h') (em12 _ _ h h') (em12 _ _ h h') (em12 _ _ h h') (em12 _ _ h h') (em12 _ _ h h') (em12 _ _ h h') (em12 _ _ h h') (em12 _ _ h h') (Lib.hid rfl) (Lib.hid rfl) (Lib.hid rfl) (em12 _ _ h h') (em12 _ _ h h') (em12 _ _ h h') hd hu hz _ e rfl w
theorem detF16_is (p a0 a1 a2 a3 a4 a5 a6 a7 a8 G : Int) (hp : isP p = true) (hG : (a0 % p * ((a4 % p * (a8 % p) - a5 % p * (a7 % p)) % p) + a1 % p * ((a5 % p * (a6 % p) - a3 % p * (a8 % p)) % p) + a2 % p * ((a3 % p * (a7 % p) - a4 % p * (a6 % p)) % p)) % p = G) (w : World) :
    Calls Try.prog 16 #[.agg #[.int .i64 a0, .int .i64 a1, .int .i64 a2], .agg #[.int .i64 a3, .int .i64 a4, .int .i64 a5], .agg #[.int .i64 a6, .int .i64 a7, .int .i64 a8], .int .i64 p] w fun e w' => e = .returned (.int .i64 G) ∧ Below w.heap.size w w' := by
  obtain ⟨h, h'⟩ := isP_bd hp
  have := detF16 a0 a1 a2 a3 a4 a5 a6 a7 a8 p h h' w
  rw [det_same hp, hG] at this
  exact this
theorem mapF30_is (p a0 a1 a2 a3 a4 a5 a6 a7 a8 x y z u0 u1 u2 : Int) (hp : isP p = true) (hu : sT p a0 a1 a2 a3 a4 a5 a6 a7 a8 (x, y, z) = (u0, u1, u2)) (w : World) :
    Calls Try.prog 30 #[.agg #[.int .i64 a0, .int .i64 a1, .int .i64 a2, .int .i64 a3, .int .i64 a4, .int .i64 a5, .int .i64 a6, .int .i64 a7, .int .i64 a8], .agg #[.int .i64 x, .int .i64 y, .int .i64 z], .int .i64 p] w fun e w' => e = .returned (.agg #[.int .i64 u0, .int .i64 u1, .int .i64 u2]) ∧ Below w.heap.size w w' :=
  mapF30 p a0 a1 a2 a3 a4 a5 a6 a7 a8 x y z u0 u1 u2 _ hp (by rw [mapF_stp hp]; exact hu) rfl w

def mixL (F : Int × Int × Int → Int × Int × Int) (LL : Nat → Int × Int × Int) (k m j : Nat) : Int × Int × Int := if j < m then itr F k (LL j) else itr F (k - 1) (LL j)
theorem mixL_set {F : Int × Int × Int → Int × Int × Int} {LL : Nat → Int × Int × Int} {n k m : Nat} {u : Int × Int × Int} (hk : 1 ≤ k) (hu : F (itr F (k - 1) (LL m)) = u) : ∀ j, j < n → (if j = m then u else mixL F LL k m j) = mixL F LL k (m + 1) j := by
  intro j _
  unfold mixL
  by_cases e : j = m
  · subst e; rw [if_pos rfl, if_pos (by omega), ← hu, itr_pred hk]
  · rw [if_neg e]
    by_cases e2 : j < m
    · rw [if_pos e2, if_pos (by omega)]
    · rw [if_neg e2, if_neg (by omega)]

set_option maxRecDepth 100000 in
set_option maxHeartbeats 8000000 in
theorem FiniteApply8_bad (p a0 a1 a2 a3 a4 a5 a6 a7 a8 x y z : Int) (hp : isP p = false) (w : World) :
    Calls Try.prog 8 #[.int .i64 p, .agg #[.int .i64 a0, .int .i64 a1, .int .i64 a2, .int .i64 a3, .int .i64 a4, .int .i64 a5, .int .i64 a6, .int .i64 a7, .int .i64 a8], .agg #[.int .i64 x, .int .i64 y, .int .i64 z]] w fun e w' => e = .returned (.bool true) ∧ Below w.heap.size w w' := by
  have HP := Lib.hid hp
  clear hp
  go_enter Try.func8, Try.ntmps8
  go_wp2_with fail
  refine (Apply18_bad _ _ _ _ _ _ _ _ _ _ _ _ _ HP.out _).mono ?_
  rintro e w1 ⟨rfl, hb⟩
  have hsz : w.heap.size + 2 ≤ w1.heap.size := by have := hb.size; simp at this; omega
  have hs1_0 : w.heap.size < w1.heap.size := by omega
  have c1_0_0 : w1.cell? ⟨w.heap.size, 0, none⟩ = some (.int .i64 a0) := by rw [hb.cell (by simp <;> omega)]; first | (simp [go_sem]; done)
  have c1_0_1 : w1.cell? ⟨w.heap.size, 1, none⟩ = some (.int .i64 a1) := by rw [hb.cell (by simp <;> omega)]; first | (simp [go_sem]; done)
  have c1_0_2 : w1.cell? ⟨w.heap.size, 2, none⟩ = some (.int .i64 a2) := by rw [hb.cell (by simp <;> omega)]; first | (simp [go_sem]; done)
  have c1_0_3 : w1.cell? ⟨w.heap.size, 3, none⟩ = some (.int .i64 a3) := by rw [hb.cell (by simp <;> omega)]; first | (simp [go_sem]; done)
  have c1_0_4 : w1.cell? ⟨w.heap.size, 4, none⟩ = some (.int .i64 a4) := by rw [hb.cell (by simp <;> omega)]; first | (simp [go_sem]; done)
  have c1_0_5 : w1.cell? ⟨w.heap.size, 5, none⟩ = some (.int .i64 a5) := by rw [hb.cell (by simp <;> omega)]; first | (simp [go_sem]; done)
  have c1_0_6 : w1.cell? ⟨w.heap.size, 6, none⟩ = some (.int .i64 a6) := by rw [hb.cell (by simp <;> omega)]; first | (simp [go_sem]; done)
  have c1_0_7 : w1.cell? ⟨w.heap.size, 7, none⟩ = some (.int .i64 a7) := by rw [hb.cell (by simp <;> omega)]; first | (simp [go_sem]; done)
  have c1_0_8 : w1.cell? ⟨w.heap.size, 8, none⟩ = some (.int .i64 a8) := by rw [hb.cell (by simp <;> omega)]; first | (simp [go_sem]; done)
  have hs1_1 : w.heap.size + 1 < w1.heap.size := by omega
  have c1_1_0 : w1.cell? ⟨w.heap.size + 1, 0, none⟩ = some (.int .i64 x) := by rw [hb.cell (by simp <;> omega)]; first | (simp [go_sem]; done)
  have c1_1_1 : w1.cell? ⟨w.heap.size + 1, 1, none⟩ = some (.int .i64 y) := by rw [hb.cell (by simp <;> omega)]; first | (simp [go_sem]; done)
  have c1_1_2 : w1.cell? ⟨w.heap.size + 1, 2, none⟩ = some (.int .i64 z) := by rw [hb.cell (by simp <;> omega)]; first | (simp [go_sem]; done)
  have HB1 := Lib.hid (Below.trans ((ba_c ((ba_c (Below.refl w.heap.size w) (Nat.le_refl _) _)) (Nat.le_refl _) _)) (hb.mono (Below.size ((ba_c ((ba_c (Below.refl w.heap.size w) (Nat.le_refl _) _)) (Nat.le_refl _) _)))))
  clear hb hsz
  go_wp2_with fail
  refine (Order28_bad _ _ _ _ _ _ _ _ _ _ HP.out _).mono ?_
  rintro e w2 ⟨rfl, hb⟩
  have hsz : w1.heap.size + 1 ≤ w2.heap.size := by have := hb.size; simp at this; omega
  have hs2_0 : w.heap.size < w2.heap.size := by omega
  have c2_0_0 : w2.cell? ⟨w.heap.size, 0, none⟩ = some (.int .i64 a0) := by rw [hb.cell (by simp <;> omega)]; first | exact c1_0_0 | (rw [World.cell?_alloc_lt _ _ _ hs1_0]; exact c1_0_0) | (simp [go_sem]; done)
  have c2_0_1 : w2.cell? ⟨w.heap.size, 1, none⟩ = some (.int .i64 a1) := by rw [hb.cell (by simp <;> omega)]; first | exact c1_0_1 | (rw [World.cell?_alloc_lt _ _ _ hs1_0]; exact c1_0_1) | (simp [go_sem]; done)
  have c2_0_2 : w2.cell? ⟨w.heap.size, 2, none⟩ = some (.int .i64 a2) := by rw [hb.cell (by simp <;> omega)]; first | exact c1_0_2 | (rw [World.cell?_alloc_lt _ _ _ hs1_0]; exact c1_0_2) | (simp [go_sem]; done)
  have c2_0_3 : w2.cell? ⟨w.heap.size, 3, none⟩ = some (.int .i64 a3) := by rw [hb.cell (by simp <;> omega)]; first | exact c1_0_3 | (rw [World.cell?_alloc_lt _ _ _ hs1_0]; exact c1_0_3) | (simp [go_sem]; done)
  have c2_0_4 : w2.cell? ⟨w.heap.size, 4, none⟩ = some (.int .i64 a4) := by rw [hb.cell (by simp <;> omega)]; first | exact c1_0_4 | (rw [World.cell?_alloc_lt _ _ _ hs1_0]; exact c1_0_4) | (simp [go_sem]; done)
  have c2_0_5 : w2.cell? ⟨w.heap.size, 5, none⟩ = some (.int .i64 a5) := by rw [hb.cell (by simp <;> omega)]; first | exact c1_0_5 | (rw [World.cell?_alloc_lt _ _ _ hs1_0]; exact c1_0_5) | (simp [go_sem]; done)
  have c2_0_6 : w2.cell? ⟨w.heap.size, 6, none⟩ = some (.int .i64 a6) := by rw [hb.cell (by simp <;> omega)]; first | exact c1_0_6 | (rw [World.cell?_alloc_lt _ _ _ hs1_0]; exact c1_0_6) | (simp [go_sem]; done)
  have c2_0_7 : w2.cell? ⟨w.heap.size, 7, none⟩ = some (.int .i64 a7) := by rw [hb.cell (by simp <;> omega)]; first | exact c1_0_7 | (rw [World.cell?_alloc_lt _ _ _ hs1_0]; exact c1_0_7) | (simp [go_sem]; done)
  have c2_0_8 : w2.cell? ⟨w.heap.size, 8, none⟩ = some (.int .i64 a8) := by rw [hb.cell (by simp <;> omega)]; first | exact c1_0_8 | (rw [World.cell?_alloc_lt _ _ _ hs1_0]; exact c1_0_8) | (simp [go_sem]; done)
  have hs2_1 : w.heap.size + 1 < w2.heap.size := by omega
  have c2_1_0 : w2.cell? ⟨w.heap.size + 1, 0, none⟩ = some (.int .i64 x) := by rw [hb.cell (by simp <;> omega)]; first | exact c1_1_0 | (rw [World.cell?_alloc_lt _ _ _ hs1_1]; exact c1_1_0) | (simp [go_sem]; done)
  have c2_1_1 : w2.cell? ⟨w.heap.size + 1, 1, none⟩ = some (.int .i64 y) := by rw [hb.cell (by simp <;> omega)]; first | exact c1_1_1 | (rw [World.cell?_alloc_lt _ _ _ hs1_1]; exact c1_1_1) | (simp [go_sem]; done)
  have c2_1_2 : w2.cell? ⟨w.heap.size + 1, 2, none⟩ = some (.int .i64 z) := by rw [hb.cell (by simp <;> omega)]; first | exact c1_1_2 | (rw [World.cell?_alloc_lt _ _ _ hs1_1]; exact c1_1_2) | (simp [go_sem]; done)
  have hs2_2 : w1.heap.size < w2.heap.size := by omega
  have c2_2_0 : w2.cell? ⟨w1.heap.size, 0, none⟩ = some (.int .i64 0) := by rw [hb.cell (by simp <;> omega)]; first | (simp [go_sem]; done)
  have c2_2_1 : w2.cell? ⟨w1.heap.size, 1, none⟩ = some (.int .i64 0) := by rw [hb.cell (by simp <;> omega)]; first | (simp [go_sem]; done)
  have c2_2_2 : w2.cell? ⟨w1.heap.size, 2, none⟩ = some (.int .i64 0) := by rw [hb.cell (by simp <;> omega)]; first | (simp [go_sem]; done)
  have HB2 := Lib.hid (Below.trans ((ba_c (HB1.out) (Nat.le_refl _) _)) (hb.mono (Below.size ((ba_c (HB1.out) (Nat.le_refl _) _)))))
  clear hb hsz c1_0_0 c1_0_1 c1_0_2 c1_0_3 c1_0_4 c1_0_5 c1_0_6 c1_0_7 c1_0_8 c1_1_0 c1_1_1 c1_1_2 hs1_0 hs1_1
  go_wp2_with fail
  refine (counted14 _).mono ?_
  rintro e w3 ⟨rfl, hb⟩
  have hsz : w2.heap.size + 1 ≤ w3.heap.size := by have := hb.size; simp at this; omega
  have hs3_0 : w.heap.size < w3.heap.size := by omega
  have c3_0_0 : w3.cell? ⟨w.heap.size, 0, none⟩ = some (.int .i64 a0) := by rw [hb.cell (by simp <;> omega)]; first | exact c2_0_0 | (rw [World.cell?_alloc_lt _ _ _ hs2_0]; exact c2_0_0) | (simp [go_sem]; done)
  have c3_0_1 : w3.cell? ⟨w.heap.size, 1, none⟩ = some (.int .i64 a1) := by rw [hb.cell (by simp <;> omega)]; first | exact c2_0_1 | (rw [World.cell?_alloc_lt _ _ _ hs2_0]; exact c2_0_1) | (simp [go_sem]; done)
  have c3_0_2 : w3.cell? ⟨w.heap.size, 2, none⟩ = some (.int .i64 a2) := by rw [hb.cell (by simp <;> omega)]; first | exact c2_0_2 | (rw [World.cell?_alloc_lt _ _ _ hs2_0]; exact c2_0_2) | (simp [go_sem]; done)
  have c3_0_3 : w3.cell? ⟨w.heap.size, 3, none⟩ = some (.int .i64 a3) := by rw [hb.cell (by simp <;> omega)]; first | exact c2_0_3 | (rw [World.cell?_alloc_lt _ _ _ hs2_0]; exact c2_0_3) | (simp [go_sem]; done)
  have c3_0_4 : w3.cell? ⟨w.heap.size, 4, none⟩ = some (.int .i64 a4) := by rw [hb.cell (by simp <;> omega)]; first | exact c2_0_4 | (rw [World.cell?_alloc_lt _ _ _ hs2_0]; exact c2_0_4) | (simp [go_sem]; done)
  have c3_0_5 : w3.cell? ⟨w.heap.size, 5, none⟩ = some (.int .i64 a5) := by rw [hb.cell (by simp <;> omega)]; first | exact c2_0_5 | (rw [World.cell?_alloc_lt _ _ _ hs2_0]; exact c2_0_5) | (simp [go_sem]; done)
  have c3_0_6 : w3.cell? ⟨w.heap.size, 6, none⟩ = some (.int .i64 a6) := by rw [hb.cell (by simp <;> omega)]; first | exact c2_0_6 | (rw [World.cell?_alloc_lt _ _ _ hs2_0]; exact c2_0_6) | (simp [go_sem]; done)
  have c3_0_7 : w3.cell? ⟨w.heap.size, 7, none⟩ = some (.int .i64 a7) := by rw [hb.cell (by simp <;> omega)]; first | exact c2_0_7 | (rw [World.cell?_alloc_lt _ _ _ hs2_0]; exact c2_0_7) | (simp [go_sem]; done)
  have c3_0_8 : w3.cell? ⟨w.heap.size, 8, none⟩ = some (.int .i64 a8) := by rw [hb.cell (by simp <;> omega)]; first | exact c2_0_8 | (rw [World.cell?_alloc_lt _ _ _ hs2_0]; exact c2_0_8) | (simp [go_sem]; done)
  have hs3_1 : w.heap.size + 1 < w3.heap.size := by omega
  have c3_1_0 : w3.cell? ⟨w.heap.size + 1, 0, none⟩ = some (.int .i64 x) := by rw [hb.cell (by simp <;> omega)]; first | exact c2_1_0 | (rw [World.cell?_alloc_lt _ _ _ hs2_1]; exact c2_1_0) | (simp [go_sem]; done)
  have c3_1_1 : w3.cell? ⟨w.heap.size + 1, 1, none⟩ = some (.int .i64 y) := by rw [hb.cell (by simp <;> omega)]; first | exact c2_1_1 | (rw [World.cell?_alloc_lt _ _ _ hs2_1]; exact c2_1_1) | (simp [go_sem]; done)
  have c3_1_2 : w3.cell? ⟨w.heap.size + 1, 2, none⟩ = some (.int .i64 z) := by rw [hb.cell (by simp <;> omega)]; first | exact c2_1_2 | (rw [World.cell?_alloc_lt _ _ _ hs2_1]; exact c2_1_2) | (simp [go_sem]; done)
  have hs3_2 : w1.heap.size < w3.heap.size := by omega
  have c3_2_0 : w3.cell? ⟨w1.heap.size, 0, none⟩ = some (.int .i64 0) := by rw [hb.cell (by simp <;> omega)]; first | exact c2_2_0 | (rw [World.cell?_alloc_lt _ _ _ hs2_2]; exact c2_2_0) | (simp [go_sem]; done)
  have c3_2_1 : w3.cell? ⟨w1.heap.size, 1, none⟩ = some (.int .i64 0) := by rw [hb.cell (by simp <;> omega)]; first | exact c2_2_1 | (rw [World.cell?_alloc_lt _ _ _ hs2_2]; exact c2_2_1) | (simp [go_sem]; done)
  have c3_2_2 : w3.cell? ⟨w1.heap.size, 2, none⟩ = some (.int .i64 0) := by rw [hb.cell (by simp <;> omega)]; first | exact c2_2_2 | (rw [World.cell?_alloc_lt _ _ _ hs2_2]; exact c2_2_2) | (simp [go_sem]; done)
  have hs3_3 : w2.heap.size < w3.heap.size := by omega
  have c3_3_0 : w3.cell? ⟨w2.heap.size, 0, none⟩ = some (.int .i64 0) := by rw [hb.cell (by simp <;> omega)]; first | (simp [go_sem]; done)
  have c3_3_1 : w3.cell? ⟨w2.heap.size, 1, none⟩ = some (.int .i64 0) := by rw [hb.cell (by simp <;> omega)]; first | (simp [go_sem]; done)
  have c3_3_2 : w3.cell? ⟨w2.heap.size, 2, none⟩ = some (.int .i64 0) := by rw [hb.cell (by simp <;> omega)]; first | (simp [go_sem]; done)
  have HB3 := Lib.hid (Below.trans ((ba_c (HB2.out) (Nat.le_refl _) _)) (hb.mono (Below.size ((ba_c (HB2.out) (Nat.le_refl _) _)))))
  clear hb hsz c2_0_0 c2_0_1 c2_0_2 c2_0_3 c2_0_4 c2_0_5 c2_0_6 c2_0_7 c2_0_8 c2_1_0 c2_1_1 c2_1_2 c2_2_0 c2_2_1 c2_2_2 hs2_0 hs2_1 hs2_2
  go_wp2_with fail
  refine (isPrime15_no _ HP.out _).mono ?_
  rintro e w4 ⟨rfl, hb⟩
  have hsz : w3.heap.size ≤ w4.heap.size := hb.size
  have hs4_0 : w.heap.size < w4.heap.size := by omega
  have c4_0_0 : w4.cell? ⟨w.heap.size, 0, none⟩ = some (.int .i64 a0) := by rw [hb.cell (by simp <;> omega)]; first | exact c3_0_0 | (rw [World.cell?_alloc_lt _ _ _ hs3_0]; exact c3_0_0) | (simp [go_sem]; done)
  have c4_0_1 : w4.cell? ⟨w.heap.size, 1, none⟩ = some (.int .i64 a1) := by rw [hb.cell (by simp <;> omega)]; first | exact c3_0_1 | (rw [World.cell?_alloc_lt _ _ _ hs3_0]; exact c3_0_1) | (simp [go_sem]; done)
  have c4_0_2 : w4.cell? ⟨w.heap.size, 2, none⟩ = some (.int .i64 a2) := by rw [hb.cell (by simp <;> omega)]; first | exact c3_0_2 | (rw [World.cell?_alloc_lt _ _ _ hs3_0]; exact c3_0_2) | (simp [go_sem]; done)
  have c4_0_3 : w4.cell? ⟨w.heap.size, 3, none⟩ = some (.int .i64 a3) := by rw [hb.cell (by simp <;> omega)]; first | exact c3_0_3 | (rw [World.cell?_alloc_lt _ _ _ hs3_0]; exact c3_0_3) | (simp [go_sem]; done)
  have c4_0_4 : w4.cell? ⟨w.heap.size, 4, none⟩ = some (.int .i64 a4) := by rw [hb.cell (by simp <;> omega)]; first | exact c3_0_4 | (rw [World.cell?_alloc_lt _ _ _ hs3_0]; exact c3_0_4) | (simp [go_sem]; done)
  have c4_0_5 : w4.cell? ⟨w.heap.size, 5, none⟩ = some (.int .i64 a5) := by rw [hb.cell (by simp <;> omega)]; first | exact c3_0_5 | (rw [World.cell?_alloc_lt _ _ _ hs3_0]; exact c3_0_5) | (simp [go_sem]; done)
  have c4_0_6 : w4.cell? ⟨w.heap.size, 6, none⟩ = some (.int .i64 a6) := by rw [hb.cell (by simp <;> omega)]; first | exact c3_0_6 | (rw [World.cell?_alloc_lt _ _ _ hs3_0]; exact c3_0_6) | (simp [go_sem]; done)
  have c4_0_7 : w4.cell? ⟨w.heap.size, 7, none⟩ = some (.int .i64 a7) := by rw [hb.cell (by simp <;> omega)]; first | exact c3_0_7 | (rw [World.cell?_alloc_lt _ _ _ hs3_0]; exact c3_0_7) | (simp [go_sem]; done)
  have c4_0_8 : w4.cell? ⟨w.heap.size, 8, none⟩ = some (.int .i64 a8) := by rw [hb.cell (by simp <;> omega)]; first | exact c3_0_8 | (rw [World.cell?_alloc_lt _ _ _ hs3_0]; exact c3_0_8) | (simp [go_sem]; done)
  have hs4_1 : w.heap.size + 1 < w4.heap.size := by omega
  have c4_1_0 : w4.cell? ⟨w.heap.size + 1, 0, none⟩ = some (.int .i64 x) := by rw [hb.cell (by simp <;> omega)]; first | exact c3_1_0 | (rw [World.cell?_alloc_lt _ _ _ hs3_1]; exact c3_1_0) | (simp [go_sem]; done)
  have c4_1_1 : w4.cell? ⟨w.heap.size + 1, 1, none⟩ = some (.int .i64 y) := by rw [hb.cell (by simp <;> omega)]; first | exact c3_1_1 | (rw [World.cell?_alloc_lt _ _ _ hs3_1]; exact c3_1_1) | (simp [go_sem]; done)
  have c4_1_2 : w4.cell? ⟨w.heap.size + 1, 2, none⟩ = some (.int .i64 z) := by rw [hb.cell (by simp <;> omega)]; first | exact c3_1_2 | (rw [World.cell?_alloc_lt _ _ _ hs3_1]; exact c3_1_2) | (simp [go_sem]; done)
  have hs4_2 : w1.heap.size < w4.heap.size := by omega
  have c4_2_0 : w4.cell? ⟨w1.heap.size, 0, none⟩ = some (.int .i64 0) := by rw [hb.cell (by simp <;> omega)]; first | exact c3_2_0 | (rw [World.cell?_alloc_lt _ _ _ hs3_2]; exact c3_2_0) | (simp [go_sem]; done)
  have c4_2_1 : w4.cell? ⟨w1.heap.size, 1, none⟩ = some (.int .i64 0) := by rw [hb.cell (by simp <;> omega)]; first | exact c3_2_1 | (rw [World.cell?_alloc_lt _ _ _ hs3_2]; exact c3_2_1) | (simp [go_sem]; done)
  have c4_2_2 : w4.cell? ⟨w1.heap.size, 2, none⟩ = some (.int .i64 0) := by rw [hb.cell (by simp <;> omega)]; first | exact c3_2_2 | (rw [World.cell?_alloc_lt _ _ _ hs3_2]; exact c3_2_2) | (simp [go_sem]; done)
  have hs4_3 : w2.heap.size < w4.heap.size := by omega
  have c4_3_0 : w4.cell? ⟨w2.heap.size, 0, none⟩ = some (.int .i64 0) := by rw [hb.cell (by simp <;> omega)]; first | exact c3_3_0 | (rw [World.cell?_alloc_lt _ _ _ hs3_3]; exact c3_3_0) | (simp [go_sem]; done)
  have c4_3_1 : w4.cell? ⟨w2.heap.size, 1, none⟩ = some (.int .i64 0) := by rw [hb.cell (by simp <;> omega)]; first | exact c3_3_1 | (rw [World.cell?_alloc_lt _ _ _ hs3_3]; exact c3_3_1) | (simp [go_sem]; done)
  have c4_3_2 : w4.cell? ⟨w2.heap.size, 2, none⟩ = some (.int .i64 0) := by rw [hb.cell (by simp <;> omega)]; first | exact c3_3_2 | (rw [World.cell?_alloc_lt _ _ _ hs3_3]; exact c3_3_2) | (simp [go_sem]; done)
  have HB4 := Lib.hid (Below.trans (HB3.out) (hb.mono (Below.size (HB3.out))))
  clear hb hsz c3_0_0 c3_0_1 c3_0_2 c3_0_3 c3_0_4 c3_0_5 c3_0_6 c3_0_7 c3_0_8 c3_1_0 c3_1_1 c3_1_2 c3_2_0 c3_2_1 c3_2_2 c3_3_0 c3_3_1 c3_3_2 hs3_0 hs3_1 hs3_2 hs3_3
  go_wp2_with fail
  refine (counted14 _).mono ?_
  rintro e w5 ⟨rfl, hb⟩
  have hsz : w4.heap.size ≤ w5.heap.size := hb.size
  have hs5_0 : w.heap.size < w5.heap.size := by omega
  have c5_0_0 : w5.cell? ⟨w.heap.size, 0, none⟩ = some (.int .i64 a0) := by rw [hb.cell (by simp <;> omega)]; first | exact c4_0_0 | (rw [World.cell?_alloc_lt _ _ _ hs4_0]; exact c4_0_0) | (simp [go_sem]; done)
  have c5_0_1 : w5.cell? ⟨w.heap.size, 1, none⟩ = some (.int .i64 a1) := by rw [hb.cell (by simp <;> omega)]; first | exact c4_0_1 | (rw [World.cell?_alloc_lt _ _ _ hs4_0]; exact c4_0_1) | (simp [go_sem]; done)
  have c5_0_2 : w5.cell? ⟨w.heap.size, 2, none⟩ = some (.int .i64 a2) := by rw [hb.cell (by simp <;> omega)]; first | exact c4_0_2 | (rw [World.cell?_alloc_lt _ _ _ hs4_0]; exact c4_0_2) | (simp [go_sem]; done)
  have c5_0_3 : w5.cell? ⟨w.heap.size, 3, none⟩ = some (.int .i64 a3) := by rw [hb.cell (by simp <;> omega)]; first | exact c4_0_3 | (rw [World.cell?_alloc_lt _ _ _ hs4_0]; exact c4_0_3) | (simp [go_sem]; done)
  have c5_0_4 : w5.cell? ⟨w.heap.size, 4, none⟩ = some (.int .i64 a4) := by rw [hb.cell (by simp <;> omega)]; first | exact c4_0_4 | (rw [World.cell?_alloc_lt _ _ _ hs4_0]; exact c4_0_4) | (simp [go_sem]; done)
  have c5_0_5 : w5.cell? ⟨w.heap.size, 5, none⟩ = some (.int .i64 a5) := by rw [hb.cell (by simp <;> omega)]; first | exact c4_0_5 | (rw [World.cell?_alloc_lt _ _ _ hs4_0]; exact c4_0_5) | (simp [go_sem]; done)
  have c5_0_6 : w5.cell? ⟨w.heap.size, 6, none⟩ = some (.int .i64 a6) := by rw [hb.cell (by simp <;> omega)]; first | exact c4_0_6 | (rw [World.cell?_alloc_lt _ _ _ hs4_0]; exact c4_0_6) | (simp [go_sem]; done)
  have c5_0_7 : w5.cell? ⟨w.heap.size, 7, none⟩ = some (.int .i64 a7) := by rw [hb.cell (by simp <;> omega)]; first | exact c4_0_7 | (rw [World.cell?_alloc_lt _ _ _ hs4_0]; exact c4_0_7) | (simp [go_sem]; done)
  have c5_0_8 : w5.cell? ⟨w.heap.size, 8, none⟩ = some (.int .i64 a8) := by rw [hb.cell (by simp <;> omega)]; first | exact c4_0_8 | (rw [World.cell?_alloc_lt _ _ _ hs4_0]; exact c4_0_8) | (simp [go_sem]; done)
  have hs5_1 : w.heap.size + 1 < w5.heap.size := by omega
  have c5_1_0 : w5.cell? ⟨w.heap.size + 1, 0, none⟩ = some (.int .i64 x) := by rw [hb.cell (by simp <;> omega)]; first | exact c4_1_0 | (rw [World.cell?_alloc_lt _ _ _ hs4_1]; exact c4_1_0) | (simp [go_sem]; done)
  have c5_1_1 : w5.cell? ⟨w.heap.size + 1, 1, none⟩ = some (.int .i64 y) := by rw [hb.cell (by simp <;> omega)]; first | exact c4_1_1 | (rw [World.cell?_alloc_lt _ _ _ hs4_1]; exact c4_1_1) | (simp [go_sem]; done)
  have c5_1_2 : w5.cell? ⟨w.heap.size + 1, 2, none⟩ = some (.int .i64 z) := by rw [hb.cell (by simp <;> omega)]; first | exact c4_1_2 | (rw [World.cell?_alloc_lt _ _ _ hs4_1]; exact c4_1_2) | (simp [go_sem]; done)
  have hs5_2 : w1.heap.size < w5.heap.size := by omega
  have c5_2_0 : w5.cell? ⟨w1.heap.size, 0, none⟩ = some (.int .i64 0) := by rw [hb.cell (by simp <;> omega)]; first | exact c4_2_0 | (rw [World.cell?_alloc_lt _ _ _ hs4_2]; exact c4_2_0) | (simp [go_sem]; done)
  have c5_2_1 : w5.cell? ⟨w1.heap.size, 1, none⟩ = some (.int .i64 0) := by rw [hb.cell (by simp <;> omega)]; first | exact c4_2_1 | (rw [World.cell?_alloc_lt _ _ _ hs4_2]; exact c4_2_1) | (simp [go_sem]; done)
  have c5_2_2 : w5.cell? ⟨w1.heap.size, 2, none⟩ = some (.int .i64 0) := by rw [hb.cell (by simp <;> omega)]; first | exact c4_2_2 | (rw [World.cell?_alloc_lt _ _ _ hs4_2]; exact c4_2_2) | (simp [go_sem]; done)
  have hs5_3 : w2.heap.size < w5.heap.size := by omega
  have c5_3_0 : w5.cell? ⟨w2.heap.size, 0, none⟩ = some (.int .i64 0) := by rw [hb.cell (by simp <;> omega)]; first | exact c4_3_0 | (rw [World.cell?_alloc_lt _ _ _ hs4_3]; exact c4_3_0) | (simp [go_sem]; done)
  have c5_3_1 : w5.cell? ⟨w2.heap.size, 1, none⟩ = some (.int .i64 0) := by rw [hb.cell (by simp <;> omega)]; first | exact c4_3_1 | (rw [World.cell?_alloc_lt _ _ _ hs4_3]; exact c4_3_1) | (simp [go_sem]; done)
  have c5_3_2 : w5.cell? ⟨w2.heap.size, 2, none⟩ = some (.int .i64 0) := by rw [hb.cell (by simp <;> omega)]; first | exact c4_3_2 | (rw [World.cell?_alloc_lt _ _ _ hs4_3]; exact c4_3_2) | (simp [go_sem]; done)
  have HB5 := Lib.hid (Below.trans (HB4.out) (hb.mono (Below.size (HB4.out))))
  clear hb hsz c4_0_0 c4_0_1 c4_0_2 c4_0_3 c4_0_4 c4_0_5 c4_0_6 c4_0_7 c4_0_8 c4_1_0 c4_1_1 c4_1_2 c4_2_0 c4_2_1 c4_2_2 c4_3_0 c4_3_1 c4_3_2 hs4_0 hs4_1 hs4_2 hs4_3
  go_wp2_with fail
  go_ret
  exact ⟨rfl, HB5.out⟩

set_option maxRecDepth 100000 in
set_option maxHeartbeats 16000000 in
theorem FiniteApply8_w (p a0 a1 a2 a3 a4 a5 a6 a7 a8 x y z : Int) (zb : Bool) (hp : isP p = true) (hd : gdB p a0 a1 a2 a3 a4 a5 a6 a7 a8 = false) (hz : zz p x y z = zb) (w : World) :
    Calls Try.prog 8 #[.int .i64 p, .agg #[.int .i64 a0, .int .i64 a1, .int .i64 a2, .int .i64 a3, .int .i64 a4, .int .i64 a5, .int .i64 a6, .int .i64 a7, .int .i64 a8], .agg #[.int .i64 x, .int .i64 y, .int .i64 z]] w fun e w' => e = .returned (.bool true) ∧ Below w.heap.size w w' := by
  have HP := Lib.hid hp
  have HD := Lib.hid hd
  have HZ := Lib.hid hz
  obtain ⟨G, hG⟩ : ∃ G, (a0 % p * ((a4 % p * (a8 % p) - a5 % p * (a7 % p)) % p) + a1 % p * ((a5 % p * (a6 % p) - a3 % p * (a8 % p)) % p) + a2 % p * ((a3 % p * (a7 % p) - a4 % p * (a6 % p)) % p)) % p = G := ⟨_, rfl⟩
  have HG := Lib.hid hG
  have hg0 : (G != 0) = false := by rw [← hG]; exact hd
  obtain ⟨⟨u0, u1, u2⟩, hu⟩ : ∃ u, pl p x y z = u := ⟨_, rfl⟩
  have HU := Lib.hid hu
  clear hp hd hz hG hu
  go_enter Try.func8, Try.ntmps8
  go_wp2_with fail
  refine (Apply18_no _ _ _ _ _ _ _ _ _ _ _ _ _ _ HP.out HD.out HZ.out _).mono ?_
  rintro e w1 ⟨rfl, hb⟩
  have hsz : w.heap.size + 2 ≤ w1.heap.size := by have := hb.size; simp at this; omega
  have hs1_0 : w.heap.size < w1.heap.size := by omega
  have c1_0_0 : w1.cell? ⟨w.heap.size, 0, none⟩ = some (.int .i64 a0) := by rw [hb.cell (by simp <;> omega)]; first | (simp [go_sem]; done)
  have c1_0_1 : w1.cell? ⟨w.heap.size, 1, none⟩ = some (.int .i64 a1) := by rw [hb.cell (by simp <;> omega)]; first | (simp [go_sem]; done)
  have c1_0_2 : w1.cell? ⟨w.heap.size, 2, none⟩ = some (.int .i64 a2) := by rw [hb.cell (by simp <;> omega)]; first | (simp [go_sem]; done)
  have c1_0_3 : w1.cell? ⟨w.heap.size, 3, none⟩ = some (.int .i64 a3) := by rw [hb.cell (by simp <;> omega)]; first | (simp [go_sem]; done)
  have c1_0_4 : w1.cell? ⟨w.heap.size, 4, none⟩ = some (.int .i64 a4) := by rw [hb.cell (by simp <;> omega)]; first | (simp [go_sem]; done)
  have c1_0_5 : w1.cell? ⟨w.heap.size, 5, none⟩ = some (.int .i64 a5) := by rw [hb.cell (by simp <;> omega)]; first | (simp [go_sem]; done)
  have c1_0_6 : w1.cell? ⟨w.heap.size, 6, none⟩ = some (.int .i64 a6) := by rw [hb.cell (by simp <;> omega)]; first | (simp [go_sem]; done)
  have c1_0_7 : w1.cell? ⟨w.heap.size, 7, none⟩ = some (.int .i64 a7) := by rw [hb.cell (by simp <;> omega)]; first | (simp [go_sem]; done)
  have c1_0_8 : w1.cell? ⟨w.heap.size, 8, none⟩ = some (.int .i64 a8) := by rw [hb.cell (by simp <;> omega)]; first | (simp [go_sem]; done)
  have hs1_1 : w.heap.size + 1 < w1.heap.size := by omega
  have c1_1_0 : w1.cell? ⟨w.heap.size + 1, 0, none⟩ = some (.int .i64 x) := by rw [hb.cell (by simp <;> omega)]; first | (simp [go_sem]; done)
  have c1_1_1 : w1.cell? ⟨w.heap.size + 1, 1, none⟩ = some (.int .i64 y) := by rw [hb.cell (by simp <;> omega)]; first | (simp [go_sem]; done)
  have c1_1_2 : w1.cell? ⟨w.heap.size + 1, 2, none⟩ = some (.int .i64 z) := by rw [hb.cell (by simp <;> omega)]; first | (simp [go_sem]; done)
  have HB1 := Lib.hid (Below.trans ((ba_c ((ba_c (Below.refl w.heap.size w) (Nat.le_refl _) _)) (Nat.le_refl _) _)) (hb.mono (Below.size ((ba_c ((ba_c (Below.refl w.heap.size w) (Nat.le_refl _) _)) (Nat.le_refl _) _)))))
  clear hb hsz
  go_wp2_with fail
  refine (Order28_no _ _ _ _ _ _ _ _ _ _ HP.out HD.out _).mono ?_
  rintro e w2 ⟨rfl, hb⟩
  have hsz : w1.heap.size + 1 ≤ w2.heap.size := by have := hb.size; simp at this; omega
  have hs2_0 : w.heap.size < w2.heap.size := by omega
  have c2_0_0 : w2.cell? ⟨w.heap.size, 0, none⟩ = some (.int .i64 a0) := by rw [hb.cell (by simp <;> omega)]; first | exact c1_0_0 | (rw [World.cell?_alloc_lt _ _ _ hs1_0]; exact c1_0_0) | (simp [go_sem]; done)
  have c2_0_1 : w2.cell? ⟨w.heap.size, 1, none⟩ = some (.int .i64 a1) := by rw [hb.cell (by simp <;> omega)]; first | exact c1_0_1 | (rw [World.cell?_alloc_lt _ _ _ hs1_0]; exact c1_0_1) | (simp [go_sem]; done)
  have c2_0_2 : w2.cell? ⟨w.heap.size, 2, none⟩ = some (.int .i64 a2) := by rw [hb.cell (by simp <;> omega)]; first | exact c1_0_2 | (rw [World.cell?_alloc_lt _ _ _ hs1_0]; exact c1_0_2) | (simp [go_sem]; done)
  have c2_0_3 : w2.cell? ⟨w.heap.size, 3, none⟩ = some (.int .i64 a3) := by rw [hb.cell (by simp <;> omega)]; first | exact c1_0_3 | (rw [World.cell?_alloc_lt _ _ _ hs1_0]; exact c1_0_3) | (simp [go_sem]; done)
  have c2_0_4 : w2.cell? ⟨w.heap.size, 4, none⟩ = some (.int .i64 a4) := by rw [hb.cell (by simp <;> omega)]; first | exact c1_0_4 | (rw [World.cell?_alloc_lt _ _ _ hs1_0]; exact c1_0_4) | (simp [go_sem]; done)
  have c2_0_5 : w2.cell? ⟨w.heap.size, 5, none⟩ = some (.int .i64 a5) := by rw [hb.cell (by simp <;> omega)]; first | exact c1_0_5 | (rw [World.cell?_alloc_lt _ _ _ hs1_0]; exact c1_0_5) | (simp [go_sem]; done)
  have c2_0_6 : w2.cell? ⟨w.heap.size, 6, none⟩ = some (.int .i64 a6) := by rw [hb.cell (by simp <;> omega)]; first | exact c1_0_6 | (rw [World.cell?_alloc_lt _ _ _ hs1_0]; exact c1_0_6) | (simp [go_sem]; done)
  have c2_0_7 : w2.cell? ⟨w.heap.size, 7, none⟩ = some (.int .i64 a7) := by rw [hb.cell (by simp <;> omega)]; first | exact c1_0_7 | (rw [World.cell?_alloc_lt _ _ _ hs1_0]; exact c1_0_7) | (simp [go_sem]; done)
  have c2_0_8 : w2.cell? ⟨w.heap.size, 8, none⟩ = some (.int .i64 a8) := by rw [hb.cell (by simp <;> omega)]; first | exact c1_0_8 | (rw [World.cell?_alloc_lt _ _ _ hs1_0]; exact c1_0_8) | (simp [go_sem]; done)
  have hs2_1 : w.heap.size + 1 < w2.heap.size := by omega
  have c2_1_0 : w2.cell? ⟨w.heap.size + 1, 0, none⟩ = some (.int .i64 x) := by rw [hb.cell (by simp <;> omega)]; first | exact c1_1_0 | (rw [World.cell?_alloc_lt _ _ _ hs1_1]; exact c1_1_0) | (simp [go_sem]; done)
  have c2_1_1 : w2.cell? ⟨w.heap.size + 1, 1, none⟩ = some (.int .i64 y) := by rw [hb.cell (by simp <;> omega)]; first | exact c1_1_1 | (rw [World.cell?_alloc_lt _ _ _ hs1_1]; exact c1_1_1) | (simp [go_sem]; done)
  have c2_1_2 : w2.cell? ⟨w.heap.size + 1, 2, none⟩ = some (.int .i64 z) := by rw [hb.cell (by simp <;> omega)]; first | exact c1_1_2 | (rw [World.cell?_alloc_lt _ _ _ hs1_1]; exact c1_1_2) | (simp [go_sem]; done)
  have hs2_2 : w1.heap.size < w2.heap.size := by omega
  have c2_2_0 : w2.cell? ⟨w1.heap.size, 0, none⟩ = some (.int .i64 0) := by rw [hb.cell (by simp <;> omega)]; first | (simp [go_sem]; done)
  have c2_2_1 : w2.cell? ⟨w1.heap.size, 1, none⟩ = some (.int .i64 0) := by rw [hb.cell (by simp <;> omega)]; first | (simp [go_sem]; done)
  have c2_2_2 : w2.cell? ⟨w1.heap.size, 2, none⟩ = some (.int .i64 0) := by rw [hb.cell (by simp <;> omega)]; first | (simp [go_sem]; done)
  have HB2 := Lib.hid (Below.trans ((ba_c (HB1.out) (Nat.le_refl _) _)) (hb.mono (Below.size ((ba_c (HB1.out) (Nat.le_refl _) _)))))
  clear hb hsz c1_0_0 c1_0_1 c1_0_2 c1_0_3 c1_0_4 c1_0_5 c1_0_6 c1_0_7 c1_0_8 c1_1_0 c1_1_1 c1_1_2 hs1_0 hs1_1
  go_wp2_with fail
  refine (counted14 _).mono ?_
  rintro e w3 ⟨rfl, hb⟩
  have hsz : w2.heap.size + 1 ≤ w3.heap.size := by have := hb.size; simp at this; omega
  have hs3_0 : w.heap.size < w3.heap.size := by omega
  have c3_0_0 : w3.cell? ⟨w.heap.size, 0, none⟩ = some (.int .i64 a0) := by rw [hb.cell (by simp <;> omega)]; first | exact c2_0_0 | (rw [World.cell?_alloc_lt _ _ _ hs2_0]; exact c2_0_0) | (simp [go_sem]; done)
  have c3_0_1 : w3.cell? ⟨w.heap.size, 1, none⟩ = some (.int .i64 a1) := by rw [hb.cell (by simp <;> omega)]; first | exact c2_0_1 | (rw [World.cell?_alloc_lt _ _ _ hs2_0]; exact c2_0_1) | (simp [go_sem]; done)
  have c3_0_2 : w3.cell? ⟨w.heap.size, 2, none⟩ = some (.int .i64 a2) := by rw [hb.cell (by simp <;> omega)]; first | exact c2_0_2 | (rw [World.cell?_alloc_lt _ _ _ hs2_0]; exact c2_0_2) | (simp [go_sem]; done)
  have c3_0_3 : w3.cell? ⟨w.heap.size, 3, none⟩ = some (.int .i64 a3) := by rw [hb.cell (by simp <;> omega)]; first | exact c2_0_3 | (rw [World.cell?_alloc_lt _ _ _ hs2_0]; exact c2_0_3) | (simp [go_sem]; done)
  have c3_0_4 : w3.cell? ⟨w.heap.size, 4, none⟩ = some (.int .i64 a4) := by rw [hb.cell (by simp <;> omega)]; first | exact c2_0_4 | (rw [World.cell?_alloc_lt _ _ _ hs2_0]; exact c2_0_4) | (simp [go_sem]; done)
  have c3_0_5 : w3.cell? ⟨w.heap.size, 5, none⟩ = some (.int .i64 a5) := by rw [hb.cell (by simp <;> omega)]; first | exact c2_0_5 | (rw [World.cell?_alloc_lt _ _ _ hs2_0]; exact c2_0_5) | (simp [go_sem]; done)
  have c3_0_6 : w3.cell? ⟨w.heap.size, 6, none⟩ = some (.int .i64 a6) := by rw [hb.cell (by simp <;> omega)]; first | exact c2_0_6 | (rw [World.cell?_alloc_lt _ _ _ hs2_0]; exact c2_0_6) | (simp [go_sem]; done)
  have c3_0_7 : w3.cell? ⟨w.heap.size, 7, none⟩ = some (.int .i64 a7) := by rw [hb.cell (by simp <;> omega)]; first | exact c2_0_7 | (rw [World.cell?_alloc_lt _ _ _ hs2_0]; exact c2_0_7) | (simp [go_sem]; done)
  have c3_0_8 : w3.cell? ⟨w.heap.size, 8, none⟩ = some (.int .i64 a8) := by rw [hb.cell (by simp <;> omega)]; first | exact c2_0_8 | (rw [World.cell?_alloc_lt _ _ _ hs2_0]; exact c2_0_8) | (simp [go_sem]; done)
  have hs3_1 : w.heap.size + 1 < w3.heap.size := by omega
  have c3_1_0 : w3.cell? ⟨w.heap.size + 1, 0, none⟩ = some (.int .i64 x) := by rw [hb.cell (by simp <;> omega)]; first | exact c2_1_0 | (rw [World.cell?_alloc_lt _ _ _ hs2_1]; exact c2_1_0) | (simp [go_sem]; done)
  have c3_1_1 : w3.cell? ⟨w.heap.size + 1, 1, none⟩ = some (.int .i64 y) := by rw [hb.cell (by simp <;> omega)]; first | exact c2_1_1 | (rw [World.cell?_alloc_lt _ _ _ hs2_1]; exact c2_1_1) | (simp [go_sem]; done)
  have c3_1_2 : w3.cell? ⟨w.heap.size + 1, 2, none⟩ = some (.int .i64 z) := by rw [hb.cell (by simp <;> omega)]; first | exact c2_1_2 | (rw [World.cell?_alloc_lt _ _ _ hs2_1]; exact c2_1_2) | (simp [go_sem]; done)
  have hs3_2 : w1.heap.size < w3.heap.size := by omega
  have c3_2_0 : w3.cell? ⟨w1.heap.size, 0, none⟩ = some (.int .i64 0) := by rw [hb.cell (by simp <;> omega)]; first | exact c2_2_0 | (rw [World.cell?_alloc_lt _ _ _ hs2_2]; exact c2_2_0) | (simp [go_sem]; done)
  have c3_2_1 : w3.cell? ⟨w1.heap.size, 1, none⟩ = some (.int .i64 0) := by rw [hb.cell (by simp <;> omega)]; first | exact c2_2_1 | (rw [World.cell?_alloc_lt _ _ _ hs2_2]; exact c2_2_1) | (simp [go_sem]; done)
  have c3_2_2 : w3.cell? ⟨w1.heap.size, 2, none⟩ = some (.int .i64 0) := by rw [hb.cell (by simp <;> omega)]; first | exact c2_2_2 | (rw [World.cell?_alloc_lt _ _ _ hs2_2]; exact c2_2_2) | (simp [go_sem]; done)
  have hs3_3 : w2.heap.size < w3.heap.size := by omega
  have c3_3_0 : w3.cell? ⟨w2.heap.size, 0, none⟩ = some (.int .i64 0) := by rw [hb.cell (by simp <;> omega)]; first | (simp [go_sem]; done)
  have c3_3_1 : w3.cell? ⟨w2.heap.size, 1, none⟩ = some (.int .i64 0) := by rw [hb.cell (by simp <;> omega)]; first | (simp [go_sem]; done)
  have c3_3_2 : w3.cell? ⟨w2.heap.size, 2, none⟩ = some (.int .i64 0) := by rw [hb.cell (by simp <;> omega)]; first | (simp [go_sem]; done)
  have HB3 := Lib.hid (Below.trans ((ba_c (HB2.out) (Nat.le_refl _) _)) (hb.mono (Below.size ((ba_c (HB2.out) (Nat.le_refl _) _)))))
  clear hb hsz c2_0_0 c2_0_1 c2_0_2 c2_0_3 c2_0_4 c2_0_5 c2_0_6 c2_0_7 c2_0_8 c2_1_0 c2_1_1 c2_1_2 c2_2_0 c2_2_1 c2_2_2 hs2_0 hs2_1 hs2_2
  go_wp2_with fail
  refine (isPrime15_yes _ HP.out _).mono ?_
  rintro e w4 ⟨rfl, hb⟩
  have hsz : w3.heap.size ≤ w4.heap.size := hb.size
  have hs4_0 : w.heap.size < w4.heap.size := by omega
  have c4_0_0 : w4.cell? ⟨w.heap.size, 0, none⟩ = some (.int .i64 a0) := by rw [hb.cell (by simp <;> omega)]; first | exact c3_0_0 | (rw [World.cell?_alloc_lt _ _ _ hs3_0]; exact c3_0_0) | (simp [go_sem]; done)
  have c4_0_1 : w4.cell? ⟨w.heap.size, 1, none⟩ = some (.int .i64 a1) := by rw [hb.cell (by simp <;> omega)]; first | exact c3_0_1 | (rw [World.cell?_alloc_lt _ _ _ hs3_0]; exact c3_0_1) | (simp [go_sem]; done)
  have c4_0_2 : w4.cell? ⟨w.heap.size, 2, none⟩ = some (.int .i64 a2) := by rw [hb.cell (by simp <;> omega)]; first | exact c3_0_2 | (rw [World.cell?_alloc_lt _ _ _ hs3_0]; exact c3_0_2) | (simp [go_sem]; done)
  have c4_0_3 : w4.cell? ⟨w.heap.size, 3, none⟩ = some (.int .i64 a3) := by rw [hb.cell (by simp <;> omega)]; first | exact c3_0_3 | (rw [World.cell?_alloc_lt _ _ _ hs3_0]; exact c3_0_3) | (simp [go_sem]; done)
  have c4_0_4 : w4.cell? ⟨w.heap.size, 4, none⟩ = some (.int .i64 a4) := by rw [hb.cell (by simp <;> omega)]; first | exact c3_0_4 | (rw [World.cell?_alloc_lt _ _ _ hs3_0]; exact c3_0_4) | (simp [go_sem]; done)
  have c4_0_5 : w4.cell? ⟨w.heap.size, 5, none⟩ = some (.int .i64 a5) := by rw [hb.cell (by simp <;> omega)]; first | exact c3_0_5 | (rw [World.cell?_alloc_lt _ _ _ hs3_0]; exact c3_0_5) | (simp [go_sem]; done)
  have c4_0_6 : w4.cell? ⟨w.heap.size, 6, none⟩ = some (.int .i64 a6) := by rw [hb.cell (by simp <;> omega)]; first | exact c3_0_6 | (rw [World.cell?_alloc_lt _ _ _ hs3_0]; exact c3_0_6) | (simp [go_sem]; done)
  have c4_0_7 : w4.cell? ⟨w.heap.size, 7, none⟩ = some (.int .i64 a7) := by rw [hb.cell (by simp <;> omega)]; first | exact c3_0_7 | (rw [World.cell?_alloc_lt _ _ _ hs3_0]; exact c3_0_7) | (simp [go_sem]; done)
  have c4_0_8 : w4.cell? ⟨w.heap.size, 8, none⟩ = some (.int .i64 a8) := by rw [hb.cell (by simp <;> omega)]; first | exact c3_0_8 | (rw [World.cell?_alloc_lt _ _ _ hs3_0]; exact c3_0_8) | (simp [go_sem]; done)
  have hs4_1 : w.heap.size + 1 < w4.heap.size := by omega
  have c4_1_0 : w4.cell? ⟨w.heap.size + 1, 0, none⟩ = some (.int .i64 x) := by rw [hb.cell (by simp <;> omega)]; first | exact c3_1_0 | (rw [World.cell?_alloc_lt _ _ _ hs3_1]; exact c3_1_0) | (simp [go_sem]; done)
  have c4_1_1 : w4.cell? ⟨w.heap.size + 1, 1, none⟩ = some (.int .i64 y) := by rw [hb.cell (by simp <;> omega)]; first | exact c3_1_1 | (rw [World.cell?_alloc_lt _ _ _ hs3_1]; exact c3_1_1) | (simp [go_sem]; done)
  have c4_1_2 : w4.cell? ⟨w.heap.size + 1, 2, none⟩ = some (.int .i64 z) := by rw [hb.cell (by simp <;> omega)]; first | exact c3_1_2 | (rw [World.cell?_alloc_lt _ _ _ hs3_1]; exact c3_1_2) | (simp [go_sem]; done)
  have hs4_2 : w1.heap.size < w4.heap.size := by omega
  have c4_2_0 : w4.cell? ⟨w1.heap.size, 0, none⟩ = some (.int .i64 0) := by rw [hb.cell (by simp <;> omega)]; first | exact c3_2_0 | (rw [World.cell?_alloc_lt _ _ _ hs3_2]; exact c3_2_0) | (simp [go_sem]; done)
  have c4_2_1 : w4.cell? ⟨w1.heap.size, 1, none⟩ = some (.int .i64 0) := by rw [hb.cell (by simp <;> omega)]; first | exact c3_2_1 | (rw [World.cell?_alloc_lt _ _ _ hs3_2]; exact c3_2_1) | (simp [go_sem]; done)
  have c4_2_2 : w4.cell? ⟨w1.heap.size, 2, none⟩ = some (.int .i64 0) := by rw [hb.cell (by simp <;> omega)]; first | exact c3_2_2 | (rw [World.cell?_alloc_lt _ _ _ hs3_2]; exact c3_2_2) | (simp [go_sem]; done)
  have hs4_3 : w2.heap.size < w4.heap.size := by omega
  have c4_3_0 : w4.cell? ⟨w2.heap.size, 0, none⟩ = some (.int .i64 0) := by rw [hb.cell (by simp <;> omega)]; first | exact c3_3_0 | (rw [World.cell?_alloc_lt _ _ _ hs3_3]; exact c3_3_0) | (simp [go_sem]; done)
  have c4_3_1 : w4.cell? ⟨w2.heap.size, 1, none⟩ = some (.int .i64 0) := by rw [hb.cell (by simp <;> omega)]; first | exact c3_3_1 | (rw [World.cell?_alloc_lt _ _ _ hs3_3]; exact c3_3_1) | (simp [go_sem]; done)
  have c4_3_2 : w4.cell? ⟨w2.heap.size, 2, none⟩ = some (.int .i64 0) := by rw [hb.cell (by simp <;> omega)]; first | exact c3_3_2 | (rw [World.cell?_alloc_lt _ _ _ hs3_3]; exact c3_3_2) | (simp [go_sem]; done)
  have HB4 := Lib.hid (Below.trans (HB3.out) (hb.mono (Below.size (HB3.out))))
  clear hb hsz c3_0_0 c3_0_1 c3_0_2 c3_0_3 c3_0_4 c3_0_5 c3_0_6 c3_0_7 c3_0_8 c3_1_0 c3_1_1 c3_1_2 c3_2_0 c3_2_1 c3_2_2 c3_3_0 c3_3_1 c3_3_2 hs3_0 hs3_1 hs3_2 hs3_3
  go_wp2_with fail
  refine (rowsF29 _ _ _ _ _ _ _ _ _ _).mono ?_
  rintro e w5 ⟨rfl, hb⟩
  have hsz : w4.heap.size ≤ w5.heap.size := hb.size
  have hs5_0 : w.heap.size < w5.heap.size := by omega
  have c5_0_0 : w5.cell? ⟨w.heap.size, 0, none⟩ = some (.int .i64 a0) := by rw [hb.cell (by simp <;> omega)]; first | exact c4_0_0 | (rw [World.cell?_alloc_lt _ _ _ hs4_0]; exact c4_0_0) | (simp [go_sem]; done)
  have c5_0_1 : w5.cell? ⟨w.heap.size, 1, none⟩ = some (.int .i64 a1) := by rw [hb.cell (by simp <;> omega)]; first | exact c4_0_1 | (rw [World.cell?_alloc_lt _ _ _ hs4_0]; exact c4_0_1) | (simp [go_sem]; done)
  have c5_0_2 : w5.cell? ⟨w.heap.size, 2, none⟩ = some (.int .i64 a2) := by rw [hb.cell (by simp <;> omega)]; first | exact c4_0_2 | (rw [World.cell?_alloc_lt _ _ _ hs4_0]; exact c4_0_2) | (simp [go_sem]; done)
  have c5_0_3 : w5.cell? ⟨w.heap.size, 3, none⟩ = some (.int .i64 a3) := by rw [hb.cell (by simp <;> omega)]; first | exact c4_0_3 | (rw [World.cell?_alloc_lt _ _ _ hs4_0]; exact c4_0_3) | (simp [go_sem]; done)
  have c5_0_4 : w5.cell? ⟨w.heap.size, 4, none⟩ = some (.int .i64 a4) := by rw [hb.cell (by simp <;> omega)]; first | exact c4_0_4 | (rw [World.cell?_alloc_lt _ _ _ hs4_0]; exact c4_0_4) | (simp [go_sem]; done)
  have c5_0_5 : w5.cell? ⟨w.heap.size, 5, none⟩ = some (.int .i64 a5) := by rw [hb.cell (by simp <;> omega)]; first | exact c4_0_5 | (rw [World.cell?_alloc_lt _ _ _ hs4_0]; exact c4_0_5) | (simp [go_sem]; done)
  have c5_0_6 : w5.cell? ⟨w.heap.size, 6, none⟩ = some (.int .i64 a6) := by rw [hb.cell (by simp <;> omega)]; first | exact c4_0_6 | (rw [World.cell?_alloc_lt _ _ _ hs4_0]; exact c4_0_6) | (simp [go_sem]; done)
  have c5_0_7 : w5.cell? ⟨w.heap.size, 7, none⟩ = some (.int .i64 a7) := by rw [hb.cell (by simp <;> omega)]; first | exact c4_0_7 | (rw [World.cell?_alloc_lt _ _ _ hs4_0]; exact c4_0_7) | (simp [go_sem]; done)
  have c5_0_8 : w5.cell? ⟨w.heap.size, 8, none⟩ = some (.int .i64 a8) := by rw [hb.cell (by simp <;> omega)]; first | exact c4_0_8 | (rw [World.cell?_alloc_lt _ _ _ hs4_0]; exact c4_0_8) | (simp [go_sem]; done)
  have hs5_1 : w.heap.size + 1 < w5.heap.size := by omega
  have c5_1_0 : w5.cell? ⟨w.heap.size + 1, 0, none⟩ = some (.int .i64 x) := by rw [hb.cell (by simp <;> omega)]; first | exact c4_1_0 | (rw [World.cell?_alloc_lt _ _ _ hs4_1]; exact c4_1_0) | (simp [go_sem]; done)
  have c5_1_1 : w5.cell? ⟨w.heap.size + 1, 1, none⟩ = some (.int .i64 y) := by rw [hb.cell (by simp <;> omega)]; first | exact c4_1_1 | (rw [World.cell?_alloc_lt _ _ _ hs4_1]; exact c4_1_1) | (simp [go_sem]; done)
  have c5_1_2 : w5.cell? ⟨w.heap.size + 1, 2, none⟩ = some (.int .i64 z) := by rw [hb.cell (by simp <;> omega)]; first | exact c4_1_2 | (rw [World.cell?_alloc_lt _ _ _ hs4_1]; exact c4_1_2) | (simp [go_sem]; done)
  have hs5_2 : w1.heap.size < w5.heap.size := by omega
  have c5_2_0 : w5.cell? ⟨w1.heap.size, 0, none⟩ = some (.int .i64 0) := by rw [hb.cell (by simp <;> omega)]; first | exact c4_2_0 | (rw [World.cell?_alloc_lt _ _ _ hs4_2]; exact c4_2_0) | (simp [go_sem]; done)
  have c5_2_1 : w5.cell? ⟨w1.heap.size, 1, none⟩ = some (.int .i64 0) := by rw [hb.cell (by simp <;> omega)]; first | exact c4_2_1 | (rw [World.cell?_alloc_lt _ _ _ hs4_2]; exact c4_2_1) | (simp [go_sem]; done)
  have c5_2_2 : w5.cell? ⟨w1.heap.size, 2, none⟩ = some (.int .i64 0) := by rw [hb.cell (by simp <;> omega)]; first | exact c4_2_2 | (rw [World.cell?_alloc_lt _ _ _ hs4_2]; exact c4_2_2) | (simp [go_sem]; done)
  have hs5_3 : w2.heap.size < w5.heap.size := by omega
  have c5_3_0 : w5.cell? ⟨w2.heap.size, 0, none⟩ = some (.int .i64 0) := by rw [hb.cell (by simp <;> omega)]; first | exact c4_3_0 | (rw [World.cell?_alloc_lt _ _ _ hs4_3]; exact c4_3_0) | (simp [go_sem]; done)
  have c5_3_1 : w5.cell? ⟨w2.heap.size, 1, none⟩ = some (.int .i64 0) := by rw [hb.cell (by simp <;> omega)]; first | exact c4_3_1 | (rw [World.cell?_alloc_lt _ _ _ hs4_3]; exact c4_3_1) | (simp [go_sem]; done)
  have c5_3_2 : w5.cell? ⟨w2.heap.size, 2, none⟩ = some (.int .i64 0) := by rw [hb.cell (by simp <;> omega)]; first | exact c4_3_2 | (rw [World.cell?_alloc_lt _ _ _ hs4_3]; exact c4_3_2) | (simp [go_sem]; done)
  have HB5 := Lib.hid (Below.trans (HB4.out) (hb.mono (Below.size (HB4.out))))
  clear hb hsz c4_0_0 c4_0_1 c4_0_2 c4_0_3 c4_0_4 c4_0_5 c4_0_6 c4_0_7 c4_0_8 c4_1_0 c4_1_1 c4_1_2 c4_2_0 c4_2_1 c4_2_2 c4_3_0 c4_3_1 c4_3_2 hs4_0 hs4_1 hs4_2 hs4_3
  go_wp2_with fail
  refine (detF16_is _ _ _ _ _ _ _ _ _ _ _ HP.out HG.out _).mono ?_
  rintro e w6 ⟨rfl, hb⟩
  have hsz : w5.heap.size + 3 ≤ w6.heap.size := by have := hb.size; simp at this; omega
  have hs6_0 : w.heap.size < w6.heap.size := by omega
  have c6_0_0 : w6.cell? ⟨w.heap.size, 0, none⟩ = some (.int .i64 a0) := by rw [hb.cell (by simp <;> omega)]; first | exact c5_0_0 | (rw [World.cell?_alloc_lt _ _ _ hs5_0]; exact c5_0_0) | (rw [World.cell?_alloc_lt _ _ _ (by simp <;> omega), World.cell?_alloc_lt _ _ _ (by simp <;> omega), World.cell?_alloc_lt _ _ _ (by simp <;> omega)]; exact c5_0_0) | (simp [go_sem]; done)
  have c6_0_1 : w6.cell? ⟨w.heap.size, 1, none⟩ = some (.int .i64 a1) := by rw [hb.cell (by simp <;> omega)]; first | exact c5_0_1 | (rw [World.cell?_alloc_lt _ _ _ hs5_0]; exact c5_0_1) | (rw [World.cell?_alloc_lt _ _ _ (by simp <;> omega), World.cell?_alloc_lt _ _ _ (by simp <;> omega), World.cell?_alloc_lt _ _ _ (by simp <;> omega)]; exact c5_0_1) | (simp [go_sem]; done)
  have c6_0_2 : w6.cell? ⟨w.heap.size, 2, none⟩ = some (.int .i64 a2) := by rw [hb.cell (by simp <;> omega)]; first | exact c5_0_2 | (rw [World.cell?_alloc_lt _ _ _ hs5_0]; exact c5_0_2) | (rw [World.cell?_alloc_lt _ _ _ (by simp <;> omega), World.cell?_alloc_lt _ _ _ (by simp <;> omega), World.cell?_alloc_lt _ _ _ (by simp <;> omega)]; exact c5_0_2) | (simp [go_sem]; done)
  have c6_0_3 : w6.cell? ⟨w.heap.size, 3, none⟩ = some (.int .i64 a3) := by rw [hb.cell (by simp <;> omega)]; first | exact c5_0_3 | (rw [World.cell?_alloc_lt _ _ _ hs5_0]; exact c5_0_3) | (rw [World.cell?_alloc_lt _ _ _ (by simp <;> omega), World.cell?_alloc_lt _ _ _ (by simp <;> omega), World.cell?_alloc_lt _ _ _ (by simp <;> omega)]; exact c5_0_3) | (simp [go_sem]; done)
  have c6_0_4 : w6.cell? ⟨w.heap.size, 4, none⟩ = some (.int .i64 a4) := by rw [hb.cell (by simp <;> omega)]; first | exact c5_0_4 | (rw [World.cell?_alloc_lt _ _ _ hs5_0]; exact c5_0_4) | (rw [World.cell?_alloc_lt _ _ _ (by simp <;> omega), World.cell?_alloc_lt _ _ _ (by simp <;> omega), World.cell?_alloc_lt _ _ _ (by simp <;> omega)]; exact c5_0_4) | (simp [go_sem]; done)
  have c6_0_5 : w6.cell? ⟨w.heap.size, 5, none⟩ = some (.int .i64 a5) := by rw [hb.cell (by simp <;> omega)]; first | exact c5_0_5 | (rw [World.cell?_alloc_lt _ _ _ hs5_0]; exact c5_0_5) | (rw [World.cell?_alloc_lt _ _ _ (by simp <;> omega), World.cell?_alloc_lt _ _ _ (by simp <;> omega), World.cell?_alloc_lt _ _ _ (by simp <;> omega)]; exact c5_0_5) | (simp [go_sem]; done)
  have c6_0_6 : w6.cell? ⟨w.heap.size, 6, none⟩ = some (.int .i64 a6) := by rw [hb.cell (by simp <;> omega)]; first | exact c5_0_6 | (rw [World.cell?_alloc_lt _ _ _ hs5_0]; exact c5_0_6) | (rw [World.cell?_alloc_lt _ _ _ (by simp <;> omega), World.cell?_alloc_lt _ _ _ (by simp <;> omega), World.cell?_alloc_lt _ _ _ (by simp <;> omega)]; exact c5_0_6) | (simp [go_sem]; done)
  have c6_0_7 : w6.cell? ⟨w.heap.size, 7, none⟩ = some (.int .i64 a7) := by rw [hb.cell (by simp <;> omega)]; first | exact c5_0_7 | (rw [World.cell?_alloc_lt _ _ _ hs5_0]; exact c5_0_7) | (rw [World.cell?_alloc_lt _ _ _ (by simp <;> omega), World.cell?_alloc_lt _ _ _ (by simp <;> omega), World.cell?_alloc_lt _ _ _ (by simp <;> omega)]; exact c5_0_7) | (simp [go_sem]; done)
  have c6_0_8 : w6.cell? ⟨w.heap.size, 8, none⟩ = some (.int .i64 a8) := by rw [hb.cell (by simp <;> omega)]; first | exact c5_0_8 | (rw [World.cell?_alloc_lt _ _ _ hs5_0]; exact c5_0_8) | (rw [World.cell?_alloc_lt _ _ _ (by simp <;> omega), World.cell?_alloc_lt _ _ _ (by simp <;> omega), World.cell?_alloc_lt _ _ _ (by simp <;> omega)]; exact c5_0_8) | (simp [go_sem]; done)
  have hs6_1 : w.heap.size + 1 < w6.heap.size := by omega
  have c6_1_0 : w6.cell? ⟨w.heap.size + 1, 0, none⟩ = some (.int .i64 x) := by rw [hb.cell (by simp <;> omega)]; first | exact c5_1_0 | (rw [World.cell?_alloc_lt _ _ _ hs5_1]; exact c5_1_0) | (rw [World.cell?_alloc_lt _ _ _ (by simp <;> omega), World.cell?_alloc_lt _ _ _ (by simp <;> omega), World.cell?_alloc_lt _ _ _ (by simp <;> omega)]; exact c5_1_0) | (simp [go_sem]; done)
  have c6_1_1 : w6.cell? ⟨w.heap.size + 1, 1, none⟩ = some (.int .i64 y) := by rw [hb.cell (by simp <;> omega)]; first | exact c5_1_1 | (rw [World.cell?_alloc_lt _ _ _ hs5_1]; exact c5_1_1) | (rw [World.cell?_alloc_lt _ _ _ (by simp <;> omega), World.cell?_alloc_lt _ _ _ (by simp <;> omega), World.cell?_alloc_lt _ _ _ (by simp <;> omega)]; exact c5_1_1) | (simp [go_sem]; done)
  have c6_1_2 : w6.cell? ⟨w.heap.size + 1, 2, none⟩ = some (.int .i64 z) := by rw [hb.cell (by simp <;> omega)]; first | exact c5_1_2 | (rw [World.cell?_alloc_lt _ _ _ hs5_1]; exact c5_1_2) | (rw [World.cell?_alloc_lt _ _ _ (by simp <;> omega), World.cell?_alloc_lt _ _ _ (by simp <;> omega), World.cell?_alloc_lt _ _ _ (by simp <;> omega)]; exact c5_1_2) | (simp [go_sem]; done)
  have hs6_2 : w1.heap.size < w6.heap.size := by omega
  have c6_2_0 : w6.cell? ⟨w1.heap.size, 0, none⟩ = some (.int .i64 0) := by rw [hb.cell (by simp <;> omega)]; first | exact c5_2_0 | (rw [World.cell?_alloc_lt _ _ _ hs5_2]; exact c5_2_0) | (rw [World.cell?_alloc_lt _ _ _ (by simp <;> omega), World.cell?_alloc_lt _ _ _ (by simp <;> omega), World.cell?_alloc_lt _ _ _ (by simp <;> omega)]; exact c5_2_0) | (simp [go_sem]; done)
  have c6_2_1 : w6.cell? ⟨w1.heap.size, 1, none⟩ = some (.int .i64 0) := by rw [hb.cell (by simp <;> omega)]; first | exact c5_2_1 | (rw [World.cell?_alloc_lt _ _ _ hs5_2]; exact c5_2_1) | (rw [World.cell?_alloc_lt _ _ _ (by simp <;> omega), World.cell?_alloc_lt _ _ _ (by simp <;> omega), World.cell?_alloc_lt _ _ _ (by simp <;> omega)]; exact c5_2_1) | (simp [go_sem]; done)
  have c6_2_2 : w6.cell? ⟨w1.heap.size, 2, none⟩ = some (.int .i64 0) := by rw [hb.cell (by simp <;> omega)]; first | exact c5_2_2 | (rw [World.cell?_alloc_lt _ _ _ hs5_2]; exact c5_2_2) | (rw [World.cell?_alloc_lt _ _ _ (by simp <;> omega), World.cell?_alloc_lt _ _ _ (by simp <;> omega), World.cell?_alloc_lt _ _ _ (by simp <;> omega)]; exact c5_2_2) | (simp [go_sem]; done)
  have hs6_3 : w2.heap.size < w6.heap.size := by omega
  have c6_3_0 : w6.cell? ⟨w2.heap.size, 0, none⟩ = some (.int .i64 0) := by rw [hb.cell (by simp <;> omega)]; first | exact c5_3_0 | (rw [World.cell?_alloc_lt _ _ _ hs5_3]; exact c5_3_0) | (rw [World.cell?_alloc_lt _ _ _ (by simp <;> omega), World.cell?_alloc_lt _ _ _ (by simp <;> omega), World.cell?_alloc_lt _ _ _ (by simp <;> omega)]; exact c5_3_0) | (simp [go_sem]; done)
  have c6_3_1 : w6.cell? ⟨w2.heap.size, 1, none⟩ = some (.int .i64 0) := by rw [hb.cell (by simp <;> omega)]; first | exact c5_3_1 | (rw [World.cell?_alloc_lt _ _ _ hs5_3]; exact c5_3_1) | (rw [World.cell?_alloc_lt _ _ _ (by simp <;> omega), World.cell?_alloc_lt _ _ _ (by simp <;> omega), World.cell?_alloc_lt _ _ _ (by simp <;> omega)]; exact c5_3_1) | (simp [go_sem]; done)
  have c6_3_2 : w6.cell? ⟨w2.heap.size, 2, none⟩ = some (.int .i64 0) := by rw [hb.cell (by simp <;> omega)]; first | exact c5_3_2 | (rw [World.cell?_alloc_lt _ _ _ hs5_3]; exact c5_3_2) | (rw [World.cell?_alloc_lt _ _ _ (by simp <;> omega), World.cell?_alloc_lt _ _ _ (by simp <;> omega), World.cell?_alloc_lt _ _ _ (by simp <;> omega)]; exact c5_3_2) | (simp [go_sem]; done)
  have hs6_4 : w5.heap.size < w6.heap.size := by omega
  have c6_4_0 : w6.cell? ⟨w5.heap.size, 0, none⟩ = some (.int .i64 a0) := by rw [hb.cell (by simp <;> omega)]; first | (simp [go_sem]; done)
  have c6_4_1 : w6.cell? ⟨w5.heap.size, 1, none⟩ = some (.int .i64 a1) := by rw [hb.cell (by simp <;> omega)]; first | (simp [go_sem]; done)
  have c6_4_2 : w6.cell? ⟨w5.heap.size, 2, none⟩ = some (.int .i64 a2) := by rw [hb.cell (by simp <;> omega)]; first | (simp [go_sem]; done)
  have hs6_5 : w5.heap.size + 1 < w6.heap.size := by omega
  have c6_5_0 : w6.cell? ⟨w5.heap.size + 1, 0, none⟩ = some (.int .i64 a3) := by rw [hb.cell (by simp <;> omega)]; first | (simp [go_sem]; done)
  have c6_5_1 : w6.cell? ⟨w5.heap.size + 1, 1, none⟩ = some (.int .i64 a4) := by rw [hb.cell (by simp <;> omega)]; first | (simp [go_sem]; done)
  have c6_5_2 : w6.cell? ⟨w5.heap.size + 1, 2, none⟩ = some (.int .i64 a5) := by rw [hb.cell (by simp <;> omega)]; first | (simp [go_sem]; done)
  have hs6_6 : w5.heap.size + 2 < w6.heap.size := by omega
  have c6_6_0 : w6.cell? ⟨w5.heap.size + 2, 0, none⟩ = some (.int .i64 a6) := by rw [hb.cell (by simp <;> omega)]; first | (simp [go_sem]; done)
  have c6_6_1 : w6.cell? ⟨w5.heap.size + 2, 1, none⟩ = some (.int .i64 a7) := by rw [hb.cell (by simp <;> omega)]; first | (simp [go_sem]; done)
  have c6_6_2 : w6.cell? ⟨w5.heap.size + 2, 2, none⟩ = some (.int .i64 a8) := by rw [hb.cell (by simp <;> omega)]; first | (simp [go_sem]; done)
  have HB6 := Lib.hid (Below.trans ((ba_c ((ba_c ((ba_c (HB5.out) (Nat.le_refl _) _)) (Nat.le_refl _) _)) (Nat.le_refl _) _)) (hb.mono (Below.size ((ba_c ((ba_c ((ba_c (HB5.out) (Nat.le_refl _) _)) (Nat.le_refl _) _)) (Nat.le_refl _) _)))))
  clear hb hsz c5_0_0 c5_0_1 c5_0_2 c5_0_3 c5_0_4 c5_0_5 c5_0_6 c5_0_7 c5_0_8 c5_1_0 c5_1_1 c5_1_2 c5_2_0 c5_2_1 c5_2_2 c5_3_0 c5_3_1 c5_3_2 hs5_0 hs5_1 hs5_2 hs5_3
  go_wp2_with fail
  refine (plainF21e _ _ _ _ _ _ _ _ HU.out HZ.out HP.out _).mono ?_
  rintro e w7 ⟨rfl, hb⟩
  have hsz : w6.heap.size ≤ w7.heap.size := hb.size
  have hs7_0 : w.heap.size < w7.heap.size := by omega
  have c7_0_0 : w7.cell? ⟨w.heap.size, 0, none⟩ = some (.int .i64 a0) := by rw [hb.cell (by simp <;> omega)]; first | exact c6_0_0 | (rw [World.cell?_alloc_lt _ _ _ hs6_0]; exact c6_0_0) | (simp [go_sem]; done)
  have c7_0_1 : w7.cell? ⟨w.heap.size, 1, none⟩ = some (.int .i64 a1) := by rw [hb.cell (by simp <;> omega)]; first | exact c6_0_1 | (rw [World.cell?_alloc_lt _ _ _ hs6_0]; exact c6_0_1) | (simp [go_sem]; done)
  have c7_0_2 : w7.cell? ⟨w.heap.size, 2, none⟩ = some (.int .i64 a2) := by rw [hb.cell (by simp <;> omega)]; first | exact c6_0_2 | (rw [World.cell?_alloc_lt _ _ _ hs6_0]; exact c6_0_2) | (simp [go_sem]; done)
  have c7_0_3 : w7.cell? ⟨w.heap.size, 3, none⟩ = some (.int .i64 a3) := by rw [hb.cell (by simp <;> omega)]; first | exact c6_0_3 | (rw [World.cell?_alloc_lt _ _ _ hs6_0]; exact c6_0_3) | (simp [go_sem]; done)
  have c7_0_4 : w7.cell? ⟨w.heap.size, 4, none⟩ = some (.int .i64 a4) := by rw [hb.cell (by simp <;> omega)]; first | exact c6_0_4 | (rw [World.cell?_alloc_lt _ _ _ hs6_0]; exact c6_0_4) | (simp [go_sem]; done)
  have c7_0_5 : w7.cell? ⟨w.heap.size, 5, none⟩ = some (.int .i64 a5) := by rw [hb.cell (by simp <;> omega)]; first | exact c6_0_5 | (rw [World.cell?_alloc_lt _ _ _ hs6_0]; exact c6_0_5) | (simp [go_sem]; done)
  have c7_0_6 : w7.cell? ⟨w.heap.size, 6, none⟩ = some (.int .i64 a6) := by rw [hb.cell (by simp <;> omega)]; first | exact c6_0_6 | (rw [World.cell?_alloc_lt _ _ _ hs6_0]; exact c6_0_6) | (simp [go_sem]; done)
  have c7_0_7 : w7.cell? ⟨w.heap.size, 7, none⟩ = some (.int .i64 a7) := by rw [hb.cell (by simp <;> omega)]; first | exact c6_0_7 | (rw [World.cell?_alloc_lt _ _ _ hs6_0]; exact c6_0_7) | (simp [go_sem]; done)
  have c7_0_8 : w7.cell? ⟨w.heap.size, 8, none⟩ = some (.int .i64 a8) := by rw [hb.cell (by simp <;> omega)]; first | exact c6_0_8 | (rw [World.cell?_alloc_lt _ _ _ hs6_0]; exact c6_0_8) | (simp [go_sem]; done)
  have hs7_1 : w.heap.size + 1 < w7.heap.size := by omega
  have c7_1_0 : w7.cell? ⟨w.heap.size + 1, 0, none⟩ = some (.int .i64 x) := by rw [hb.cell (by simp <;> omega)]; first | exact c6_1_0 | (rw [World.cell?_alloc_lt _ _ _ hs6_1]; exact c6_1_0) | (simp [go_sem]; done)
  have c7_1_1 : w7.cell? ⟨w.heap.size + 1, 1, none⟩ = some (.int .i64 y) := by rw [hb.cell (by simp <;> omega)]; first | exact c6_1_1 | (rw [World.cell?_alloc_lt _ _ _ hs6_1]; exact c6_1_1) | (simp [go_sem]; done)
  have c7_1_2 : w7.cell? ⟨w.heap.size + 1, 2, none⟩ = some (.int .i64 z) := by rw [hb.cell (by simp <;> omega)]; first | exact c6_1_2 | (rw [World.cell?_alloc_lt _ _ _ hs6_1]; exact c6_1_2) | (simp [go_sem]; done)
  have hs7_2 : w1.heap.size < w7.heap.size := by omega
  have c7_2_0 : w7.cell? ⟨w1.heap.size, 0, none⟩ = some (.int .i64 0) := by rw [hb.cell (by simp <;> omega)]; first | exact c6_2_0 | (rw [World.cell?_alloc_lt _ _ _ hs6_2]; exact c6_2_0) | (simp [go_sem]; done)
  have c7_2_1 : w7.cell? ⟨w1.heap.size, 1, none⟩ = some (.int .i64 0) := by rw [hb.cell (by simp <;> omega)]; first | exact c6_2_1 | (rw [World.cell?_alloc_lt _ _ _ hs6_2]; exact c6_2_1) | (simp [go_sem]; done)
  have c7_2_2 : w7.cell? ⟨w1.heap.size, 2, none⟩ = some (.int .i64 0) := by rw [hb.cell (by simp <;> omega)]; first | exact c6_2_2 | (rw [World.cell?_alloc_lt _ _ _ hs6_2]; exact c6_2_2) | (simp [go_sem]; done)
  have hs7_3 : w2.heap.size < w7.heap.size := by omega
  have c7_3_0 : w7.cell? ⟨w2.heap.size, 0, none⟩ = some (.int .i64 0) := by rw [hb.cell (by simp <;> omega)]; first | exact c6_3_0 | (rw [World.cell?_alloc_lt _ _ _ hs6_3]; exact c6_3_0) | (simp [go_sem]; done)
  have c7_3_1 : w7.cell? ⟨w2.heap.size, 1, none⟩ = some (.int .i64 0) := by rw [hb.cell (by simp <;> omega)]; first | exact c6_3_1 | (rw [World.cell?_alloc_lt _ _ _ hs6_3]; exact c6_3_1) | (simp [go_sem]; done)
  have c7_3_2 : w7.cell? ⟨w2.heap.size, 2, none⟩ = some (.int .i64 0) := by rw [hb.cell (by simp <;> omega)]; first | exact c6_3_2 | (rw [World.cell?_alloc_lt _ _ _ hs6_3]; exact c6_3_2) | (simp [go_sem]; done)
  have hs7_4 : w5.heap.size < w7.heap.size := by omega
  have c7_4_0 : w7.cell? ⟨w5.heap.size, 0, none⟩ = some (.int .i64 a0) := by rw [hb.cell (by simp <;> omega)]; first | exact c6_4_0 | (rw [World.cell?_alloc_lt _ _ _ hs6_4]; exact c6_4_0) | (simp [go_sem]; done)
  have c7_4_1 : w7.cell? ⟨w5.heap.size, 1, none⟩ = some (.int .i64 a1) := by rw [hb.cell (by simp <;> omega)]; first | exact c6_4_1 | (rw [World.cell?_alloc_lt _ _ _ hs6_4]; exact c6_4_1) | (simp [go_sem]; done)
  have c7_4_2 : w7.cell? ⟨w5.heap.size, 2, none⟩ = some (.int .i64 a2) := by rw [hb.cell (by simp <;> omega)]; first | exact c6_4_2 | (rw [World.cell?_alloc_lt _ _ _ hs6_4]; exact c6_4_2) | (simp [go_sem]; done)
  have hs7_5 : w5.heap.size + 1 < w7.heap.size := by omega
  have c7_5_0 : w7.cell? ⟨w5.heap.size + 1, 0, none⟩ = some (.int .i64 a3) := by rw [hb.cell (by simp <;> omega)]; first | exact c6_5_0 | (rw [World.cell?_alloc_lt _ _ _ hs6_5]; exact c6_5_0) | (simp [go_sem]; done)
  have c7_5_1 : w7.cell? ⟨w5.heap.size + 1, 1, none⟩ = some (.int .i64 a4) := by rw [hb.cell (by simp <;> omega)]; first | exact c6_5_1 | (rw [World.cell?_alloc_lt _ _ _ hs6_5]; exact c6_5_1) | (simp [go_sem]; done)
  have c7_5_2 : w7.cell? ⟨w5.heap.size + 1, 2, none⟩ = some (.int .i64 a5) := by rw [hb.cell (by simp <;> omega)]; first | exact c6_5_2 | (rw [World.cell?_alloc_lt _ _ _ hs6_5]; exact c6_5_2) | (simp [go_sem]; done)
  have hs7_6 : w5.heap.size + 2 < w7.heap.size := by omega
  have c7_6_0 : w7.cell? ⟨w5.heap.size + 2, 0, none⟩ = some (.int .i64 a6) := by rw [hb.cell (by simp <;> omega)]; first | exact c6_6_0 | (rw [World.cell?_alloc_lt _ _ _ hs6_6]; exact c6_6_0) | (simp [go_sem]; done)
  have c7_6_1 : w7.cell? ⟨w5.heap.size + 2, 1, none⟩ = some (.int .i64 a7) := by rw [hb.cell (by simp <;> omega)]; first | exact c6_6_1 | (rw [World.cell?_alloc_lt _ _ _ hs6_6]; exact c6_6_1) | (simp [go_sem]; done)
  have c7_6_2 : w7.cell? ⟨w5.heap.size + 2, 2, none⟩ = some (.int .i64 a8) := by rw [hb.cell (by simp <;> omega)]; first | exact c6_6_2 | (rw [World.cell?_alloc_lt _ _ _ hs6_6]; exact c6_6_2) | (simp [go_sem]; done)
  have HB7 := Lib.hid (Below.trans (HB6.out) (hb.mono (Below.size (HB6.out))))
  clear hb hsz c6_0_0 c6_0_1 c6_0_2 c6_0_3 c6_0_4 c6_0_5 c6_0_6 c6_0_7 c6_0_8 c6_1_0 c6_1_1 c6_1_2 c6_2_0 c6_2_1 c6_2_2 c6_3_0 c6_3_1 c6_3_2 c6_4_0 c6_4_1 c6_4_2 c6_5_0 c6_5_1 c6_5_2 c6_6_0 c6_6_1 c6_6_2 hs6_0 hs6_1 hs6_2 hs6_3 hs6_4 hs6_5 hs6_6
  have hB := HB7.out
  cases zb
  all_goals
    go_wp2_with fail
    go_ret
    exact ⟨rfl, by go_grown⟩

end Go.Proofs.Ytfdbkocpljiehaa
