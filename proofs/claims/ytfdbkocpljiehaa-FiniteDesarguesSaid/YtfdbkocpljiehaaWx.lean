/- Walks: the law FiniteAll. -/
import Derived.Test.YtfdbkocpljiehaaWv
import Derived.Test.YtfdbkocpljiehaaWu
set_option linter.unusedSimpArgs false
set_option linter.unusedVariables false
namespace Go.Proofs.Ytfdbkocpljiehaa
open Go.RowKit

/-- block g holds n triples -/
def RowsAt (w : World) (g n : Nat) (f : Nat → Int × Int × Int) : Prop :=
  ∀ i, i < n → w.cell? ⟨g, 3 * i, none⟩ = some (.int .i64 (f i).1) ∧ w.cell? ⟨g, 3 * i + 1, none⟩ = some (.int .i64 (f i).2.1) ∧ w.cell? ⟨g, 3 * i + 2, none⟩ = some (.int .i64 (f i).2.2)
theorem RowsAt.below {w w1 : World} {g n B : Nat} {f : Nat → Int × Int × Int} (h : RowsAt w g n f) (hb : Below B w w1) (hg : g < B) : RowsAt w1 g n f := by
  intro i hi
  obtain ⟨h1, h2, h3⟩ := h i hi
  exact ⟨by rw [hb.cell hg]; exact h1, by rw [hb.cell hg]; exact h2, by rw [hb.cell hg]; exact h3⟩
theorem RowsAt.draws {w : World} {g n k : Nat} {f : Nat → Int × Int × Int} (h : RowsAt w g n f) : RowsAt (w.drewN k) g n f := h

/-- a gathered slice: its block, its cells -/
theorem Gat.rows {P k n : Nat} {w0 w : World} {v : Value} (h : Gat P k w0 w v) (hl : (allK P k).length = n) (hn : 0 < n) :
    ∃ g cap, v = .slice (some ⟨g, 0, none⟩) n cap ∧ w0.heap.size ≤ g ∧ g < w.heap.size ∧ n ≤ cap ∧ RowsAt w g n (fun i => (allK P k).getD i (0, 0, 0)) := by
  subst hl
  exact h.open hn

set_option maxHeartbeats 1000000 in
theorem All23_bad (p : Int) (hp : isP p = false) (w : World) :
    Calls Try.prog 23 #[.int .i64 p] w fun e w' => e = .returned (.tuple #[.slice none 0 0, .int .i64 4]) ∧ Below w.heap.size w w' := by
  go_enter Try.func23, Try.ntmps23
  go_wp2_with (go_at_call 35; refine (prime35_no _ hp _).mono ?_; rintro e w' ⟨rfl, rfl⟩)
  go_ret2
  exact ⟨rfl, Below.refl _ _⟩

set_option maxRecDepth 100000 in
set_option maxHeartbeats 4000000 in
theorem FiniteAll6_bad (p a b c : Int) (hp : isP p = false) (w : World) :
    Calls Try.prog 6 #[.int .i64 p, .agg #[.int .i64 a, .int .i64 b, .int .i64 c]] w fun e w' => e = .returned (.bool true) ∧ Below w.heap.size w w' := by
  have Hhp := Lib.hid hp
  clear hp
  go_enter Try.func6, Try.ntmps6
  go_wp2_with fail
  refine (All23_bad _ Hhp.out _).mono ?_
  rintro e w1 ⟨rfl, hb⟩
  have hsz : w.heap.size + 1 ≤ w1.heap.size := by have := hb.size; simp at this; omega
  have hs1_0 : w.heap.size < w1.heap.size := by omega
  have c1_0_0 : w1.cell? ⟨w.heap.size, 0, none⟩ = some (.int .i64 a) := by rw [hb.cell (by simp <;> omega)]; first | (simp [go_sem]; done)
  have c1_0_1 : w1.cell? ⟨w.heap.size, 1, none⟩ = some (.int .i64 b) := by rw [hb.cell (by simp <;> omega)]; first | (simp [go_sem]; done)
  have c1_0_2 : w1.cell? ⟨w.heap.size, 2, none⟩ = some (.int .i64 c) := by rw [hb.cell (by simp <;> omega)]; first | (simp [go_sem]; done)
  have HB1 := Lib.hid (Below.trans ((ba_c (Below.refl w.heap.size w) (Nat.le_refl _) _)) (hb.mono (Below.size ((ba_c (Below.refl w.heap.size w) (Nat.le_refl _) _)))))
  clear hb hsz
  go_wp2_with fail
  refine (counted14 _).mono ?_
  rintro e w2 ⟨rfl, hb⟩
  have hsz : w1.heap.size ≤ w2.heap.size := hb.size
  have hs2_0 : w.heap.size < w2.heap.size := by omega
  have c2_0_0 : w2.cell? ⟨w.heap.size, 0, none⟩ = some (.int .i64 a) := by rw [hb.cell (by simp <;> omega)]; first | exact c1_0_0 | (rw [World.cell?_alloc_lt _ _ _ hs1_0]; exact c1_0_0) | (simp [go_sem]; done)
  have c2_0_1 : w2.cell? ⟨w.heap.size, 1, none⟩ = some (.int .i64 b) := by rw [hb.cell (by simp <;> omega)]; first | exact c1_0_1 | (rw [World.cell?_alloc_lt _ _ _ hs1_0]; exact c1_0_1) | (simp [go_sem]; done)
  have c2_0_2 : w2.cell? ⟨w.heap.size, 2, none⟩ = some (.int .i64 c) := by rw [hb.cell (by simp <;> omega)]; first | exact c1_0_2 | (rw [World.cell?_alloc_lt _ _ _ hs1_0]; exact c1_0_2) | (simp [go_sem]; done)
  have HB2 := Lib.hid (Below.trans (HB1.out) (hb.mono (Below.size (HB1.out))))
  clear hb hsz c1_0_0 c1_0_1 c1_0_2 hs1_0
  go_wp2_with fail
  refine (isPrime15_no _ Hhp.out _).mono ?_
  rintro e w3 ⟨rfl, hb⟩
  have hsz : w2.heap.size ≤ w3.heap.size := hb.size
  have hs3_0 : w.heap.size < w3.heap.size := by omega
  have c3_0_0 : w3.cell? ⟨w.heap.size, 0, none⟩ = some (.int .i64 a) := by rw [hb.cell (by simp <;> omega)]; first | exact c2_0_0 | (rw [World.cell?_alloc_lt _ _ _ hs2_0]; exact c2_0_0) | (simp [go_sem]; done)
  have c3_0_1 : w3.cell? ⟨w.heap.size, 1, none⟩ = some (.int .i64 b) := by rw [hb.cell (by simp <;> omega)]; first | exact c2_0_1 | (rw [World.cell?_alloc_lt _ _ _ hs2_0]; exact c2_0_1) | (simp [go_sem]; done)
  have c3_0_2 : w3.cell? ⟨w.heap.size, 2, none⟩ = some (.int .i64 c) := by rw [hb.cell (by simp <;> omega)]; first | exact c2_0_2 | (rw [World.cell?_alloc_lt _ _ _ hs2_0]; exact c2_0_2) | (simp [go_sem]; done)
  have HB3 := Lib.hid (Below.trans (HB2.out) (hb.mono (Below.size (HB2.out))))
  clear hb hsz c2_0_0 c2_0_1 c2_0_2 hs2_0
  go_wp2_with fail
  refine (counted14 _).mono ?_
  rintro e w4 ⟨rfl, hb⟩
  have hsz : w3.heap.size ≤ w4.heap.size := hb.size
  have hs4_0 : w.heap.size < w4.heap.size := by omega
  have c4_0_0 : w4.cell? ⟨w.heap.size, 0, none⟩ = some (.int .i64 a) := by rw [hb.cell (by simp <;> omega)]; first | exact c3_0_0 | (rw [World.cell?_alloc_lt _ _ _ hs3_0]; exact c3_0_0) | (simp [go_sem]; done)
  have c4_0_1 : w4.cell? ⟨w.heap.size, 1, none⟩ = some (.int .i64 b) := by rw [hb.cell (by simp <;> omega)]; first | exact c3_0_1 | (rw [World.cell?_alloc_lt _ _ _ hs3_0]; exact c3_0_1) | (simp [go_sem]; done)
  have c4_0_2 : w4.cell? ⟨w.heap.size, 2, none⟩ = some (.int .i64 c) := by rw [hb.cell (by simp <;> omega)]; first | exact c3_0_2 | (rw [World.cell?_alloc_lt _ _ _ hs3_0]; exact c3_0_2) | (simp [go_sem]; done)
  have HB4 := Lib.hid (Below.trans (HB3.out) (hb.mono (Below.size (HB3.out))))
  clear hb hsz c3_0_0 c3_0_1 c3_0_2 hs3_0
  go_wp2
  go_ret
  exact ⟨rfl, HB4.out⟩

set_option maxRecDepth 100000 in
set_option maxHeartbeats 4000000 in
theorem FiniteAll6_flat (P n : Nat) (a b c u0 u1 u2 : Int) (hp : isP P = true) (hn : (allK P (P * P * P)).length = n) (hn1 : 1 ≤ n) (hn2 : n ≤ 2197) (hnp : ((n : Int) != (P : Int) * P + P + 1) = false)
    (hu : pl P a b c = (u0, u1, u2)) (hz : zz P a b c = true) (w : World) :
    Calls Try.prog 6 #[.int .i64 P, .agg #[.int .i64 a, .int .i64 b, .int .i64 c]] w fun e w' => e = .returned (.bool true) ∧ Below w.heap.size w w' := by
  obtain ⟨h, h'⟩ := isP_bd hp
  have hPP : P * P ≤ 13 * 13 := Nat.mul_le_mul (by omega) (by omega)
  have q1 : (P : Int) * (P : Int) ≤ 169 := by have t : ((P * P : Nat) : Int) ≤ 169 := (by omega); rwa [Int.natCast_mul] at t
  have q3 : 4 ≤ (P : Int) * (P : Int) := Int.mul_le_mul (a := 2) (b := 2) (by omega) (by omega) (by omega) (by omega)
  have Hhp := Lib.hid hp
  have Hhn := Lib.hid hn
  have Hhu := Lib.hid hu
  have Hhz := Lib.hid hz
  clear hp hn hu hz
  go_enter Try.func6, Try.ntmps6
  go_wp2_with fail
  refine (All23 P Hhp.out _).mono ?_
  rintro e w1 ⟨v, rfl, hgat⟩
  have hb := hgat.2
  have hsz : w.heap.size + 1 ≤ w1.heap.size := by have := hb.size; simp at this; omega
  have hs1_0 : w.heap.size < w1.heap.size := by omega
  have c1_0_0 : w1.cell? ⟨w.heap.size, 0, none⟩ = some (.int .i64 a) := by rw [hb.cell (by simp <;> omega)]; first | (simp [go_sem]; done)
  have c1_0_1 : w1.cell? ⟨w.heap.size, 1, none⟩ = some (.int .i64 b) := by rw [hb.cell (by simp <;> omega)]; first | (simp [go_sem]; done)
  have c1_0_2 : w1.cell? ⟨w.heap.size, 2, none⟩ = some (.int .i64 c) := by rw [hb.cell (by simp <;> omega)]; first | (simp [go_sem]; done)
  have HB1 := Lib.hid (Below.trans ((ba_c (Below.refl w.heap.size w) (Nat.le_refl _) _)) (hb.mono (Below.size ((ba_c (Below.refl w.heap.size w) (Nat.le_refl _) _)))))
  clear hb hsz
  obtain ⟨g, cap, rfl, hgb, hgs1_0, hcap, hrows⟩ := hgat.rows Hhn.out (by omega)
  have HR1_0 := Lib.hid hrows
  clear hrows hgat
  go_wp2_with fail
  refine (counted14 _).mono ?_
  rintro e w2 ⟨rfl, hb⟩
  have hsz : w1.heap.size ≤ w2.heap.size := hb.size
  have hs2_0 : w.heap.size < w2.heap.size := by omega
  have c2_0_0 : w2.cell? ⟨w.heap.size, 0, none⟩ = some (.int .i64 a) := by rw [hb.cell (by simp <;> omega)]; first | exact c1_0_0 | (rw [World.cell?_alloc_lt _ _ _ hs1_0]; exact c1_0_0) | (simp [go_sem]; done)
  have c2_0_1 : w2.cell? ⟨w.heap.size, 1, none⟩ = some (.int .i64 b) := by rw [hb.cell (by simp <;> omega)]; first | exact c1_0_1 | (rw [World.cell?_alloc_lt _ _ _ hs1_0]; exact c1_0_1) | (simp [go_sem]; done)
  have c2_0_2 : w2.cell? ⟨w.heap.size, 2, none⟩ = some (.int .i64 c) := by rw [hb.cell (by simp <;> omega)]; first | exact c1_0_2 | (rw [World.cell?_alloc_lt _ _ _ hs1_0]; exact c1_0_2) | (simp [go_sem]; done)
  have hst : Below w1.heap.size w1 w2 := Below.trans (Below.refl w1.heap.size w1) (hb.mono (Below.size (Below.refl w1.heap.size w1)))
  have HR2_0 := Lib.hid (RowsAt.below HR1_0.out hst hgs1_0)
  have hgs2_0 : g < w2.heap.size := Nat.lt_of_lt_of_le hgs1_0 hst.size
  have HB2 := Lib.hid (Below.trans (HB1.out) (hb.mono (Below.size (HB1.out))))
  clear hb hsz c1_0_0 c1_0_1 c1_0_2 hs1_0 HR1_0 hgs1_0 hst
  go_wp2_with fail
  refine (isPrime15_yes _ Hhp.out _).mono ?_
  rintro e w3 ⟨rfl, hb⟩
  have hsz : w2.heap.size ≤ w3.heap.size := hb.size
  have hs3_0 : w.heap.size < w3.heap.size := by omega
  have c3_0_0 : w3.cell? ⟨w.heap.size, 0, none⟩ = some (.int .i64 a) := by rw [hb.cell (by simp <;> omega)]; first | exact c2_0_0 | (rw [World.cell?_alloc_lt _ _ _ hs2_0]; exact c2_0_0) | (simp [go_sem]; done)
  have c3_0_1 : w3.cell? ⟨w.heap.size, 1, none⟩ = some (.int .i64 b) := by rw [hb.cell (by simp <;> omega)]; first | exact c2_0_1 | (rw [World.cell?_alloc_lt _ _ _ hs2_0]; exact c2_0_1) | (simp [go_sem]; done)
  have c3_0_2 : w3.cell? ⟨w.heap.size, 2, none⟩ = some (.int .i64 c) := by rw [hb.cell (by simp <;> omega)]; first | exact c2_0_2 | (rw [World.cell?_alloc_lt _ _ _ hs2_0]; exact c2_0_2) | (simp [go_sem]; done)
  have hst : Below w2.heap.size w2 w3 := Below.trans (Below.refl w2.heap.size w2) (hb.mono (Below.size (Below.refl w2.heap.size w2)))
  have HR3_0 := Lib.hid (RowsAt.below HR2_0.out hst hgs2_0)
  have hgs3_0 : g < w3.heap.size := Nat.lt_of_lt_of_le hgs2_0 hst.size
  have HB3 := Lib.hid (Below.trans (HB2.out) (hb.mono (Below.size (HB2.out))))
  clear hb hsz c2_0_0 c2_0_1 c2_0_2 hs2_0 HR2_0 hgs2_0 hst
  go_wp2_with fail
  refine (allF25 P Hhp.out _).mono ?_
  rintro e w4 ⟨v2, rfl, hgat2⟩
  have hb := hgat2.2
  have hsz : w3.heap.size ≤ w4.heap.size := hb.size
  have hs4_0 : w.heap.size < w4.heap.size := by omega
  have c4_0_0 : w4.cell? ⟨w.heap.size, 0, none⟩ = some (.int .i64 a) := by rw [hb.cell (by simp <;> omega)]; first | exact c3_0_0 | (rw [World.cell?_alloc_lt _ _ _ hs3_0]; exact c3_0_0) | (simp [go_sem]; done)
  have c4_0_1 : w4.cell? ⟨w.heap.size, 1, none⟩ = some (.int .i64 b) := by rw [hb.cell (by simp <;> omega)]; first | exact c3_0_1 | (rw [World.cell?_alloc_lt _ _ _ hs3_0]; exact c3_0_1) | (simp [go_sem]; done)
  have c4_0_2 : w4.cell? ⟨w.heap.size, 2, none⟩ = some (.int .i64 c) := by rw [hb.cell (by simp <;> omega)]; first | exact c3_0_2 | (rw [World.cell?_alloc_lt _ _ _ hs3_0]; exact c3_0_2) | (simp [go_sem]; done)
  have hst : Below w3.heap.size w3 w4 := Below.trans (Below.refl w3.heap.size w3) (hb.mono (Below.size (Below.refl w3.heap.size w3)))
  have HR4_0 := Lib.hid (RowsAt.below HR3_0.out hst hgs3_0)
  have hgs4_0 : g < w4.heap.size := Nat.lt_of_lt_of_le hgs3_0 hst.size
  have HB4 := Lib.hid (Below.trans (HB3.out) (hb.mono (Below.size (HB3.out))))
  clear hb hsz c3_0_0 c3_0_1 c3_0_2 hs3_0 HR3_0 hgs3_0 hst
  obtain ⟨g2, cap2, rfl, hgb2, hgs4_1, hcap2, hrows2⟩ := hgat2.rows Hhn.out (by omega)
  have HR4_1 := Lib.hid hrows2
  clear hrows2 hgat2
  go_wp2_with fail
  refine (Equal24_same _ _ _ _ n (fun i => (allK P (P * P * P)).getD i (0, 0, 0)) (by omega) _ HR4_0.out HR4_1.out).mono ?_
  rintro e w5 ⟨rfl, nd, hw5⟩
  have hb : Below w4.heap.size w4 w5 := by rw [hw5]; exact dr_o (Below.refl _ _) _
  clear hw5
  have hsz : w4.heap.size ≤ w5.heap.size := hb.size
  have hs5_0 : w.heap.size < w5.heap.size := by omega
  have c5_0_0 : w5.cell? ⟨w.heap.size, 0, none⟩ = some (.int .i64 a) := by rw [hb.cell (by simp <;> omega)]; first | exact c4_0_0 | (rw [World.cell?_alloc_lt _ _ _ hs4_0]; exact c4_0_0) | (simp [go_sem]; done)
  have c5_0_1 : w5.cell? ⟨w.heap.size, 1, none⟩ = some (.int .i64 b) := by rw [hb.cell (by simp <;> omega)]; first | exact c4_0_1 | (rw [World.cell?_alloc_lt _ _ _ hs4_0]; exact c4_0_1) | (simp [go_sem]; done)
  have c5_0_2 : w5.cell? ⟨w.heap.size, 2, none⟩ = some (.int .i64 c) := by rw [hb.cell (by simp <;> omega)]; first | exact c4_0_2 | (rw [World.cell?_alloc_lt _ _ _ hs4_0]; exact c4_0_2) | (simp [go_sem]; done)
  have hst : Below w4.heap.size w4 w5 := Below.trans (Below.refl w4.heap.size w4) (hb.mono (Below.size (Below.refl w4.heap.size w4)))
  have HR5_0 := Lib.hid (RowsAt.below HR4_0.out hst hgs4_0)
  have hgs5_0 : g < w5.heap.size := Nat.lt_of_lt_of_le hgs4_0 hst.size
  have HR5_1 := Lib.hid (RowsAt.below HR4_1.out hst hgs4_1)
  have hgs5_1 : g2 < w5.heap.size := Nat.lt_of_lt_of_le hgs4_1 hst.size
  have HB5 := Lib.hid (Below.trans (HB4.out) (hb.mono (Below.size (HB4.out))))
  clear hb hsz c4_0_0 c4_0_1 c4_0_2 hs4_0 HR4_0 hgs4_0 HR4_1 hgs4_1 hst
  go_wp2_with fail
  refine (plainF21e _ _ _ _ _ _ _ true Hhu.out Hhz.out Hhp.out _).mono ?_
  rintro e w6 ⟨rfl, hb⟩
  have hsz : w5.heap.size ≤ w6.heap.size := hb.size
  have hs6_0 : w.heap.size < w6.heap.size := by omega
  have c6_0_0 : w6.cell? ⟨w.heap.size, 0, none⟩ = some (.int .i64 a) := by rw [hb.cell (by simp <;> omega)]; first | exact c5_0_0 | (rw [World.cell?_alloc_lt _ _ _ hs5_0]; exact c5_0_0) | (simp [go_sem]; done)
  have c6_0_1 : w6.cell? ⟨w.heap.size, 1, none⟩ = some (.int .i64 b) := by rw [hb.cell (by simp <;> omega)]; first | exact c5_0_1 | (rw [World.cell?_alloc_lt _ _ _ hs5_0]; exact c5_0_1) | (simp [go_sem]; done)
  have c6_0_2 : w6.cell? ⟨w.heap.size, 2, none⟩ = some (.int .i64 c) := by rw [hb.cell (by simp <;> omega)]; first | exact c5_0_2 | (rw [World.cell?_alloc_lt _ _ _ hs5_0]; exact c5_0_2) | (simp [go_sem]; done)
  have hst : Below w5.heap.size w5 w6 := Below.trans (Below.refl w5.heap.size w5) (hb.mono (Below.size (Below.refl w5.heap.size w5)))
  have HR6_0 := Lib.hid (RowsAt.below HR5_0.out hst hgs5_0)
  have hgs6_0 : g < w6.heap.size := Nat.lt_of_lt_of_le hgs5_0 hst.size
  have HR6_1 := Lib.hid (RowsAt.below HR5_1.out hst hgs5_1)
  have hgs6_1 : g2 < w6.heap.size := Nat.lt_of_lt_of_le hgs5_1 hst.size
  have HB6 := Lib.hid (Below.trans (HB5.out) (hb.mono (Below.size (HB5.out))))
  clear hb hsz c5_0_0 c5_0_1 c5_0_2 hs5_0 HR5_0 hgs5_0 HR5_1 hgs5_1 hst
  go_wp2
  go_ret
  exact ⟨rfl, (ba_c (HB6.out) (Nat.le_refl _) _)⟩

end Go.Proofs.Ytfdbkocpljiehaa
