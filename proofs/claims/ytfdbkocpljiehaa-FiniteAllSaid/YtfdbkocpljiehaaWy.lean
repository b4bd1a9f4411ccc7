/- Walks: the law FiniteAll, the points on a line. -/
import Derived.Test.YtfdbkocpljiehaaWx
set_option linter.unusedSimpArgs false
set_option linter.unusedVariables false
namespace Go.Proofs.Ytfdbkocpljiehaa
open Go.RowKit

set_option maxRecDepth 100000 in
set_option maxHeartbeats 4000000 in
theorem FiniteAll6_ok (P n : Nat) (a b c u0 u1 u2 : Int) (hp : isP P = true) (hn : (allK P (P * P * P)).length = n) (hn1 : 1 ≤ n) (hn2 : n ≤ 2197) (hnp : ((n : Int) != (P : Int) * P + P + 1) = false)
    (hu : pl P a b c = (u0, u1, u2)) (hz : zz P a b c = false)
    (hpl : ∀ i, i < n → pl P ((allK P (P * P * P)).getD i (0, 0, 0)).1 ((allK P (P * P * P)).getD i (0, 0, 0)).2.1 ((allK P (P * P * P)).getD i (0, 0, 0)).2.2 = (((allK P (P * P * P)).getD i (0, 0, 0)).1, ((allK P (P * P * P)).getD i (0, 0, 0)).2.1, ((allK P (P * P * P)).getD i (0, 0, 0)).2.2) ∧
      zz P ((allK P (P * P * P)).getD i (0, 0, 0)).1 ((allK P (P * P * P)).getD i (0, 0, 0)).2.1 ((allK P (P * P * P)).getD i (0, 0, 0)).2.2 = false)
    (cnt : Nat → Nat) (hc0 : cnt 0 = 0) (hcle : ∀ i, cnt i ≤ i) (hcs : ∀ i, i < n → cnt (i + 1) = cnt i + if ((((allK P (P * P * P)).getD i (0, 0, 0)).1 * u0 + ((allK P (P * P * P)).getD i (0, 0, 0)).2.1 * u1 + ((allK P (P * P * P)).getD i (0, 0, 0)).2.2 * u2) % P == 0) = true then 1 else 0)
    (hcn : cnt n = P + 1) (w : World) :
    Calls Try.prog 6 #[.int .i64 P, .agg #[.int .i64 a, .int .i64 b, .int .i64 c]] w fun e w' => e = .returned (.bool true) ∧ Below w.heap.size w w' := by
  obtain ⟨h, h'⟩ := isP_bd hp
  have hPP : P * P ≤ 13 * 13 := Nat.mul_le_mul (by omega) (by omega)
  have q1 : (P : Int) * (P : Int) ≤ 169 := by have t : ((P * P : Nat) : Int) ≤ 169 := (by omega); rwa [Int.natCast_mul] at t
  have q3 : 4 ≤ (P : Int) * (P : Int) := Int.mul_le_mul (a := 2) (b := 2) (by omega) (by omega) (by omega) (by omega)
  have Hhp := Lib.hid hp
  have Hhn := Lib.hid hn
  have Hhu := Lib.hid hu
  have Hhz := Lib.hid hz
  have Hpl := Lib.hid hpl
  have Hcs := Lib.hid hcs
  have Hc0 := Lib.hid hc0
  have Hcle := Lib.hid hcle
  have Hcn := Lib.hid hcn
  clear hpl hcs hc0 hcle hcn
  clear hp hn hu hz
  go_enter Try.func6, Try.ntmps6
  go_wp2_with fail
  refine (All23 P Hhp.out _).mono ?_
  rintro e w1 ⟨v, rfl, hgat⟩
  have hb := hgat.2
  have hsz : w.heap.size + 1 ≤ w1.heap.size := by have := hb.size; simp at this; omega
  have hs1_0 : w.heap.size < w1.heap.size := by omega
  have c1_0_0 : w1.cell? ⟨w.heap.size, 0, none⟩ = some (.int .i64 a) := by rw [hb.cell (by simp <;> omega)]; first | (simp [go_sem]; done)
  have c1_0_1 : w1.cell? ⟨w.heap.size, 1, none⟩ = some (.int .i64 b) := by rw [hb.cell (by simp <;> omega)]; first | (simp [go_sem]; done)
  have c1_0_2 : w1.cell? ⟨w.heap.size, 2, none⟩ = some (.int .i64 c) := by rw [hb.cell (by simp <;> omega)]; first | (simp [go_sem]; done)
  have HB1 := Lib.hid (Below.trans ((ba_c (Below.refl w.heap.size w) (Nat.le_refl _) _)) (hb.mono (Below.size ((ba_c (Below.refl w.heap.size w) (Nat.le_refl _) _)))))
  clear hb hsz
  obtain ⟨g, cap, rfl, hgb, hgs1_0, hcap, hrows⟩ := hgat.rows Hhn.out (by omega)
  have HR1_0 := Lib.hid hrows
  clear hrows hgat
  go_wp2_with fail
  refine (counted14 _).mono ?_
  rintro e w2 ⟨rfl, hb⟩
  have hsz : w1.heap.size ≤ w2.heap.size := hb.size
  have hs2_0 : w.heap.size < w2.heap.size := by omega
  have c2_0_0 : w2.cell? ⟨w.heap.size, 0, none⟩ = some (.int .i64 a) := by rw [hb.cell (by simp <;> omega)]; first | exact c1_0_0 | (rw [World.cell?_alloc_lt _ _ _ hs1_0]; exact c1_0_0) | (simp [go_sem]; done)
  have c2_0_1 : w2.cell? ⟨w.heap.size, 1, none⟩ = some (.int .i64 b) := by rw [hb.cell (by simp <;> omega)]; first | exact c1_0_1 | (rw [World.cell?_alloc_lt _ _ _ hs1_0]; exact c1_0_1) | (simp [go_sem]; done)
  have c2_0_2 : w2.cell? ⟨w.heap.size, 2, none⟩ = some (.int .i64 c) := by rw [hb.cell (by simp <;> omega)]; first | exact c1_0_2 | (rw [World.cell?_alloc_lt _ _ _ hs1_0]; exact c1_0_2) | (simp [go_sem]; done)
  have hst : Below w1.heap.size w1 w2 := Below.trans (Below.refl w1.heap.size w1) (hb.mono (Below.size (Below.refl w1.heap.size w1)))
  have HR2_0 := Lib.hid (RowsAt.below HR1_0.out hst hgs1_0)
  have hgs2_0 : g < w2.heap.size := Nat.lt_of_lt_of_le hgs1_0 hst.size
  have HB2 := Lib.hid (Below.trans (HB1.out) (hb.mono (Below.size (HB1.out))))
  clear hb hsz c1_0_0 c1_0_1 c1_0_2 hs1_0 HR1_0 hgs1_0 hst
  go_wp2_with fail
  refine (isPrime15_yes _ Hhp.out _).mono ?_
  rintro e w3 ⟨rfl, hb⟩
  have hsz : w2.heap.size ≤ w3.heap.size := hb.size
  have hs3_0 : w.heap.size < w3.heap.size := by omega
  have c3_0_0 : w3.cell? ⟨w.heap.size, 0, none⟩ = some (.int .i64 a) := by rw [hb.cell (by simp <;> omega)]; first | exact c2_0_0 | (rw [World.cell?_alloc_lt _ _ _ hs2_0]; exact c2_0_0) | (simp [go_sem]; done)
  have c3_0_1 : w3.cell? ⟨w.heap.size, 1, none⟩ = some (.int .i64 b) := by rw [hb.cell (by simp <;> omega)]; first | exact c2_0_1 | (rw [World.cell?_alloc_lt _ _ _ hs2_0]; exact c2_0_1) | (simp [go_sem]; done)
  have c3_0_2 : w3.cell? ⟨w.heap.size, 2, none⟩ = some (.int .i64 c) := by rw [hb.cell (by simp <;> omega)]; first | exact c2_0_2 | (rw [World.cell?_alloc_lt _ _ _ hs2_0]; exact c2_0_2) | (simp [go_sem]; done)
  have hst : Below w2.heap.size w2 w3 := Below.trans (Below.refl w2.heap.size w2) (hb.mono (Below.size (Below.refl w2.heap.size w2)))
  have HR3_0 := Lib.hid (RowsAt.below HR2_0.out hst hgs2_0)
  have hgs3_0 : g < w3.heap.size := Nat.lt_of_lt_of_le hgs2_0 hst.size
  have HB3 := Lib.hid (Below.trans (HB2.out) (hb.mono (Below.size (HB2.out))))
  clear hb hsz c2_0_0 c2_0_1 c2_0_2 hs2_0 HR2_0 hgs2_0 hst
  go_wp2_with fail
  refine (allF25 P Hhp.out _).mono ?_
  rintro e w4 ⟨v2, rfl, hgat2⟩
  have hb := hgat2.2
  have hsz : w3.heap.size ≤ w4.heap.size := hb.size
  have hs4_0 : w.heap.size < w4.heap.size := by omega
  have c4_0_0 : w4.cell? ⟨w.heap.size, 0, none⟩ = some (.int .i64 a) := by rw [hb.cell (by simp <;> omega)]; first | exact c3_0_0 | (rw [World.cell?_alloc_lt _ _ _ hs3_0]; exact c3_0_0) | (simp [go_sem]; done)
  have c4_0_1 : w4.cell? ⟨w.heap.size, 1, none⟩ = some (.int .i64 b) := by rw [hb.cell (by simp <;> omega)]; first | exact c3_0_1 | (rw [World.cell?_alloc_lt _ _ _ hs3_0]; exact c3_0_1) | (simp [go_sem]; done)
  have c4_0_2 : w4.cell? ⟨w.heap.size, 2, none⟩ = some (.int .i64 c) := by rw [hb.cell (by simp <;> omega)]; first | exact c3_0_2 | (rw [World.cell?_alloc_lt _ _ _ hs3_0]; exact c3_0_2) | (simp [go_sem]; done)
  have hst : Below w3.heap.size w3 w4 := Below.trans (Below.refl w3.heap.size w3) (hb.mono (Below.size (Below.refl w3.heap.size w3)))
  have HR4_0 := Lib.hid (RowsAt.below HR3_0.out hst hgs3_0)
  have hgs4_0 : g < w4.heap.size := Nat.lt_of_lt_of_le hgs3_0 hst.size
  have HB4 := Lib.hid (Below.trans (HB3.out) (hb.mono (Below.size (HB3.out))))
  clear hb hsz c3_0_0 c3_0_1 c3_0_2 hs3_0 HR3_0 hgs3_0 hst
  obtain ⟨g2, cap2, rfl, hgb2, hgs4_1, hcap2, hrows2⟩ := hgat2.rows Hhn.out (by omega)
  have HR4_1 := Lib.hid hrows2
  clear hrows2 hgat2
  go_wp2_with fail
  refine (Equal24_same _ _ _ _ n (fun i => (allK P (P * P * P)).getD i (0, 0, 0)) (by omega) _ HR4_0.out HR4_1.out).mono ?_
  rintro e w5 ⟨rfl, nd, hw5⟩
  have hb : Below w4.heap.size w4 w5 := by rw [hw5]; exact dr_o (Below.refl _ _) _
  clear hw5
  have hsz : w4.heap.size ≤ w5.heap.size := hb.size
  have hs5_0 : w.heap.size < w5.heap.size := by omega
  have c5_0_0 : w5.cell? ⟨w.heap.size, 0, none⟩ = some (.int .i64 a) := by rw [hb.cell (by simp <;> omega)]; first | exact c4_0_0 | (rw [World.cell?_alloc_lt _ _ _ hs4_0]; exact c4_0_0) | (simp [go_sem]; done)
  have c5_0_1 : w5.cell? ⟨w.heap.size, 1, none⟩ = some (.int .i64 b) := by rw [hb.cell (by simp <;> omega)]; first | exact c4_0_1 | (rw [World.cell?_alloc_lt _ _ _ hs4_0]; exact c4_0_1) | (simp [go_sem]; done)
  have c5_0_2 : w5.cell? ⟨w.heap.size, 2, none⟩ = some (.int .i64 c) := by rw [hb.cell (by simp <;> omega)]; first | exact c4_0_2 | (rw [World.cell?_alloc_lt _ _ _ hs4_0]; exact c4_0_2) | (simp [go_sem]; done)
  have hst : Below w4.heap.size w4 w5 := Below.trans (Below.refl w4.heap.size w4) (hb.mono (Below.size (Below.refl w4.heap.size w4)))
  have HR5_0 := Lib.hid (RowsAt.below HR4_0.out hst hgs4_0)
  have hgs5_0 : g < w5.heap.size := Nat.lt_of_lt_of_le hgs4_0 hst.size
  have HR5_1 := Lib.hid (RowsAt.below HR4_1.out hst hgs4_1)
  have hgs5_1 : g2 < w5.heap.size := Nat.lt_of_lt_of_le hgs4_1 hst.size
  have HB5 := Lib.hid (Below.trans (HB4.out) (hb.mono (Below.size (HB4.out))))
  clear hb hsz c4_0_0 c4_0_1 c4_0_2 hs4_0 HR4_0 hgs4_0 HR4_1 hgs4_1 hst
  go_wp2_with fail
  refine (plainF21e _ _ _ _ _ _ _ false Hhu.out Hhz.out Hhp.out _).mono ?_
  rintro e w6 ⟨rfl, hb⟩
  have hsz : w5.heap.size ≤ w6.heap.size := hb.size
  have hs6_0 : w.heap.size < w6.heap.size := by omega
  have c6_0_0 : w6.cell? ⟨w.heap.size, 0, none⟩ = some (.int .i64 a) := by rw [hb.cell (by simp <;> omega)]; first | exact c5_0_0 | (rw [World.cell?_alloc_lt _ _ _ hs5_0]; exact c5_0_0) | (simp [go_sem]; done)
  have c6_0_1 : w6.cell? ⟨w.heap.size, 1, none⟩ = some (.int .i64 b) := by rw [hb.cell (by simp <;> omega)]; first | exact c5_0_1 | (rw [World.cell?_alloc_lt _ _ _ hs5_0]; exact c5_0_1) | (simp [go_sem]; done)
  have c6_0_2 : w6.cell? ⟨w.heap.size, 2, none⟩ = some (.int .i64 c) := by rw [hb.cell (by simp <;> omega)]; first | exact c5_0_2 | (rw [World.cell?_alloc_lt _ _ _ hs5_0]; exact c5_0_2) | (simp [go_sem]; done)
  have hst : Below w5.heap.size w5 w6 := Below.trans (Below.refl w5.heap.size w5) (hb.mono (Below.size (Below.refl w5.heap.size w5)))
  have HR6_0 := Lib.hid (RowsAt.below HR5_0.out hst hgs5_0)
  have hgs6_0 : g < w6.heap.size := Nat.lt_of_lt_of_le hgs5_0 hst.size
  have HR6_1 := Lib.hid (RowsAt.below HR5_1.out hst hgs5_1)
  have hgs6_1 : g2 < w6.heap.size := Nat.lt_of_lt_of_le hgs5_1 hst.size
  have HB6 := Lib.hid (Below.trans (HB5.out) (hb.mono (Below.size (HB5.out))))
  clear hb hsz c5_0_0 c5_0_1 c5_0_2 hs5_0 HR5_0 hgs5_0 HR5_1 hgs5_1 hst
  go_wp2_with fail
  go_loopw [9, 66] (fun s i wr => ∃ k : Nat, k ≤ n ∧ i = .int .i64 k ∧ s = .int .i64 (cnt k) ∧ RowsAt wr g n (fun i => (allK P (P * P * P)).getD i (0, 0, 0)) ∧ Below w.heap.size w wr ∧ g < wr.heap.size ∧ w.heap.size < wr.heap.size ∧
     wr.cell? ⟨w.heap.size, 0, none⟩ = some (.int .i64 a) ∧ wr.cell? ⟨w.heap.size, 1, none⟩ = some (.int .i64 b) ∧ wr.cell? ⟨w.heap.size, 2, none⟩ = some (.int .i64 c)) (fun _ i _ => n - (intOf i).toNat)
  case atStart =>
    refine ⟨0, by omega, rfl, by rw [Hc0.out]; rfl, RowsAt.below HR6_0.out (ba_c (Below.refl _ _) (Nat.le_refl _) _) hgs6_0, (ba_c (HB6.out) (Nat.le_refl _) _), by simp; omega, by simp; omega, ?_, ?_, ?_⟩
    · rw [World.cell?_alloc_lt _ _ _ hs6_0]; exact c6_0_0
    · rw [World.cell?_alloc_lt _ _ _ hs6_0]; exact c6_0_1
    · rw [World.cell?_alloc_lt _ _ _ hs6_0]; exact c6_0_2
  case round =>
    obtain ⟨k, hk, rfl, rfl, hrow, hbel, hgr, hwr, b0, b1, b2⟩ := hrel
    obtain ⟨wk, rfl⟩ : ∃ wo : World, wo = wr := ⟨_, rfl⟩
    have HROW := Lib.hid hrow
    have HBEL := Lib.hid hbel
    clear hrow hbel
    clear HR6_0 HB6 hs6_0 c6_0_0 c6_0_1 c6_0_2
    have hcl := Hcle.out k
    by_cases hlt : k < n
    · obtain ⟨r0, r1, r2⟩ := HROW.out k hlt
      dsimp only at r0 r1 r2
      obtain ⟨hplk, hzk⟩ := Hpl.out k hlt
      have hcsk := Hcs.out k hlt
      generalize hx : (allK P (P * P * P)).getD k (0, 0, 0) = X at *
      obtain ⟨x0, x1, x2⟩ := X
      dsimp only at r0 r1 r2 hplk hzk hcsk
      have HPLK := Lib.hid hplk
      have HZK := Lib.hid hzk
      have HCSK := Lib.hid hcsk
      clear hx hplk hzk hcsk
      have l1 : (0 : Int) ≤ (k : Int) := by omega
      have l2 : (k : Int) < (n : Int) := by omega
      have ek : k * 3 = 3 * k := by omega
      cases hq : ((x0 * u0 + x1 * u1 + x2 * u2) % (P : Int) == 0)
      all_goals
        have HQ := Lib.hid hq
        clear hq
        go_wp2_with fail
        refine (On20_okq _ _ _ _ _ _ _ _ _ _ _ _ _ _ Hhp.out HPLK.out HZK.out Hhu.out Hhz.out HQ.out _).mono ?_
        rintro e wq ⟨rfl, hb⟩
        have hsq : wk.heap.size < wq.heap.size := by have := hb.size; simp at this; omega
        have hst : Below wk.heap.size wk wq := Below.trans (ba_c (Below.refl _ _) (Nat.le_refl _) _) (hb.mono (by simp))
        have d0 : wq.cell? ⟨w.heap.size, 0, none⟩ = some (.int .i64 a) := by rw [hst.cell hwr]; exact b0
        have d1 : wq.cell? ⟨w.heap.size, 1, none⟩ = some (.int .i64 b) := by rw [hst.cell hwr]; exact b1
        have d2 : wq.cell? ⟨w.heap.size, 2, none⟩ = some (.int .i64 c) := by rw [hst.cell hwr]; exact b2
        have HST := Lib.hid hst
        clear hb hst b0 b1 b2 r0 r1 r2
        go_wp2
        refine ⟨⟨k + 1, by omega, by go_num, ?_, RowsAt.below HROW.out HST.out hgr, HBEL.out.trans (HST.out.mono (by omega)), by omega, by omega, d0, d1, d2⟩, by simp [intOf]; omega⟩
        rw [HCSK.out, HQ.out]
        simp
    · have hkn : k = n := by omega
      subst hkn
      rw [Hcn.out]
      go_wp2
      go_ret
      exact ⟨by simp, HBEL.out⟩

end Go.Proofs.Ytfdbkocpljiehaa
