/- Walks: finite.Conic. -/
import Derived.Test.YtfdbkocpljiehaaXa
set_option linter.unusedSimpArgs false
set_option linter.unusedVariables false
namespace Go.Proofs.Ytfdbkocpljiehaa
open Go.RowKit

/-- the value of a conic at a point -/
def qf (K0 K1 K2 K3 K4 K5 : Int) (h : Int × Int × Int) : Int :=
  K0 * h.1 * h.1 + K1 * h.2.1 * h.2.1 + K2 * h.2.2 * h.2.2 + K3 * h.2.1 * h.2.2 + K4 * h.2.2 * h.1 + K5 * h.1 * h.2.1
/-- the points of a conic among the first i of the plane -/
def selK (P : Nat) (K0 K1 K2 K3 K4 K5 : Int) (i : Nat) : List (Int × Int × Int) := ((allK P (P * P * P)).take i).filter fun h => qf K0 K1 K2 K3 K4 K5 h % (P : Int) == 0
theorem selK_succ (P n : Nat) (K0 K1 K2 K3 K4 K5 : Int) (hn : (allK P (P * P * P)).length = n) (i : Nat) (hi : i < n) (x : Int × Int × Int) (hx : (allK P (P * P * P)).getD i (0, 0, 0) = x) :
    selK P K0 K1 K2 K3 K4 K5 (i + 1) = if (qf K0 K1 K2 K3 K4 K5 x % (P : Int) == 0) = true then selK P K0 K1 K2 K3 K4 K5 i ++ [x] else selK P K0 K1 K2 K3 K4 K5 i := by
  have hi' : i < (allK P (P * P * P)).length := by omega
  have e : (allK P (P * P * P))[i] = x := by rw [← hx, List.getD_eq_getElem?_getD, List.getElem?_eq_getElem hi']; rfl
  unfold selK
  rw [List.take_succ_eq_append_getElem hi', List.filter_append, e]
  by_cases h : qf K0 K1 K2 K3 K4 K5 x % (P : Int) = 0
  · simp [List.filter_cons, h]
  · simp [List.filter_cons, h]
theorem selK_le (P : Nat) (K0 K1 K2 K3 K4 K5 : Int) (i : Nat) : (selK P K0 K1 K2 K3 K4 K5 i).length ≤ i :=
  Nat.le_trans (List.length_filter_le _ _) (List.length_take_le _ _)

theorem mb12 {a b : Int} (ha : 0 ≤ a ∧ a ≤ 12) (hb : 0 ≤ b ∧ b ≤ 12) : 0 ≤ a * b ∧ a * b ≤ 144 := by
  refine ⟨Int.mul_nonneg ha.1 hb.1, ?_⟩
  have h : (a * b).natAbs ≤ 12 * 12 := by
    rw [Int.natAbs_mul]
    exact Nat.mul_le_mul (by omega) (by omega)
  omega
theorem mb144 {a b : Int} (ha : 0 ≤ a ∧ a ≤ 144) (hb : 0 ≤ b ∧ b ≤ 12) : 0 ≤ a * b ∧ a * b ≤ 1728 := by
  refine ⟨Int.mul_nonneg ha.1 hb.1, ?_⟩
  have h : (a * b).natAbs ≤ 144 * 12 := by
    rw [Int.natAbs_mul]
    exact Nat.mul_le_mul (by omega) (by omega)
  omega
theorem RowsAt.set_other {w : World} {g n : Nat} {f : Nat → Int × Int × Int} (h : RowsAt w g n f) {a : Addr} (ha : a.block ≠ g) (u : Value) : RowsAt (w.setCell a u) g n f := by
  intro i hi
  obtain ⟨h1, h2, h3⟩ := h i hi
  refine ⟨?_, ?_, ?_⟩
  · rw [World.cell?_setCell_other _ _ _ _ (fun e => ha (by rw [e]))]; exact h1
  · rw [World.cell?_setCell_other _ _ _ _ (fun e => ha (by rw [e]))]; exact h2
  · rw [World.cell?_setCell_other _ _ _ _ (fun e => ha (by rw [e]))]; exact h3
theorem Gath.mono {L : List (Int × Int × Int)} {w0 w1 w : World} {v : Value} (h : Gath L w1 w v) (hb : Below w0.heap.size w0 w1) : Gath L w0 w v :=
  ⟨⟨h.1.1, h.1.2.imp id fun ⟨g, cap, cur, h1, h2, h3⟩ => ⟨g, cap, cur, h1, Nat.le_trans hb.size h2, h3⟩⟩, hb.trans (h.2.mono hb.size)⟩

set_option maxRecDepth 100000 in
set_option maxHeartbeats 1000000 in
theorem Conic33_bad (p k0 k1 k2 k3 k4 k5 : Int) (hp : isP p = false) (w : World) :
    Calls Try.prog 33 #[.int .i64 p, .agg #[.int .i64 k0, .int .i64 k1, .int .i64 k2, .int .i64 k3, .int .i64 k4, .int .i64 k5]] w fun e w' => e = .returned (.tuple #[.slice none 0 0, .int .i64 4]) ∧ Below w.heap.size w w' := by
  have HP := Lib.hid hp
  clear hp
  go_enter Try.func33, Try.ntmps33
  go_wp2_with fail
  refine (All23_bad _ HP.out _).mono ?_
  rintro e w1 ⟨rfl, hb⟩
  have HB := Lib.hid (Below.trans (ba_c (Below.refl w.heap.size w) (Nat.le_refl _) _) (hb.mono (by simp)))
  clear hb
  go_wp2
  go_ret2
  exact ⟨rfl, HB.out⟩

/-- what finite.Conic hands back -/
def ConicOut (P : Nat) (K0 K1 K2 K3 K4 K5 : Int) (sm : Bool) (w : World) (e : Ending) (w' : World) : Prop :=
  if sm = true then ∃ v, e = .returned (.tuple #[v, .int .i64 0]) ∧ Gath (selK P K0 K1 K2 K3 K4 K5 (allK P (P * P * P)).length) w w' v
  else e = .returned (.tuple #[.slice none 0 0, .int .i64 5]) ∧ Below w.heap.size w w'

set_option maxRecDepth 100000 in
set_option maxHeartbeats 8000000 in
theorem Conic33 (P n : Nat) (k0 k1 k2 k3 k4 k5 K0 K1 K2 K3 K4 K5 : Int) (hp : isP P = true) (hn : (allK P (P * P * P)).length = n) (hn1 : 1 ≤ n) (hn2 : n ≤ 2197) (b0 : 0 ≤ K0 ∧ K0 ≤ 12) (b1 : 0 ≤ K1 ∧ K1 ≤ 12) (b2 : 0 ≤ K2 ∧ K2 ≤ 12) (b3 : 0 ≤ K3 ∧ K3 ≤ 12) (b4 : 0 ≤ K4 ∧ K4 ≤ 12) (b5 : 0 ≤ K5 ∧ K5 ≤ 12)
    (hK : Hid (∀ j, j < 6 → six6 k0 k1 k2 k3 k4 k5 j % (P : Int) = six6 K0 K1 K2 K3 K4 K5 j))
    (hbd : Hid (∀ i, i < n → (0 ≤ ((allK P (P * P * P)).getD i (0, 0, 0)).1 ∧ ((allK P (P * P * P)).getD i (0, 0, 0)).1 ≤ 12) ∧ (0 ≤ ((allK P (P * P * P)).getD i (0, 0, 0)).2.1 ∧ ((allK P (P * P * P)).getD i (0, 0, 0)).2.1 ≤ 12) ∧ (0 ≤ ((allK P (P * P * P)).getD i (0, 0, 0)).2.2 ∧ ((allK P (P * P * P)).getD i (0, 0, 0)).2.2 ≤ 12))) (w : World) :
    Calls Try.prog 33 #[.int .i64 P, .agg #[.int .i64 k0, .int .i64 k1, .int .i64 k2, .int .i64 k3, .int .i64 k4, .int .i64 k5]] w (ConicOut P K0 K1 K2 K3 K4 K5 (some6 P (six6 k0 k1 k2 k3 k4 k5) 6) w) := by
  obtain ⟨h, h'⟩ := isP_bd hp
  have HP := Lib.hid hp
  have HN := Lib.hid hn
  clear hp hn
  obtain ⟨i0, hi, hz0, hz1, hz2⟩ := info_parts info27
  obtain ⟨f, hf⟩ : ∃ f, f = six6 k0 k1 k2 k3 k4 k5 := ⟨_, rfl⟩
  have HF := Lib.hid hf
  rw [← hf]
  clear hf
  go_enter Try.func33, Try.ntmps33
  go_wp2_with fail
  refine (All23 P HP.out _).mono ?_
  rintro e w1 ⟨v, rfl, hgat⟩
  obtain ⟨g, cap, rfl, hgb, hgs, hcap, hrows⟩ := hgat.rows HN.out (by omega)
  have hbw := hgat.2
  have hgB : w.heap.size < g := by simp at hgb; omega
  have hsix : SixAt w1 w.heap.size (modto P f 0) := by
    intro j hj
    rw [hbw.cell (by simp), hbw.frozen (by simp), HF.out]
    have hh : j = 0 ∨ j = 1 ∨ j = 2 ∨ j = 3 ∨ j = 4 ∨ j = 5 := by omega
    rcases hh with rfl | rfl | rfl | rfl | rfl | rfl <;> simp [go_sem, modto, six6]
  have HB1 := Lib.hid (Below.trans (ba_c (Below.refl w.heap.size w) (Nat.le_refl _) _) (hbw.mono (by simp)))
  have HROW := Lib.hid hrows
  have HSIX := Lib.hid hsix
  clear hgat hrows hbw hsix hgb
  go_wp2_with fail
  go_loopw [8, 24] (fun s i wr => ∃ m : Nat, m ≤ 6 ∧ i = .int .i64 m ∧ s = .bool (some6 P f m) ∧ SixAt wr w.heap.size (modto P f m) ∧ RowsAt wr g n (fun i => (allK P (P * P * P)).getD i (0, 0, 0)) ∧ Below w.heap.size w wr ∧ g < wr.heap.size) (fun _ i _ => 6 - (intOf i).toNat)
  case atStart => exact ⟨0, by omega, rfl, rfl, HSIX.out, HROW.out, HB1.out, hgs⟩
  case round =>
    obtain ⟨m, hm, rfl, rfl, hsx, hrw, hbl, hgr⟩ := hrel
    obtain ⟨wm, rfl⟩ : ∃ wo : World, wo = wr := ⟨_, rfl⟩
    have HSX := Lib.hid hsx
    have HRW := Lib.hid hrw
    have HBL := Lib.hid hbl
    clear hsx hrw hbl HSIX HROW HB1
    by_cases hlt : m < 6
    · obtain ⟨c0, f0⟩ := HSX.out m hlt
      rw [show modto P f m m = f m by unfold modto; rw [if_neg (by omega)]] at c0
      have l1 : (0 : Int) ≤ (m : Int) := by omega
      have l2 : (m : Int) < (6 : Int) := by omega
      have HBL2 := Lib.hid (HBL.out.setCell (p := ⟨w.heap.size, m, none⟩) (Nat.le_refl _) (.int .i64 (f m % (P : Int))))
      have HSX2 := Lib.hid (SixAt.congr (HSX.out.set m hlt (f m % (P : Int))) (modto_set P f m))
      have HRW2 := Lib.hid (RowsAt.set_other HRW.out (a := ⟨w.heap.size, m, none⟩) (by simp; omega) (.int .i64 (f m % (P : Int))))
      have hss := some6_succ P f m
      have HSS := Lib.hid hss
      clear hss
      cases hs : some6 P f m
      · have HS := Lib.hid hs
        clear hs
        cases hk : (f m % (P : Int) != 0)
        all_goals
          have HKK := Lib.hid hk
          go_wp2_with (go_at_call 42; refine (mod42 _ _ (by omega) (by omega) _).mono ?_; rintro e w' ⟨rfl, rfl⟩)
          refine ⟨⟨m + 1, by omega, by go_num, by rw [HSS.out, HS.out, HKK.out]; rfl, HSX2.out, HRW2.out, HBL2.out, by simpa using hgr⟩, by simp [intOf]; omega⟩
      · have HS := Lib.hid hs
        clear hs
        go_wp2_with (go_at_call 42; refine (mod42 _ _ (by omega) (by omega) _).mono ?_; rintro e w' ⟨rfl, rfl⟩)
        refine ⟨⟨m + 1, by omega, by go_num, by rw [HSS.out, HS.out]; rfl, HSX2.out, HRW2.out, HBL2.out, by simpa using hgr⟩, by simp [intOf]; omega⟩
    · have hm6 : m = 6 := by omega
      subst hm6
      cases hs : some6 P f 6
      · go_wp2
        go_ret2
        unfold ConicOut
        rw [if_neg (by rw [hs]; decide)]
        exact ⟨rfl, HBL.out⟩
      · have hsx2 := SixAt.congr HSX.out (f' := six6 K0 K1 K2 K3 K4 K5) (fun j hj => by unfold modto; rw [if_pos hj, HF.out]; exact hK.out j hj)
        have HSX2 := Lib.hid hsx2
        clear hsx2
        have hB : w.heap.size < wm.heap.size := by omega
        have HS6 := Lib.hid hs
        clear hs
        rw [show ((6 : Nat) : Int) = 6 from rfl]
        go_wp2_with fail
        go_loopw [10, 46] (fun v i wr => ∃ m : Nat, m ≤ n ∧ i = .int .i64 m ∧ Gath (selK P K0 K1 K2 K3 K4 K5 m) wm wr v) (fun _ i _ => n - (intOf i).toNat)
        case atStart => exact ⟨0, by omega, rfl, by simpa [selK] using gath_nil wm⟩
        case round =>
          obtain ⟨m, hmn, rfl, hga⟩ := hrel
          obtain ⟨wq, rfl⟩ : ∃ wo : World, wo = wr := ⟨_, rfl⟩
          have hsq : wm.heap.size ≤ wq.heap.size := hga.2.size
          by_cases hlt2 : m < n
          · have hx := hbd.out m hlt2
            obtain ⟨r0, r1, r2⟩ := RowsAt.below HRW.out hga.2 hgr m hlt2
            dsimp only at r0 r1 r2
            have hsel := fun x hx => selK_succ P n K0 K1 K2 K3 K4 K5 HN.out m hlt2 x hx
            generalize hX : (allK P (P * P * P)).getD m (0, 0, 0) = X at *
            obtain ⟨x, y, z⟩ := X
            dsimp only at hx r0 r1 r2
            obtain ⟨hx, hy, hz⟩ := hx
            have hsel2 := hsel (x, y, z) rfl
            have HSEL := Lib.hid hsel2
            clear hsel hsel2 hX
            have s0 := ((HSX2.out.below hga.2 hB) 0 (by omega)).1
            have s1 := ((HSX2.out.below hga.2 hB) 1 (by omega)).1
            have s2 := ((HSX2.out.below hga.2 hB) 2 (by omega)).1
            have s3 := ((HSX2.out.below hga.2 hB) 3 (by omega)).1
            have s4 := ((HSX2.out.below hga.2 hB) 4 (by omega)).1
            have s5 := ((HSX2.out.below hga.2 hB) 5 (by omega)).1
            simp only [six6, List.getD_cons_zero, List.getD_cons_succ] at s0 s1 s2 s3 s4 s5
            have hBq : w.heap.size < wq.heap.size := by omega
            have l1 : (0 : Int) ≤ (m : Int) := by omega
            have l2 : (m : Int) < (n : Int) := by omega
            have ek : m * 3 = 3 * m := by omega
            obtain ⟨p0a, p0b⟩ := mb12 b0 hx
            obtain ⟨q0a, q0b⟩ := mb144 ⟨p0a, p0b⟩ hx
            obtain ⟨p1a, p1b⟩ := mb12 b1 hy
            obtain ⟨q1a, q1b⟩ := mb144 ⟨p1a, p1b⟩ hy
            obtain ⟨p2a, p2b⟩ := mb12 b2 hz
            obtain ⟨q2a, q2b⟩ := mb144 ⟨p2a, p2b⟩ hz
            obtain ⟨p3a, p3b⟩ := mb12 b3 hy
            obtain ⟨q3a, q3b⟩ := mb144 ⟨p3a, p3b⟩ hz
            obtain ⟨p4a, p4b⟩ := mb12 b4 hz
            obtain ⟨q4a, q4b⟩ := mb144 ⟨p4a, p4b⟩ hx
            obtain ⟨p5a, p5b⟩ := mb12 b5 hx
            obtain ⟨q5a, q5b⟩ := mb144 ⟨p5a, p5b⟩ hy
            have HGA := Lib.hid hga
            clear hga
            cases hq : ((K0 * x * x + K1 * y * y + K2 * z * z + K3 * y * z + K4 * z * x + K5 * x * y) % (P : Int) == 0)
            · have HQ := Lib.hid hq
              go_upto_region 17 with fail
              go_quiet (fail)
              go_wp2_with (go_at_call 42; refine (mod42 _ _ (by omega) (by omega) _).mono ?_; rintro e w' ⟨rfl, rfl⟩)
              refine ⟨⟨m + 1, by omega, by go_num, ?_⟩, by simp [intOf]; omega⟩
              rw [HSEL.out, if_neg (by rw [show qf K0 K1 K2 K3 K4 K5 (x, y, z) = (K0 * x * x + K1 * y * y + K2 * z * z + K3 * y * z + K4 * z * x + K5 * x * y) from rfl, HQ.out]; decide)]
              exact gath_skip HGA.out (dr_o (ba_c (Below.refl _ _) (Nat.le_refl _) _) _)
            · have HQ := Lib.hid hq
              have HO := Lib.hid (fun o1 o2 j => ownsRow_alloc (show ((wq.alloc o1).drewN j).ownsRow _ _ _ _ _ _ from ownsRow_alloc HGA.out.1 o1) o2)
              have hlen := selK_le P K0 K1 K2 K3 K4 K5 m
              go_upto_region 17 with fail
              go_quiet (fail)
              go_wp2_with (first | (go_at_call 42; refine (mod42 _ _ (by omega) (by omega) _).mono ?_; rintro e w' ⟨rfl, rfl⟩) | (at_builtin; refine wpList_append_own _ rfl _ _ 45 rfl wm.heap.size 27 i0 (.agg #[.int .i64 0, .int .i64 0, .int .i64 0]) 3 24 Try.underlying45 hi hz0 hz1 hz2 rfl (by decide) _ _ _ rfl (HO.out _ _ _) ⟨wq.heap.size + 1, 0, none⟩ 1 1 (hv (x, y, z)) rfl rfl ?c1 ?c2 ?c3 ?c4 ?c5 ?_))
              case c1 =>
                intro j u hj
                match j, hj with
                | 0, hj => simp [hv] at hj; subst hj; simp [go_sem, Addr.add]
                | 1, hj => simp [hv] at hj; subst hj; simp [go_sem, Addr.add]
                | 2, hj => simp [hv] at hj; subst hj; simp [go_sem, Addr.add]
              case c2 => intro u hu; simp [hv] at hu; rcases hu with rfl | rfl | rfl <;> rfl
              case c3 => unfold maxLen; omega
              case c4 => omega
              case c5 => simp; omega
              intro v' w2 hown' hgrow _
              have HN2 := Lib.hid hown'
              have HW2 := Lib.hid hgrow
              clear hown' hgrow
              go_wp2
              refine ⟨⟨m + 1, by omega, by go_num, ?_⟩, by simp [intOf]; omega⟩
              rw [HSEL.out, if_pos (by rw [show qf K0 K1 K2 K3 K4 K5 (x, y, z) = (K0 * x * x + K1 * y * y + K2 * z * z + K3 * y * z + K4 * z * x + K5 * x * y) from rfl, HQ.out])]
              exact gath_keep (gath_skip HGA.out (ba_c (dr_o (ba_c (Below.refl _ _) (Nat.le_refl _) _) _) (Nat.le_refl _) _)) HN2.out HW2.out
          · have hmn2 : m = n := by omega
            subst hmn2
            go_wp2
            go_ret2
            unfold ConicOut
            rw [if_pos HS6.out, HN.out]
            exact ⟨_, rfl, hga.mono HBL.out⟩

end Go.Proofs.Ytfdbkocpljiehaa
