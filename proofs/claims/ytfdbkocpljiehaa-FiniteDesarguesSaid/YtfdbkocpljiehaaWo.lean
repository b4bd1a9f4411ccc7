/- Walks: finite.Order. -/
import Derived.Test.YtfdbkocpljiehaaDo
import Derived.Test.YtfdbkocpljiehaaWg
import Derived.Test.YtfdbkocpljiehaaWh
import Derived.Test.YtfdbkocpljiehaaWq
import Derived.Deep.QuietTactic
import Derived.BigQuiet
import Derived.Deep.DeepCutAuto
set_option linter.unusedSimpArgs false
set_option linter.unusedVariables false
namespace Go.Proofs.Ytfdbkocpljiehaa
open Go.RowKit

theorem mix_set {f : Int × Int × Int → Int × Int × Int} {n i : Nat} {u : Int × Int × Int} (hu : u = itr f n (Fr i)) : ∀ j, j < 4 → (if j = i then u else mix f n i j) = mix f n (i + 1) j := by
  intro j _
  unfold mix
  by_cases e : j = i
  · subst e; rw [if_pos rfl, if_pos (by omega)]; exact hu
  · rw [if_neg e]
    by_cases e2 : j < i
    · rw [if_pos e2, if_pos (by omega)]
    · rw [if_neg e2, if_neg (by omega)]
theorem dr_o {B : Nat} {a w : World} (h : Below B a w) (n : Nat) : Below B a (w.drewN n) := ⟨h.os, h.tape, h.output, h.size, h.block⟩
theorem itr_pred {f : Int × Int × Int → Int × Int × Int} {n : Nat} (hn : 1 ≤ n) (h : Int × Int × Int) : itr f n h = f (itr f (n - 1) h) := by
  cases n with
  | zero => omega
  | succ n => rfl

set_option maxRecDepth 100000 in
set_option maxHeartbeats 2000000 in
theorem Order28_bad (p a0 a1 a2 a3 a4 a5 a6 a7 a8 : Int) (hp : isP p = false) (w : World) :
    Calls Try.prog 28 #[.int .i64 p, .agg #[.int .i64 a0, .int .i64 a1, .int .i64 a2, .int .i64 a3, .int .i64 a4, .int .i64 a5, .int .i64 a6, .int .i64 a7, .int .i64 a8]] w fun e w' =>
      e = .returned (.tuple #[.int .i64 0, .int .i64 4]) ∧ Below w.heap.size w w' := by
  go_enter Try.func28, Try.ntmps28
  go_wp2_with (go_at_call 35; refine (prime35_no _ hp _).mono ?_; rintro e w' ⟨rfl, rfl⟩)
  go_ret2
  exact ⟨rfl, ba_b (Below.refl _ _) (Nat.le_refl _) _⟩

set_option maxRecDepth 100000 in
set_option maxHeartbeats 2000000 in
theorem Order28_flat (p a0 a1 a2 a3 a4 a5 a6 a7 a8 A0 A1 A2 A3 A4 A5 A6 A7 A8 X Y Z : Int) (hp : isP p = true) (h0 : Hid (a0 % p = A0)) (h1 : Hid (a1 % p = A1)) (h2 : Hid (a2 % p = A2)) (h3 : Hid (a3 % p = A3)) (h4 : Hid (a4 % p = A4)) (h5 : Hid (a5 % p = A5)) (h6 : Hid (a6 % p = A6)) (h7 : Hid (a7 % p = A7)) (h8 : Hid (a8 % p = A8)) (b0 : 0 ≤ A0 ∧ A0 ≤ 12) (b1 : 0 ≤ A1 ∧ A1 ≤ 12) (b2 : 0 ≤ A2 ∧ A2 ≤ 12) (b3 : 0 ≤ A3 ∧ A3 ≤ 12) (b4 : 0 ≤ A4 ∧ A4 ≤ 12) (b5 : 0 ≤ A5 ∧ A5 ≤ 12) (b6 : 0 ≤ A6 ∧ A6 ≤ 12) (b7 : 0 ≤ A7 ∧ A7 ≤ 12) (b8 : 0 ≤ A8 ∧ A8 ≤ 12)
    (hX : Hid ((A4 * A8 - A5 * A7) % p = X)) (hY : Hid ((A5 * A6 - A3 * A8) % p = Y)) (hZ : Hid ((A3 * A7 - A4 * A6) % p = Z)) (bX : 0 ≤ X ∧ X ≤ 12) (bY : 0 ≤ Y ∧ Y ≤ 12) (bZ : 0 ≤ Z ∧ Z ≤ 12)
    (hd : ((A0 * X + A1 * Y + A2 * Z) % p != 0) = false) (w : World) :
    Calls Try.prog 28 #[.int .i64 p, .agg #[.int .i64 a0, .int .i64 a1, .int .i64 a2, .int .i64 a3, .int .i64 a4, .int .i64 a5, .int .i64 a6, .int .i64 a7, .int .i64 a8]] w fun e w' =>
      e = .returned (.tuple #[.int .i64 0, .int .i64 5]) ∧ Below w.heap.size w w' := by
  obtain ⟨h, h'⟩ := isP_bd hp
  have HP := Lib.hid hp
  clear hp
  go_enter Try.func28, Try.ntmps28
  go_wp2_with (go_at_call 35; refine (prime35_yes _ HP.out _).mono ?_; rintro e w' ⟨rfl, rfl⟩)
  refine (readW38 _ _ _ _ _ _ _ _ _ _ _ _ _ _ _ _ _ _ _ _ _ _ h h' h0 h1 h2 h3 h4 h5 h6 h7 h8 b0 b1 b2 b3 b4 b5 b6 b7 b8 hX hY hZ bX bY bZ _).mono ?_
  rintro e w1 ⟨rfl, hb1⟩
  have HB1 := Lib.hid (Below.trans (ba_b (Below.refl w.heap.size w) (Nat.le_refl _) _) (hb1.mono (by simp)))
  have hs1 : w.heap.size ≤ w1.heap.size := HB1.out.size
  clear hb1
  go_wp2
  go_ret2
  exact ⟨rfl, ba_b HB1.out (Nat.le_refl _) _⟩

set_option maxRecDepth 100000 in
set_option maxHeartbeats 8000000 in
theorem Order28_ok (N : Nat) (p a0 a1 a2 a3 a4 a5 a6 a7 a8 A0 A1 A2 A3 A4 A5 A6 A7 A8 X Y Z : Int) (hp : isP p = true) (h0 : Hid (a0 % p = A0)) (h1 : Hid (a1 % p = A1)) (h2 : Hid (a2 % p = A2)) (h3 : Hid (a3 % p = A3)) (h4 : Hid (a4 % p = A4)) (h5 : Hid (a5 % p = A5)) (h6 : Hid (a6 % p = A6)) (h7 : Hid (a7 % p = A7)) (h8 : Hid (a8 % p = A8)) (b0 : 0 ≤ A0 ∧ A0 ≤ 12) (b1 : 0 ≤ A1 ∧ A1 ≤ 12) (b2 : 0 ≤ A2 ∧ A2 ≤ 12) (b3 : 0 ≤ A3 ∧ A3 ≤ 12) (b4 : 0 ≤ A4 ∧ A4 ≤ 12) (b5 : 0 ≤ A5 ∧ A5 ≤ 12) (b6 : 0 ≤ A6 ∧ A6 ≤ 12) (b7 : 0 ≤ A7 ∧ A7 ≤ 12) (b8 : 0 ≤ A8 ∧ A8 ≤ 12)
    (hX : Hid ((A4 * A8 - A5 * A7) % p = X)) (hY : Hid ((A5 * A6 - A3 * A8) % p = Y)) (hZ : Hid ((A3 * A7 - A4 * A6) % p = Z)) (bX : 0 ≤ X ∧ X ≤ 12) (bY : 0 ≤ Y ∧ Y ≤ 12) (bZ : 0 ≤ Z ∧ Z ≤ 12)
    (hd : ((A0 * X + A1 * Y + A2 * Z) % p != 0) = true) (hN : 1 ≤ N) (hN' : N ≤ 1000000) (hback : Hid (bk (stp p A0 A1 A2 A3 A4 A5 A6 A7 A8) N 4 = true)) (hmin : Hid (∀ n, 1 ≤ n → n < N → bk (stp p A0 A1 A2 A3 A4 A5 A6 A7 A8) n 4 = false)) (w : World) :
    Calls Try.prog 28 #[.int .i64 p, .agg #[.int .i64 a0, .int .i64 a1, .int .i64 a2, .int .i64 a3, .int .i64 a4, .int .i64 a5, .int .i64 a6, .int .i64 a7, .int .i64 a8]] w fun e w' =>
      e = .returned (.tuple #[.int .i64 N, .int .i64 0]) ∧ Below w.heap.size w w' := by
  obtain ⟨h, h'⟩ := isP_bd hp
  have HP := Lib.hid hp
  clear hp
  go_enter Try.func28, Try.ntmps28
  go_wp2_with (go_at_call 35; refine (prime35_yes _ HP.out _).mono ?_; rintro e w' ⟨rfl, rfl⟩)
  refine (readW38 _ _ _ _ _ _ _ _ _ _ _ _ _ _ _ _ _ _ _ _ _ _ h h' h0 h1 h2 h3 h4 h5 h6 h7 h8 b0 b1 b2 b3 b4 b5 b6 b7 b8 hX hY hZ bX bY bZ _).mono ?_
  rintro e w1 ⟨rfl, hb1⟩
  have HB1 := Lib.hid (Below.trans (ba_b (Below.refl w.heap.size w) (Nat.le_refl _) _) (hb1.mono (by simp)))
  have hs1 : w.heap.size ≤ w1.heap.size := HB1.out.size
  clear hb1
  go_wp2_with fail
  obtain ⟨g, hg⟩ : ∃ g, g = w1.heap.size := ⟨_, rfl⟩
  have HGe := Lib.hid hg
  clear hg
  go_loopw [10] (fun i wr => ∃ n : Nat, 1 ≤ n ∧ n ≤ N ∧ i = .int .i64 n ∧ AtIs wr (w1.heap.size + 1 + 1) (mix (stp p A0 A1 A2 A3 A4 A5 A6 A7 A8) n 0) ∧ Below (w1.heap.size + 1 + 1) ((w1.alloc (.cells #[.int .i64 A0, .int .i64 A1, .int .i64 A2, .int .i64 A3, .int .i64 A4, .int .i64 A5, .int .i64 A6, .int .i64 A7, .int .i64 A8] 29)).alloc (.cells #[.int .i64 1, .int .i64 0, .int .i64 0, .int .i64 0, .int .i64 1, .int .i64 0, .int .i64 0, .int .i64 0, .int .i64 1, .int .i64 1, .int .i64 1, .int .i64 1] 61)) wr ∧ w1.heap.size + 1 + 1 < wr.heap.size) (fun i _ => N + 1 - (intOf i).toNat)
  case atStart =>
    refine ⟨1, by omega, by omega, rfl, ?_, (Below.refl _ _).alloc (by simp) _, by simp⟩
    intro j hj
    have hh : j = 0 ∨ j = 1 ∨ j = 2 ∨ j = 3 := by omega
    rcases hh with rfl | rfl | rfl | rfl <;> simp [go_sem, mix, itr, Fr]
  case round =>
    obtain ⟨n, hn1, hn2, rfl, hat, hbl, hgs⟩ := hrel
    obtain ⟨wo, rfl⟩ : ∃ wo : World, wo = wr := ⟨_, rfl⟩
    have HAT := Lib.hid hat
    have HBL := Lib.hid hbl
    clear hat hbl
    go_wp2_with fail
    go_loopw [11, 32] (fun b i wr => ∃ m : Nat, m ≤ 4 ∧ i = .int .i64 m ∧ b = .bool (bk (stp p A0 A1 A2 A3 A4 A5 A6 A7 A8) n m) ∧ AtIs wr (w1.heap.size + 1 + 1) (mix (stp p A0 A1 A2 A3 A4 A5 A6 A7 A8) n m) ∧ Below (w1.heap.size + 1 + 1) ((w1.alloc (.cells #[.int .i64 A0, .int .i64 A1, .int .i64 A2, .int .i64 A3, .int .i64 A4, .int .i64 A5, .int .i64 A6, .int .i64 A7, .int .i64 A8] 29)).alloc (.cells #[.int .i64 1, .int .i64 0, .int .i64 0, .int .i64 0, .int .i64 1, .int .i64 0, .int .i64 0, .int .i64 0, .int .i64 1, .int .i64 1, .int .i64 1, .int .i64 1] 61)) wr ∧ w1.heap.size + 1 + 1 < wr.heap.size) (fun _ i _ => 4 - (intOf i).toNat)
    case atStart => exact ⟨0, by omega, rfl, rfl, HAT.out, HBL.out, hgs⟩
    case round =>
      obtain ⟨m, hm, rfl, rfl, hat, hbl, hgs2⟩ := hrel
      obtain ⟨wm, rfl⟩ : ∃ wo : World, wo = wr := ⟨_, rfl⟩
      by_cases hlt : m < 4
      · have hxyz0 : ∃ t, itr (stp p A0 A1 A2 A3 A4 A5 A6 A7 A8) (n - 1) (Fr m) = t := ⟨_, rfl⟩
        obtain ⟨⟨x, y, z⟩, hxyz⟩ := hxyz0
        have hbd := itr_bd p A0 A1 A2 A3 A4 A5 A6 A7 A8 h h' (n - 1) m
        rw [hxyz] at hbd
        obtain ⟨bx, by', bz⟩ := hbd
        dsimp only at bx by' bz
        obtain ⟨⟨u0, u1, u2⟩, hu⟩ : ∃ u, pl p ((A0 * x + A1 * y + A2 * z) % p) ((A3 * x + A4 * y + A5 * z) % p) ((A6 * x + A7 * y + A8 * z) % p) = u := ⟨_, rfl⟩
        have hnew : itr (stp p A0 A1 A2 A3 A4 A5 A6 A7 A8) n (Fr m) = (u0, u1, u2) := by rw [itr_pred hn1, hxyz]; exact hu
        have hz0 : ∃ q, zz p ((A0 * x + A1 * y + A2 * z) % p) ((A3 * x + A4 * y + A5 * z) % p) ((A6 * x + A7 * y + A8 * z) % p) = q := ⟨_, rfl⟩
        obtain ⟨zb, hzb⟩ := hz0
        have hat1 := hat m hlt
        rw [show mix (stp p A0 A1 A2 A3 A4 A5 A6 A7 A8) n m m = (x, y, z) by unfold mix; rw [if_neg (by omega)]; exact hxyz] at hat1
        dsimp only at hat1
        obtain ⟨⟨c0, c1, c2⟩, f0, f1, f2⟩ := hat1
        have hq1 : ∀ o, wm.cell? ⟨w1.heap.size, o, none⟩ = _ := fun o => hbl.cell (p := ⟨w1.heap.size, o, none⟩) (by simp <;> omega)
        have hq2 : ∀ o, wm.cell? ⟨w1.heap.size + 1, o, none⟩ = _ := fun o => hbl.cell (p := ⟨w1.heap.size + 1, o, none⟩) (by simp <;> omega)
        have HU := Lib.hid hu
        have HZB := Lib.hid hzb
        have HNEW := Lib.hid hnew
        have HXYZ := Lib.hid hxyz
        have HAT2 := Lib.hid hat
        have HBL2 := Lib.hid hbl
        clear hu hzb hnew hxyz hat hbl
        have hm4 : m = 0 ∨ m = 1 ∨ m = 2 ∨ m = 3 := by omega
        rcases hm4 with rfl | rfl | rfl | rfl
        · have c0' : wm.cell? ⟨w1.heap.size + 1 + 1, 0, none⟩ = some (.int .i64 x) := c0
          have c1' : wm.cell? ⟨w1.heap.size + 1 + 1, 1, none⟩ = some (.int .i64 y) := c1
          have c2' : wm.cell? ⟨w1.heap.size + 1 + 1, 2, none⟩ = some (.int .i64 z) := c2
          have f0' : wm.frozen? ⟨w1.heap.size + 1 + 1, 0, none⟩ = false := f0
          have f1' : wm.frozen? ⟨w1.heap.size + 1 + 1, 1, none⟩ = false := f1
          have f2' : wm.frozen? ⟨w1.heap.size + 1 + 1, 2, none⟩ = false := f2
          clear c0 c1 c2 f0 f1 f2
          go_wp2_with fail
          refine wp_region_T (Below (w1.heap.size + 1 + 1 + 1) (wm)) 13 (by kernel_rfl) ?_ ?_
          · exact Below.drew (Below.refl _ _)
          intro HS
          refine wpT_takeP 0 (v := ?_) rfl (by kernel_rfl) (fun _ _ _ h => h) (by rfl) ?_ ?_ ?_
          rotate_left
          · (intro W; go_simp; first | done | with_reducible rfl)
          · (first | (intro _; with_reducible assumption) | (intro h0; cases h0))
          try simp only [Act.put, List.setIfInBounds_toArray, List.set_cons_zero, List.set_cons_succ]
          refine wpT_takeP 2 (v := ?_) rfl (by kernel_rfl) (fun _ _ _ h => h) (by rfl) ?_ ?_ ?_
          rotate_left
          · (intro W; go_simp; first | done | with_reducible rfl)
          · (first | (intro _; with_reducible assumption) | (intro h0; cases h0))
          try simp only [Act.put, List.setIfInBounds_toArray, List.set_cons_zero, List.set_cons_succ]
          refine wpT_takeP 3 (v := ?_) rfl (by kernel_rfl) (fun _ _ _ h => h) (by rfl) ?_ ?_ ?_
          rotate_left
          · (intro W; go_simp; first | done | with_reducible rfl)
          · (first | (intro _; with_reducible assumption) | (intro h0; cases h0))
          try simp only [Act.put, List.setIfInBounds_toArray, List.set_cons_zero, List.set_cons_succ]
          refine wpT_takeP 5 (v := ?_) rfl (by kernel_rfl) (fun _ _ _ h => h) (by rfl) ?_ ?_ ?_
          rotate_left
          · (intro W; go_simp; first | done | with_reducible rfl)
          · (first | (intro _; with_reducible assumption) | (intro h0; cases h0))
          try simp only [Act.put, List.setIfInBounds_toArray, List.set_cons_zero, List.set_cons_succ]
          refine wpT_takeP 7 (v := ?_) rfl (by kernel_rfl) (fun _ _ _ h => h) (by rfl) ?_ ?_ ?_
          rotate_left
          · (intro W; go_simp; first | done | with_reducible rfl)
          · (first | (intro _; with_reducible assumption) | (intro h0; cases h0))
          try simp only [Act.put, List.setIfInBounds_toArray, List.set_cons_zero, List.set_cons_succ]
          refine wpT_take 1 30 (v := ?_) rfl (by kernel_rfl) (fun _ _ _ h => h) (by rfl) ?_ HS ?_
          rotate_left
          · (intro W hW; have hq0 := fun o => hW.cell (p := ⟨w1.heap.size, o, none⟩) (by simp <;> omega); have hq1 := fun o => hW.cell (p := ⟨w1.heap.size + 1 + 1, o, none⟩) (by simp <;> omega); go_simp; first | done | with_reducible rfl)
          try simp only [Act.put, List.setIfInBounds_toArray, List.set_cons_zero, List.set_cons_succ]
          refine wpT_take 4 30 (v := ?_) rfl (by kernel_rfl) (fun _ _ _ h => h) (by rfl) ?_ HS ?_
          rotate_left
          · (intro W hW; have hq0 := fun o => hW.cell (p := ⟨w1.heap.size, o, none⟩) (by simp <;> omega); have hq1 := fun o => hW.cell (p := ⟨w1.heap.size + 1 + 1, o, none⟩) (by simp <;> omega); go_simp; first | done | with_reducible rfl)
          try simp only [Act.put, List.setIfInBounds_toArray, List.set_cons_zero, List.set_cons_succ]
          refine wpT_one 6 (by kernel_rfl) rfl (fun K hK => ?_)
          go_simp
          refine (apply39 _ _ _ _ _ _ _ _ _ _ _ _ _ h h' b0 b1 b2 b3 b4 b5 b6 b7 b8 bx by' bz _).mono ?_
          rintro e w2 ⟨rfl, hb2⟩
          replace HS := Below.trans HS (hb2.mono (by have := HS.size; simp at this ⊢ <;> omega))
          clear hb2
          refine hK.out _ _ ?_ ?_
          · (first | (intro _; with_reducible assumption) | (intro h0; cases h0))
          clear hK K
          try simp only [Act.put, List.setIfInBounds_toArray, List.set_cons_zero, List.set_cons_succ]
          refine wpT_one 8 (by kernel_rfl) rfl (fun K hK => ?_)
          go_simp
          refine (plain36e _ _ _ _ _ _ _ _ HU.out HZB.out h h' _).mono ?_
          rintro e w3 ⟨rfl, hb3⟩
          replace HS := Below.trans HS (hb3.mono (by have := HS.size; simp at this ⊢ <;> omega))
          clear hb3
          have hw3 : ∀ o, w3.cell? ⟨w1.heap.size + 1 + 1, o, none⟩ = wm.cell? ⟨w1.heap.size + 1 + 1, o, none⟩ := fun o => HS.cell (p := ⟨w1.heap.size + 1 + 1, o, none⟩) (by simp <;> omega)
          have hv3 : ∀ o, w3.frozen? ⟨w1.heap.size + 1 + 1, o, none⟩ = wm.frozen? ⟨w1.heap.size + 1 + 1, o, none⟩ := fun o => HS.frozen (p := ⟨w1.heap.size + 1 + 1, o, none⟩) (by simp <;> omega)
          have hx3 : ∀ o, w3.cell? ⟨w1.heap.size + 1, o, none⟩ = wm.cell? ⟨w1.heap.size + 1, o, none⟩ := fun o => HS.cell (p := ⟨w1.heap.size + 1, o, none⟩) (by simp <;> omega)
          refine hK.out _ _ ?_ ?_
          · (first | (intro _; with_reducible assumption) | (intro h0; cases h0))
          clear hK K
          try simp only [Act.put, List.setIfInBounds_toArray, List.set_cons_zero, List.set_cons_succ]
          refine wpT_takeP 9 (v := ?_) rfl (by kernel_rfl) (fun _ _ _ h => h) (by rfl) ?_ ?_ ?_
          rotate_left
          · (intro W; go_simp; first | done | with_reducible rfl)
          · (first | (intro _; with_reducible assumption) | (intro h0; cases h0))
          try simp only [Act.put, List.setIfInBounds_toArray, List.set_cons_zero, List.set_cons_succ]
          refine wpT_takeP 10 (v := ?_) rfl (by kernel_rfl) (fun _ _ _ h => h) (by rfl) ?_ ?_ ?_
          rotate_left
          · (intro W; go_simp; first | done | with_reducible rfl)
          · (first | (intro _; with_reducible assumption) | (intro h0; cases h0))
          try simp only [Act.put, List.setIfInBounds_toArray, List.set_cons_zero, List.set_cons_succ]
          refine wpT_takeP 11 (v := ?_) rfl (by kernel_rfl) (fun _ _ _ h => h) (by rfl) ?_ ?_ ?_
          rotate_left
          · (intro W; go_simp; first | done | with_reducible rfl)
          · (first | (intro _; with_reducible assumption) | (intro h0; cases h0))
          try simp only [Act.put, List.setIfInBounds_toArray, List.set_cons_zero, List.set_cons_succ]
          refine wpT_takeP 12 (v := ?_) rfl (by kernel_rfl) (fun _ _ _ h => h) (by rfl) ?_ ?_ ?_
          rotate_left
          · (intro W; go_simp; first | done | with_reducible rfl)
          · (first | (intro _; with_reducible assumption) | (intro h0; cases h0))
          try simp only [Act.put, List.setIfInBounds_toArray, List.set_cons_zero, List.set_cons_succ]
          refine wpT_one 13 (by kernel_rfl) rfl (fun K hK => ?_)
          go_simp
          refine hK.out _ _ ?_ ?_
          · (intro h0; cases h0)
          clear hK K
          try simp only [Act.put, List.setIfInBounds_toArray, List.set_cons_zero, List.set_cons_succ]
          refine wpT_done (by kernel_rfl) ?_ _
          have HS3 := Lib.hid HS
          clear HS
          have HA3 := Lib.hid ((AtIs.below HAT2.out HS3.out (by omega)).set 0 (by omega) u0 u1 u2)
          have hsz3 : w1.heap.size + 1 + 1 < w3.heap.size := Nat.lt_of_lt_of_le hgs2 HS3.out.size
          cases hbk : bk (stp p A0 A1 A2 A3 A4 A5 A6 A7 A8) n 0
          · go_wp2_with fail
            go_quiet (fail)
            go_wp2
            refine ⟨⟨1, by omega, rfl, ?_, ?_, ?_, ?_⟩, by simp [intOf]⟩
            · rw [bk_succ, hbk]; rfl
            · exact AtIs.congr (AtIs.below (B := w3.heap.size) HA3.out ⟨rfl, rfl, rfl, by simp, fun _ _ => rfl⟩ hsz3) (mix_set HNEW.out.symm)
            · exact dr_o ((((HBL2.out.trans (HS3.out.mono (by omega))).setCell (by simp) _).setCell (by simp) _).setCell (by simp) _) _
            · simp; omega
          · go_wp2_with fail
            go_quiet (fail)
            go_wp2
            refine ⟨⟨1, by omega, rfl, ?_, ?_, ?_, ?_⟩, by simp [intOf]⟩
            · rw [bk_succ, hbk, HNEW.out]; rfl
            · exact AtIs.congr (AtIs.below (B := w3.heap.size) HA3.out ⟨rfl, rfl, rfl, by simp, fun _ _ => rfl⟩ hsz3) (mix_set HNEW.out.symm)
            · exact dr_o ((((HBL2.out.trans (HS3.out.mono (by omega))).setCell (by simp) _).setCell (by simp) _).setCell (by simp) _) _
            · simp; omega
        · have c0' : wm.cell? ⟨w1.heap.size + 1 + 1, 3, none⟩ = some (.int .i64 x) := c0
          have c1' : wm.cell? ⟨w1.heap.size + 1 + 1, 4, none⟩ = some (.int .i64 y) := c1
          have c2' : wm.cell? ⟨w1.heap.size + 1 + 1, 5, none⟩ = some (.int .i64 z) := c2
          have f0' : wm.frozen? ⟨w1.heap.size + 1 + 1, 3, none⟩ = false := f0
          have f1' : wm.frozen? ⟨w1.heap.size + 1 + 1, 4, none⟩ = false := f1
          have f2' : wm.frozen? ⟨w1.heap.size + 1 + 1, 5, none⟩ = false := f2
          clear c0 c1 c2 f0 f1 f2
          go_wp2_with fail
          refine wp_region_T (Below (w1.heap.size + 1 + 1 + 1) (wm)) 13 (by kernel_rfl) ?_ ?_
          · exact Below.drew (Below.refl _ _)
          intro HS
          refine wpT_takeP 0 (v := ?_) rfl (by kernel_rfl) (fun _ _ _ h => h) (by rfl) ?_ ?_ ?_
          rotate_left
          · (intro W; go_simp; first | done | with_reducible rfl)
          · (first | (intro _; with_reducible assumption) | (intro h0; cases h0))
          try simp only [Act.put, List.setIfInBounds_toArray, List.set_cons_zero, List.set_cons_succ]
          refine wpT_takeP 2 (v := ?_) rfl (by kernel_rfl) (fun _ _ _ h => h) (by rfl) ?_ ?_ ?_
          rotate_left
          · (intro W; go_simp; first | done | with_reducible rfl)
          · (first | (intro _; with_reducible assumption) | (intro h0; cases h0))
          try simp only [Act.put, List.setIfInBounds_toArray, List.set_cons_zero, List.set_cons_succ]
          refine wpT_takeP 3 (v := ?_) rfl (by kernel_rfl) (fun _ _ _ h => h) (by rfl) ?_ ?_ ?_
          rotate_left
          · (intro W; go_simp; first | done | with_reducible rfl)
          · (first | (intro _; with_reducible assumption) | (intro h0; cases h0))
          try simp only [Act.put, List.setIfInBounds_toArray, List.set_cons_zero, List.set_cons_succ]
          refine wpT_takeP 5 (v := ?_) rfl (by kernel_rfl) (fun _ _ _ h => h) (by rfl) ?_ ?_ ?_
          rotate_left
          · (intro W; go_simp; first | done | with_reducible rfl)
          · (first | (intro _; with_reducible assumption) | (intro h0; cases h0))
          try simp only [Act.put, List.setIfInBounds_toArray, List.set_cons_zero, List.set_cons_succ]
          refine wpT_takeP 7 (v := ?_) rfl (by kernel_rfl) (fun _ _ _ h => h) (by rfl) ?_ ?_ ?_
          rotate_left
          · (intro W; go_simp; first | done | with_reducible rfl)
          · (first | (intro _; with_reducible assumption) | (intro h0; cases h0))
          try simp only [Act.put, List.setIfInBounds_toArray, List.set_cons_zero, List.set_cons_succ]
          refine wpT_take 1 30 (v := ?_) rfl (by kernel_rfl) (fun _ _ _ h => h) (by rfl) ?_ HS ?_
          rotate_left
          · (intro W hW; have hq0 := fun o => hW.cell (p := ⟨w1.heap.size, o, none⟩) (by simp <;> omega); have hq1 := fun o => hW.cell (p := ⟨w1.heap.size + 1 + 1, o, none⟩) (by simp <;> omega); go_simp; first | done | with_reducible rfl)
          try simp only [Act.put, List.setIfInBounds_toArray, List.set_cons_zero, List.set_cons_succ]
          refine wpT_take 4 30 (v := ?_) rfl (by kernel_rfl) (fun _ _ _ h => h) (by rfl) ?_ HS ?_
          rotate_left
          · (intro W hW; have hq0 := fun o => hW.cell (p := ⟨w1.heap.size, o, none⟩) (by simp <;> omega); have hq1 := fun o => hW.cell (p := ⟨w1.heap.size + 1 + 1, o, none⟩) (by simp <;> omega); go_simp; first | done | with_reducible rfl)
          try simp only [Act.put, List.setIfInBounds_toArray, List.set_cons_zero, List.set_cons_succ]
          refine wpT_one 6 (by kernel_rfl) rfl (fun K hK => ?_)
          go_simp
          refine (apply39 _ _ _ _ _ _ _ _ _ _ _ _ _ h h' b0 b1 b2 b3 b4 b5 b6 b7 b8 bx by' bz _).mono ?_
          rintro e w2 ⟨rfl, hb2⟩
          replace HS := Below.trans HS (hb2.mono (by have := HS.size; simp at this ⊢ <;> omega))
          clear hb2
          refine hK.out _ _ ?_ ?_
          · (first | (intro _; with_reducible assumption) | (intro h0; cases h0))
          clear hK K
          try simp only [Act.put, List.setIfInBounds_toArray, List.set_cons_zero, List.set_cons_succ]
          refine wpT_one 8 (by kernel_rfl) rfl (fun K hK => ?_)
          go_simp
          refine (plain36e _ _ _ _ _ _ _ _ HU.out HZB.out h h' _).mono ?_
          rintro e w3 ⟨rfl, hb3⟩
          replace HS := Below.trans HS (hb3.mono (by have := HS.size; simp at this ⊢ <;> omega))
          clear hb3
          have hw3 : ∀ o, w3.cell? ⟨w1.heap.size + 1 + 1, o, none⟩ = wm.cell? ⟨w1.heap.size + 1 + 1, o, none⟩ := fun o => HS.cell (p := ⟨w1.heap.size + 1 + 1, o, none⟩) (by simp <;> omega)
          have hv3 : ∀ o, w3.frozen? ⟨w1.heap.size + 1 + 1, o, none⟩ = wm.frozen? ⟨w1.heap.size + 1 + 1, o, none⟩ := fun o => HS.frozen (p := ⟨w1.heap.size + 1 + 1, o, none⟩) (by simp <;> omega)
          have hx3 : ∀ o, w3.cell? ⟨w1.heap.size + 1, o, none⟩ = wm.cell? ⟨w1.heap.size + 1, o, none⟩ := fun o => HS.cell (p := ⟨w1.heap.size + 1, o, none⟩) (by simp <;> omega)
          refine hK.out _ _ ?_ ?_
          · (first | (intro _; with_reducible assumption) | (intro h0; cases h0))
          clear hK K
          try simp only [Act.put, List.setIfInBounds_toArray, List.set_cons_zero, List.set_cons_succ]
          refine wpT_takeP 9 (v := ?_) rfl (by kernel_rfl) (fun _ _ _ h => h) (by rfl) ?_ ?_ ?_
          rotate_left
          · (intro W; go_simp; first | done | with_reducible rfl)
          · (first | (intro _; with_reducible assumption) | (intro h0; cases h0))
          try simp only [Act.put, List.setIfInBounds_toArray, List.set_cons_zero, List.set_cons_succ]
          refine wpT_takeP 10 (v := ?_) rfl (by kernel_rfl) (fun _ _ _ h => h) (by rfl) ?_ ?_ ?_
          rotate_left
          · (intro W; go_simp; first | done | with_reducible rfl)
          · (first | (intro _; with_reducible assumption) | (intro h0; cases h0))
          try simp only [Act.put, List.setIfInBounds_toArray, List.set_cons_zero, List.set_cons_succ]
          refine wpT_takeP 11 (v := ?_) rfl (by kernel_rfl) (fun _ _ _ h => h) (by rfl) ?_ ?_ ?_
          rotate_left
          · (intro W; go_simp; first | done | with_reducible rfl)
          · (first | (intro _; with_reducible assumption) | (intro h0; cases h0))
          try simp only [Act.put, List.setIfInBounds_toArray, List.set_cons_zero, List.set_cons_succ]
          refine wpT_takeP 12 (v := ?_) rfl (by kernel_rfl) (fun _ _ _ h => h) (by rfl) ?_ ?_ ?_
          rotate_left
          · (intro W; go_simp; first | done | with_reducible rfl)
          · (first | (intro _; with_reducible assumption) | (intro h0; cases h0))
          try simp only [Act.put, List.setIfInBounds_toArray, List.set_cons_zero, List.set_cons_succ]
          refine wpT_one 13 (by kernel_rfl) rfl (fun K hK => ?_)
          go_simp
          refine hK.out _ _ ?_ ?_
          · (intro h0; cases h0)
          clear hK K
          try simp only [Act.put, List.setIfInBounds_toArray, List.set_cons_zero, List.set_cons_succ]
          refine wpT_done (by kernel_rfl) ?_ _
          have HS3 := Lib.hid HS
          clear HS
          have HA3 := Lib.hid ((AtIs.below HAT2.out HS3.out (by omega)).set 1 (by omega) u0 u1 u2)
          have hsz3 : w1.heap.size + 1 + 1 < w3.heap.size := Nat.lt_of_lt_of_le hgs2 HS3.out.size
          cases hbk : bk (stp p A0 A1 A2 A3 A4 A5 A6 A7 A8) n 1
          · go_wp2_with fail
            go_quiet (fail)
            go_wp2
            refine ⟨⟨2, by omega, rfl, ?_, ?_, ?_, ?_⟩, by simp [intOf]⟩
            · rw [bk_succ, hbk]; rfl
            · exact AtIs.congr (AtIs.below (B := w3.heap.size) HA3.out ⟨rfl, rfl, rfl, by simp, fun _ _ => rfl⟩ hsz3) (mix_set HNEW.out.symm)
            · exact dr_o ((((HBL2.out.trans (HS3.out.mono (by omega))).setCell (by simp) _).setCell (by simp) _).setCell (by simp) _) _
            · simp; omega
          · go_wp2_with fail
            go_quiet (fail)
            go_wp2
            refine ⟨⟨2, by omega, rfl, ?_, ?_, ?_, ?_⟩, by simp [intOf]⟩
            · rw [bk_succ, hbk, HNEW.out]; rfl
            · exact AtIs.congr (AtIs.below (B := w3.heap.size) HA3.out ⟨rfl, rfl, rfl, by simp, fun _ _ => rfl⟩ hsz3) (mix_set HNEW.out.symm)
            · exact dr_o ((((HBL2.out.trans (HS3.out.mono (by omega))).setCell (by simp) _).setCell (by simp) _).setCell (by simp) _) _
            · simp; omega
        · have c0' : wm.cell? ⟨w1.heap.size + 1 + 1, 6, none⟩ = some (.int .i64 x) := c0
          have c1' : wm.cell? ⟨w1.heap.size + 1 + 1, 7, none⟩ = some (.int .i64 y) := c1
          have c2' : wm.cell? ⟨w1.heap.size + 1 + 1, 8, none⟩ = some (.int .i64 z) := c2
          have f0' : wm.frozen? ⟨w1.heap.size + 1 + 1, 6, none⟩ = false := f0
          have f1' : wm.frozen? ⟨w1.heap.size + 1 + 1, 7, none⟩ = false := f1
          have f2' : wm.frozen? ⟨w1.heap.size + 1 + 1, 8, none⟩ = false := f2
          clear c0 c1 c2 f0 f1 f2
          go_wp2_with fail
          refine wp_region_T (Below (w1.heap.size + 1 + 1 + 1) (wm)) 13 (by kernel_rfl) ?_ ?_
          · exact Below.drew (Below.refl _ _)
          intro HS
          refine wpT_takeP 0 (v := ?_) rfl (by kernel_rfl) (fun _ _ _ h => h) (by rfl) ?_ ?_ ?_
          rotate_left
          · (intro W; go_simp; first | done | with_reducible rfl)
          · (first | (intro _; with_reducible assumption) | (intro h0; cases h0))
          try simp only [Act.put, List.setIfInBounds_toArray, List.set_cons_zero, List.set_cons_succ]
          refine wpT_takeP 2 (v := ?_) rfl (by kernel_rfl) (fun _ _ _ h => h) (by rfl) ?_ ?_ ?_
          rotate_left
          · (intro W; go_simp; first | done | with_reducible rfl)
          · (first | (intro _; with_reducible assumption) | (intro h0; cases h0))
          try simp only [Act.put, List.setIfInBounds_toArray, List.set_cons_zero, List.set_cons_succ]
          refine wpT_takeP 3 (v := ?_) rfl (by kernel_rfl) (fun _ _ _ h => h) (by rfl) ?_ ?_ ?_
          rotate_left
          · (intro W; go_simp; first | done | with_reducible rfl)
          · (first | (intro _; with_reducible assumption) | (intro h0; cases h0))
          try simp only [Act.put, List.setIfInBounds_toArray, List.set_cons_zero, List.set_cons_succ]
          refine wpT_takeP 5 (v := ?_) rfl (by kernel_rfl) (fun _ _ _ h => h) (by rfl) ?_ ?_ ?_
          rotate_left
          · (intro W; go_simp; first | done | with_reducible rfl)
          · (first | (intro _; with_reducible assumption) | (intro h0; cases h0))
          try simp only [Act.put, List.setIfInBounds_toArray, List.set_cons_zero, List.set_cons_succ]
          refine wpT_takeP 7 (v := ?_) rfl (by kernel_rfl) (fun _ _ _ h => h) (by rfl) ?_ ?_ ?_
          rotate_left
          · (intro W; go_simp; first | done | with_reducible rfl)
          · (first | (intro _; with_reducible assumption) | (intro h0; cases h0))
          try simp only [Act.put, List.setIfInBounds_toArray, List.set_cons_zero, List.set_cons_succ]
          refine wpT_take 1 30 (v := ?_) rfl (by kernel_rfl) (fun _ _ _ h => h) (by rfl) ?_ HS ?_
          rotate_left
          · (intro W hW; have hq0 := fun o => hW.cell (p := ⟨w1.heap.size, o, none⟩) (by simp <;> omega); have hq1 := fun o => hW.cell (p := ⟨w1.heap.size + 1 + 1, o, none⟩) (by simp <;> omega); go_simp; first | done | with_reducible rfl)
          try simp only [Act.put, List.setIfInBounds_toArray, List.set_cons_zero, List.set_cons_succ]
          refine wpT_take 4 30 (v := ?_) rfl (by kernel_rfl) (fun _ _ _ h => h) (by rfl) ?_ HS ?_
          rotate_left
          · (intro W hW; have hq0 := fun o => hW.cell (p := ⟨w1.heap.size, o, none⟩) (by simp <;> omega); have hq1 := fun o => hW.cell (p := ⟨w1.heap.size + 1 + 1, o, none⟩) (by simp <;> omega); go_simp; first | done | with_reducible rfl)
          try simp only [Act.put, List.setIfInBounds_toArray, List.set_cons_zero, List.set_cons_succ]
          refine wpT_one 6 (by kernel_rfl) rfl (fun K hK => ?_)
          go_simp
          refine (apply39 _ _ _ _ _ _ _ _ _ _ _ _ _ h h' b0 b1 b2 b3 b4 b5 b6 b7 b8 bx by' bz _).mono ?_
          rintro e w2 ⟨rfl, hb2⟩
          replace HS := Below.trans HS (hb2.mono (by have := HS.size; simp at this ⊢ <;> omega))
          clear hb2
          refine hK.out _ _ ?_ ?_
          · (first | (intro _; with_reducible assumption) | (intro h0; cases h0))
          clear hK K
          try simp only [Act.put, List.setIfInBounds_toArray, List.set_cons_zero, List.set_cons_succ]
          refine wpT_one 8 (by kernel_rfl) rfl (fun K hK => ?_)
          go_simp
          refine (plain36e _ _ _ _ _ _ _ _ HU.out HZB.out h h' _).mono ?_
          rintro e w3 ⟨rfl, hb3⟩
          replace HS := Below.trans HS (hb3.mono (by have := HS.size; simp at this ⊢ <;> omega))
          clear hb3
          have hw3 : ∀ o, w3.cell? ⟨w1.heap.size + 1 + 1, o, none⟩ = wm.cell? ⟨w1.heap.size + 1 + 1, o, none⟩ := fun o => HS.cell (p := ⟨w1.heap.size + 1 + 1, o, none⟩) (by simp <;> omega)
          have hv3 : ∀ o, w3.frozen? ⟨w1.heap.size + 1 + 1, o, none⟩ = wm.frozen? ⟨w1.heap.size + 1 + 1, o, none⟩ := fun o => HS.frozen (p := ⟨w1.heap.size + 1 + 1, o, none⟩) (by simp <;> omega)
          have hx3 : ∀ o, w3.cell? ⟨w1.heap.size + 1, o, none⟩ = wm.cell? ⟨w1.heap.size + 1, o, none⟩ := fun o => HS.cell (p := ⟨w1.heap.size + 1, o, none⟩) (by simp <;> omega)
          refine hK.out _ _ ?_ ?_
          · (first | (intro _; with_reducible assumption) | (intro h0; cases h0))
          clear hK K
          try simp only [Act.put, List.setIfInBounds_toArray, List.set_cons_zero, List.set_cons_succ]
          refine wpT_takeP 9 (v := ?_) rfl (by kernel_rfl) (fun _ _ _ h => h) (by rfl) ?_ ?_ ?_
          rotate_left
          · (intro W; go_simp; first | done | with_reducible rfl)
          · (first | (intro _; with_reducible assumption) | (intro h0; cases h0))
          try simp only [Act.put, List.setIfInBounds_toArray, List.set_cons_zero, List.set_cons_succ]
          refine wpT_takeP 10 (v := ?_) rfl (by kernel_rfl) (fun _ _ _ h => h) (by rfl) ?_ ?_ ?_
          rotate_left
          · (intro W; go_simp; first | done | with_reducible rfl)
          · (first | (intro _; with_reducible assumption) | (intro h0; cases h0))
          try simp only [Act.put, List.setIfInBounds_toArray, List.set_cons_zero, List.set_cons_succ]
          refine wpT_takeP 11 (v := ?_) rfl (by kernel_rfl) (fun _ _ _ h => h) (by rfl) ?_ ?_ ?_
          rotate_left
          · (intro W; go_simp; first | done | with_reducible rfl)
          · (first | (intro _; with_reducible assumption) | (intro h0; cases h0))
          try simp only [Act.put, List.setIfInBounds_toArray, List.set_cons_zero, List.set_cons_succ]
          refine wpT_takeP 12 (v := ?_) rfl (by kernel_rfl) (fun _ _ _ h => h) (by rfl) ?_ ?_ ?_
          rotate_left
          · (intro W; go_simp; first | done | with_reducible rfl)
          · (first | (intro _; with_reducible assumption) | (intro h0; cases h0))
          try simp only [Act.put, List.setIfInBounds_toArray, List.set_cons_zero, List.set_cons_succ]
          refine wpT_one 13 (by kernel_rfl) rfl (fun K hK => ?_)
          go_simp
          refine hK.out _ _ ?_ ?_
          · (intro h0; cases h0)
          clear hK K
          try simp only [Act.put, List.setIfInBounds_toArray, List.set_cons_zero, List.set_cons_succ]
          refine wpT_done (by kernel_rfl) ?_ _
          have HS3 := Lib.hid HS
          clear HS
          have HA3 := Lib.hid ((AtIs.below HAT2.out HS3.out (by omega)).set 2 (by omega) u0 u1 u2)
          have hsz3 : w1.heap.size + 1 + 1 < w3.heap.size := Nat.lt_of_lt_of_le hgs2 HS3.out.size
          cases hbk : bk (stp p A0 A1 A2 A3 A4 A5 A6 A7 A8) n 2
          · go_wp2_with fail
            go_quiet (fail)
            go_wp2
            refine ⟨⟨3, by omega, rfl, ?_, ?_, ?_, ?_⟩, by simp [intOf]⟩
            · rw [bk_succ, hbk]; rfl
            · exact AtIs.congr (AtIs.below (B := w3.heap.size) HA3.out ⟨rfl, rfl, rfl, by simp, fun _ _ => rfl⟩ hsz3) (mix_set HNEW.out.symm)
            · exact dr_o ((((HBL2.out.trans (HS3.out.mono (by omega))).setCell (by simp) _).setCell (by simp) _).setCell (by simp) _) _
            · simp; omega
          · go_wp2_with fail
            go_quiet (fail)
            go_wp2
            refine ⟨⟨3, by omega, rfl, ?_, ?_, ?_, ?_⟩, by simp [intOf]⟩
            · rw [bk_succ, hbk, HNEW.out]; rfl
            · exact AtIs.congr (AtIs.below (B := w3.heap.size) HA3.out ⟨rfl, rfl, rfl, by simp, fun _ _ => rfl⟩ hsz3) (mix_set HNEW.out.symm)
            · exact dr_o ((((HBL2.out.trans (HS3.out.mono (by omega))).setCell (by simp) _).setCell (by simp) _).setCell (by simp) _) _
            · simp; omega
        · have c0' : wm.cell? ⟨w1.heap.size + 1 + 1, 9, none⟩ = some (.int .i64 x) := c0
          have c1' : wm.cell? ⟨w1.heap.size + 1 + 1, 10, none⟩ = some (.int .i64 y) := c1
          have c2' : wm.cell? ⟨w1.heap.size + 1 + 1, 11, none⟩ = some (.int .i64 z) := c2
          have f0' : wm.frozen? ⟨w1.heap.size + 1 + 1, 9, none⟩ = false := f0
          have f1' : wm.frozen? ⟨w1.heap.size + 1 + 1, 10, none⟩ = false := f1
          have f2' : wm.frozen? ⟨w1.heap.size + 1 + 1, 11, none⟩ = false := f2
          clear c0 c1 c2 f0 f1 f2
          go_wp2_with fail
          refine wp_region_T (Below (w1.heap.size + 1 + 1 + 1) (wm)) 13 (by kernel_rfl) ?_ ?_
          · exact Below.drew (Below.refl _ _)
          intro HS
          refine wpT_takeP 0 (v := ?_) rfl (by kernel_rfl) (fun _ _ _ h => h) (by rfl) ?_ ?_ ?_
          rotate_left
          · (intro W; go_simp; first | done | with_reducible rfl)
          · (first | (intro _; with_reducible assumption) | (intro h0; cases h0))
          try simp only [Act.put, List.setIfInBounds_toArray, List.set_cons_zero, List.set_cons_succ]
          refine wpT_takeP 2 (v := ?_) rfl (by kernel_rfl) (fun _ _ _ h => h) (by rfl) ?_ ?_ ?_
          rotate_left
          · (intro W; go_simp; first | done | with_reducible rfl)
          · (first | (intro _; with_reducible assumption) | (intro h0; cases h0))
          try simp only [Act.put, List.setIfInBounds_toArray, List.set_cons_zero, List.set_cons_succ]
          refine wpT_takeP 3 (v := ?_) rfl (by kernel_rfl) (fun _ _ _ h => h) (by rfl) ?_ ?_ ?_
          rotate_left
          · (intro W; go_simp; first | done | with_reducible rfl)
          · (first | (intro _; with_reducible assumption) | (intro h0; cases h0))
          try simp only [Act.put, List.setIfInBounds_toArray, List.set_cons_zero, List.set_cons_succ]
          refine wpT_takeP 5 (v := ?_) rfl (by kernel_rfl) (fun _ _ _ h => h) (by rfl) ?_ ?_ ?_
          rotate_left
          · (intro W; go_simp; first | done | with_reducible rfl)
          · (first | (intro _; with_reducible assumption) | (intro h0; cases h0))
          try simp only [Act.put, List.setIfInBounds_toArray, List.set_cons_zero, List.set_cons_succ]
          refine wpT_takeP 7 (v := ?_) rfl (by kernel_rfl) (fun _ _ _ h => h) (by rfl) ?_ ?_ ?_
          rotate_left
          · (intro W; go_simp; first | done | with_reducible rfl)
          · (first | (intro _; with_reducible assumption) | (intro h0; cases h0))
          try simp only [Act.put, List.setIfInBounds_toArray, List.set_cons_zero, List.set_cons_succ]
          refine wpT_take 1 30 (v := ?_) rfl (by kernel_rfl) (fun _ _ _ h => h) (by rfl) ?_ HS ?_
          rotate_left
          · (intro W hW; have hq0 := fun o => hW.cell (p := ⟨w1.heap.size, o, none⟩) (by simp <;> omega); have hq1 := fun o => hW.cell (p := ⟨w1.heap.size + 1 + 1, o, none⟩) (by simp <;> omega); go_simp; first | done | with_reducible rfl)
          try simp only [Act.put, List.setIfInBounds_toArray, List.set_cons_zero, List.set_cons_succ]
          refine wpT_take 4 30 (v := ?_) rfl (by kernel_rfl) (fun _ _ _ h => h) (by rfl) ?_ HS ?_
          rotate_left
          · (intro W hW; have hq0 := fun o => hW.cell (p := ⟨w1.heap.size, o, none⟩) (by simp <;> omega); have hq1 := fun o => hW.cell (p := ⟨w1.heap.size + 1 + 1, o, none⟩) (by simp <;> omega); go_simp; first | done | with_reducible rfl)
          try simp only [Act.put, List.setIfInBounds_toArray, List.set_cons_zero, List.set_cons_succ]
          refine wpT_one 6 (by kernel_rfl) rfl (fun K hK => ?_)
          go_simp
          refine (apply39 _ _ _ _ _ _ _ _ _ _ _ _ _ h h' b0 b1 b2 b3 b4 b5 b6 b7 b8 bx by' bz _).mono ?_
          rintro e w2 ⟨rfl, hb2⟩
          replace HS := Below.trans HS (hb2.mono (by have := HS.size; simp at this ⊢ <;> omega))
          clear hb2
          refine hK.out _ _ ?_ ?_
          · (first | (intro _; with_reducible assumption) | (intro h0; cases h0))
          clear hK K
          try simp only [Act.put, List.setIfInBounds_toArray, List.set_cons_zero, List.set_cons_succ]
          refine wpT_one 8 (by kernel_rfl) rfl (fun K hK => ?_)
          go_simp
          refine (plain36e _ _ _ _ _ _ _ _ HU.out HZB.out h h' _).mono ?_
          rintro e w3 ⟨rfl, hb3⟩
          replace HS := Below.trans HS (hb3.mono (by have := HS.size; simp at this ⊢ <;> omega))
          clear hb3
          have hw3 : ∀ o, w3.cell? ⟨w1.heap.size + 1 + 1, o, none⟩ = wm.cell? ⟨w1.heap.size + 1 + 1, o, none⟩ := fun o => HS.cell (p := ⟨w1.heap.size + 1 + 1, o, none⟩) (by simp <;> omega)
          have hv3 : ∀ o, w3.frozen? ⟨w1.heap.size + 1 + 1, o, none⟩ = wm.frozen? ⟨w1.heap.size + 1 + 1, o, none⟩ := fun o => HS.frozen (p := ⟨w1.heap.size + 1 + 1, o, none⟩) (by simp <;> omega)
          have hx3 : ∀ o, w3.cell? ⟨w1.heap.size + 1, o, none⟩ = wm.cell? ⟨w1.heap.size + 1, o, none⟩ := fun o => HS.cell (p := ⟨w1.heap.size + 1, o, none⟩) (by simp <;> omega)
          refine hK.out _ _ ?_ ?_
          · (first | (intro _; with_reducible assumption) | (intro h0; cases h0))
          clear hK K
          try simp only [Act.put, List.setIfInBounds_toArray, List.set_cons_zero, List.set_cons_succ]
          refine wpT_takeP 9 (v := ?_) rfl (by kernel_rfl) (fun _ _ _ h => h) (by rfl) ?_ ?_ ?_
          rotate_left
          · (intro W; go_simp; first | done | with_reducible rfl)
          · (first | (intro _; with_reducible assumption) | (intro h0; cases h0))
          try simp only [Act.put, List.setIfInBounds_toArray, List.set_cons_zero, List.set_cons_succ]
          refine wpT_takeP 10 (v := ?_) rfl (by kernel_rfl) (fun _ _ _ h => h) (by rfl) ?_ ?_ ?_
          rotate_left
          · (intro W; go_simp; first | done | with_reducible rfl)
          · (first | (intro _; with_reducible assumption) | (intro h0; cases h0))
          try simp only [Act.put, List.setIfInBounds_toArray, List.set_cons_zero, List.set_cons_succ]
          refine wpT_takeP 11 (v := ?_) rfl (by kernel_rfl) (fun _ _ _ h => h) (by rfl) ?_ ?_ ?_
          rotate_left
          · (intro W; go_simp; first | done | with_reducible rfl)
          · (first | (intro _; with_reducible assumption) | (intro h0; cases h0))
          try simp only [Act.put, List.setIfInBounds_toArray, List.set_cons_zero, List.set_cons_succ]
          refine wpT_takeP 12 (v := ?_) rfl (by kernel_rfl) (fun _ _ _ h => h) (by rfl) ?_ ?_ ?_
          rotate_left
          · (intro W; go_simp; first | done | with_reducible rfl)
          · (first | (intro _; with_reducible assumption) | (intro h0; cases h0))
          try simp only [Act.put, List.setIfInBounds_toArray, List.set_cons_zero, List.set_cons_succ]
          refine wpT_one 13 (by kernel_rfl) rfl (fun K hK => ?_)
          go_simp
          refine hK.out _ _ ?_ ?_
          · (intro h0; cases h0)
          clear hK K
          try simp only [Act.put, List.setIfInBounds_toArray, List.set_cons_zero, List.set_cons_succ]
          refine wpT_done (by kernel_rfl) ?_ _
          have HS3 := Lib.hid HS
          clear HS
          have HA3 := Lib.hid ((AtIs.below HAT2.out HS3.out (by omega)).set 3 (by omega) u0 u1 u2)
          have hsz3 : w1.heap.size + 1 + 1 < w3.heap.size := Nat.lt_of_lt_of_le hgs2 HS3.out.size
          cases hbk : bk (stp p A0 A1 A2 A3 A4 A5 A6 A7 A8) n 3
          · go_wp2_with fail
            go_quiet (fail)
            go_wp2
            refine ⟨⟨4, by omega, rfl, ?_, ?_, ?_, ?_⟩, by simp [intOf]⟩
            · rw [bk_succ, hbk]; rfl
            · exact AtIs.congr (AtIs.below (B := w3.heap.size) HA3.out ⟨rfl, rfl, rfl, by simp, fun _ _ => rfl⟩ hsz3) (mix_set HNEW.out.symm)
            · exact dr_o ((((HBL2.out.trans (HS3.out.mono (by omega))).setCell (by simp) _).setCell (by simp) _).setCell (by simp) _) _
            · simp; omega
          · go_wp2_with fail
            go_quiet (fail)
            go_wp2
            refine ⟨⟨4, by omega, rfl, ?_, ?_, ?_, ?_⟩, by simp [intOf]⟩
            · rw [bk_succ, hbk, HNEW.out]; rfl
            · exact AtIs.congr (AtIs.below (B := w3.heap.size) HA3.out ⟨rfl, rfl, rfl, by simp, fun _ _ => rfl⟩ hsz3) (mix_set HNEW.out.symm)
            · exact dr_o ((((HBL2.out.trans (HS3.out.mono (by omega))).setCell (by simp) _).setCell (by simp) _).setCell (by simp) _) _
            · simp; omega

      · have hm4 : m = 4 := by omega
        subst hm4
        by_cases hnN : n = N
        · subst hnN
          have hb := hback.out
          rw [hb]
          go_wp2
          go_ret2
          exact ⟨rfl, (ba_b (ba_b HB1.out (Nat.le_refl _) _) (Nat.le_refl _) _).trans (hbl.mono (by omega))⟩
        · have hb := hmin.out n hn1 (by omega)
          rw [hb]
          go_wp2
          exact ⟨⟨n + 1, by omega, by omega, by go_num, hat.congr mix_done, hbl, hgs2⟩, by simp [intOf]; omega⟩

end Go.Proofs.Ytfdbkocpljiehaa
