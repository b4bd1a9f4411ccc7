/- Walks: plainF returns the plain form, by the leading coordinate. -/
import Derived.Test.YtfdbkocpljiehaaWc
import Derived.StillTailTactics
import Derived.Deep.RegionHeld3
import Derived.Deep.DeepCutAuto
namespace Go.Proofs.Ytfdbkocpljiehaa
open Go.RowKit

theorem mod13s (x p : Int) (h : 2 ≤ p) (h' : p ≤ 13) (w : World) :
    Calls Try.prog 13 #[.int .i64 x, .int .i64 p] w fun e w' => e = .returned (.int .i64 (x % p)) ∧ w' = w :=
  (mod13 x p h h' w).mono fun _ _ ⟨he, hw⟩ => ⟨he, hw.symm⟩
theorem mod42s (x p : Int) (h : 2 ≤ p) (h' : p ≤ 13) (w : World) :
    Calls Try.prog 42 #[.int .i64 x, .int .i64 p] w fun e w' => e = .returned (.int .i64 (x % p)) ∧ w' = w :=
  (mod42 x p h h' w).mono fun _ _ ⟨he, hw⟩ => ⟨he, hw.symm⟩

/-- the world when the search of plainF begins -/
def W21 (w : World) (A B C : Int) : World := (w.alloc (.cells #[.int .i64 A, .int .i64 B, .int .i64 C] 27)).alloc (.cells #[.int .i64 0, .int .i64 0, .int .i64 0] 27)

set_option maxRecDepth 100000 in
set_option maxHeartbeats 1000000 in
theorem plainF21_a (a b c p : Int) (h : 2 ≤ p) (h' : p ≤ 13)  (hov : 1 ≤ ov p (a % p)) (w : World)
    (hnz : ∀ k : Int, 1 ≤ k → k < p → (a % p * k % p == 0) = false) :
    Calls Try.prog 21 #[.agg #[.int .i64 a, .int .i64 b, .int .i64 c], .int .i64 p] w fun e w' =>
      e = .returned (.tuple #[.agg #[.int .i64 (a % p * ov p (a % p) % p), .int .i64 (b % p * ov p (a % p) % p), .int .i64 (c % p * ov p (a % p) % p)], .bool true]) ∧ Below w.heap.size w w' := by
  have ba := em13 a p h h'
  have bb := em13 b p h h'
  have bc := em13 c p h h'
  have Hnz := Lib.hid hnz
  clear hnz
  go_enter Try.func21, Try.ntmps21
  go_wp2
  refine wp_loop_rounds 4 ?_
  repeat any_goals (rw [rounds_succ]; go_wp2_with (go_at_call 13; refine (mod13 _ _ (by omega) (by omega) _).mono ?_; rintro e w' ⟨rfl, rfl⟩))
  generalize hA : a % p = A at *
  generalize hB : b % p = B at *
  generalize hC : c % p = C at *
  have HA := Lib.hid hA
  have HB := Lib.hid hB
  have HC := Lib.hid hC
  clear hA hB hC
  go_loopw [7] (fun i wr => ∃ k : Int, 1 ≤ k ∧ k ≤ p ∧ i = .int .i64 k ∧ Hid (ov p A = fi p A (p - k).toNat k) ∧ Below (w.heap.size + 2) (W21 w A B C) wr) (fun i _ => (p - intOf i).toNat)
  case atStart => exact ⟨1, by omega, by omega, rfl, rfl, Below.refl _ _⟩
  case round =>
    obtain ⟨k, hk1, hk2, rfl, hk, hb⟩ := hrel
    have hc0 : wr.cell? ⟨w.heap.size, 0, none⟩ = some (.int .i64 A) := by rw [hb.cell (by simp)]; simp [W21]
    have hc1 : wr.cell? ⟨w.heap.size, 1, none⟩ = some (.int .i64 B) := by rw [hb.cell (by simp)]; simp [W21]
    have hc2 : wr.cell? ⟨w.heap.size, 2, none⟩ = some (.int .i64 C) := by rw [hb.cell (by simp)]; simp [W21]
    by_cases hlt : k < p
    · skip
      obtain ⟨m1, m2⟩ := mb ba (show -13 ≤ k ∧ k ≤ 13 by omega)
      obtain ⟨m3, m4⟩ := mb bb (show -13 ≤ k ∧ k ≤ 13 by omega)
      obtain ⟨m5, m6⟩ := mb bc (show -13 ≤ k ∧ k ≤ 13 by omega)
      have hz := Hnz.out k hk1 hlt
      go_upto_region 9 with fail
      go_cut [8] (fun s8 wx => ∃ g : Nat, s8 = .pointer (some ⟨g, 0, none⟩) ∧ w.heap.size + 2 ≤ g ∧ wx.cell? ⟨g, 0, none⟩ = some (.int .i64 (A * k % p)) ∧ wx.cell? ⟨g, 1, none⟩ = some (.int .i64 (B * k % p)) ∧ wx.cell? ⟨g, 2, none⟩ = some (.int .i64 (C * k % p)) ∧ Below (w.heap.size + 2) (W21 w A B C) wx)
      case first =>
        have hsz : w.heap.size + 2 ≤ wr.heap.size := by have := hb.size; simp [W21] at this; omega
        have e0 : IntKind.i64.wrap (A * k) = A * k := IntWalk.i64_in _ (by omega)
        have e1 : IntKind.i64.wrap (B * k) = B * k := IntWalk.i64_in _ (by omega)
        have e2 : IntKind.i64.wrap (C * k) = C * k := IntWalk.i64_in _ (by omega)
        go_region_held3 (fun w' => w'.cell? ⟨w.heap.size, 0, none⟩ = some (.int .i64 A) ∧ w'.cell? ⟨w.heap.size, 1, none⟩ = some (.int .i64 B) ∧ w'.cell? ⟨w.heap.size, 2, none⟩ = some (.int .i64 C)) (go_keep) (first | (go_at_call 13; refine (mod13 _ _ (by omega) (by omega) _).mono ?_; rintro e w' ⟨rfl, rfl⟩))
        all_goals (go_wp2_with fail; go_meet; exact ⟨_, rfl, hsz, by simp [*], by simp [*], by simp [*], (Below.drew hb).alloc (by simp; omega) _⟩)
      case rest =>
        obtain ⟨g, rfl, hg, hg0, hg1, hg2, hbc⟩ := hcut
        clear hc0 hc1 hc2
        have hr0 : wc.cell? ⟨w.heap.size + 1, 0, none⟩ = some (.int .i64 0) := by rw [hbc.cell (by simp)]; simp [W21]
        have hr1 : wc.cell? ⟨w.heap.size + 1, 1, none⟩ = some (.int .i64 0) := by rw [hbc.cell (by simp)]; simp [W21]
        have hr2 : wc.cell? ⟨w.heap.size + 1, 2, none⟩ = some (.int .i64 0) := by rw [hbc.cell (by simp)]; simp [W21]
        have hf0 : wc.frozen? ⟨w.heap.size + 1, 0, none⟩ = false := by rw [hbc.frozen (by simp)]; simp [W21]
        have hf1 : wc.frozen? ⟨w.heap.size + 1, 1, none⟩ = false := by rw [hbc.frozen (by simp)]; simp [W21]
        have hf2 : wc.frozen? ⟨w.heap.size + 1, 2, none⟩ = false := by rw [hbc.frozen (by simp)]; simp [W21]
        have hfk : (p - k).toNat = (p - (k + 1)).toNat + 1 := by omega
        have HW := Lib.hid (show Below w.heap.size w wc from (((Below.refl _ _).alloc (by simp) _).alloc (by simp) _).trans (hbc.mono (by omega)))
        by_cases h1 : A * k % p = 1
        · have H1 := Lib.hid h1
          have hov1 : ov p A = k := by rw [hk.out, hfk, fi, if_pos h1]
          have HO := Lib.hid hov1
          have h2 : (A * k % p == 1) = true := by simp [h1]
          clear h1 hov1 hov
          go_wp2_with fail
          refine wp_loop_rounds 4 ?_
          repeat any_goals (rw [rounds_succ]; go_wp2)
          refine bodyPost_ret (v := .tuple #[.agg #[.int .i64 (A * k % p), .int .i64 (B * k % p), .int .i64 (C * k % p)], .bool true]) (by simp [results, Try.results21, go_sem, hr0, hr1, hr2]) rfl ?_
          exact ⟨by rw [HA.out, HB.out, HC.out, HO.out], ((HW.out.setCell (by simp) _).setCell (by simp) _).setCell (by simp) _⟩
        · have H1 := Lib.hid h1
          have h2 : (A * k % p == 1) = false := by simp [h1]
          clear h1
          go_wp2_with fail
          refine wp_loop_rounds 4 ?_
          repeat any_goals (rw [rounds_succ]; go_wp2)
          exact ⟨⟨k + 1, by omega, by omega, rfl, by rw [hk.out, hfk, fi, if_neg H1.out]; rfl, hbc⟩, by simp [intOf]; omega⟩
    · exfalso
      rw [hk.out, show (p - k).toNat = 0 by omega] at hov
      simp [fi] at hov

set_option maxRecDepth 100000 in
set_option maxHeartbeats 1000000 in
theorem plainF21_b (a b c p : Int) (h : 2 ≤ p) (h' : p ≤ 13) (hza : a % p = 0) (hov : 1 ≤ ov p (b % p)) (w : World)
    (hnz : ∀ k : Int, 1 ≤ k → k < p → (b % p * k % p == 0) = false) :
    Calls Try.prog 21 #[.agg #[.int .i64 a, .int .i64 b, .int .i64 c], .int .i64 p] w fun e w' =>
      e = .returned (.tuple #[.agg #[.int .i64 0, .int .i64 (b % p * ov p (b % p) % p), .int .i64 (c % p * ov p (b % p) % p)], .bool true]) ∧ Below w.heap.size w w' := by
  have bb := em13 b p h h'
  have bc := em13 c p h h'
  have Hnz := Lib.hid hnz
  clear hnz
  go_enter Try.func21, Try.ntmps21
  go_wp2
  refine wp_loop_rounds 4 ?_
  repeat any_goals (rw [rounds_succ]; go_wp2_with (go_at_call 13; refine (mod13 _ _ (by omega) (by omega) _).mono ?_; rintro e w' ⟨rfl, rfl⟩))
  have HZA := Lib.hid hza
  clear hza
  generalize hB : b % p = B at *
  generalize hC : c % p = C at *
  have HB := Lib.hid hB
  have HC := Lib.hid hC
  clear hB hC
  go_loopw [7] (fun i wr => ∃ k : Int, 1 ≤ k ∧ k ≤ p ∧ i = .int .i64 k ∧ Hid (ov p B = fi p B (p - k).toNat k) ∧ Below (w.heap.size + 2) (W21 w 0 B C) wr) (fun i _ => (p - intOf i).toNat)
  case atStart => exact ⟨1, by omega, by omega, rfl, rfl, Below.refl _ _⟩
  case round =>
    obtain ⟨k, hk1, hk2, rfl, hk, hb⟩ := hrel
    have hc0 : wr.cell? ⟨w.heap.size, 0, none⟩ = some (.int .i64 0) := by rw [hb.cell (by simp)]; simp [W21]
    have hc1 : wr.cell? ⟨w.heap.size, 1, none⟩ = some (.int .i64 B) := by rw [hb.cell (by simp)]; simp [W21]
    have hc2 : wr.cell? ⟨w.heap.size, 2, none⟩ = some (.int .i64 C) := by rw [hb.cell (by simp)]; simp [W21]
    by_cases hlt : k < p
    · skip
      obtain ⟨m3, m4⟩ := mb bb (show -13 ≤ k ∧ k ≤ 13 by omega)
      obtain ⟨m5, m6⟩ := mb bc (show -13 ≤ k ∧ k ≤ 13 by omega)
      have hz := Hnz.out k hk1 hlt
      go_upto_region 9 with fail
      go_cut [8] (fun s8 wx => ∃ g : Nat, s8 = .pointer (some ⟨g, 0, none⟩) ∧ w.heap.size + 2 ≤ g ∧ wx.cell? ⟨g, 0, none⟩ = some (.int .i64 0) ∧ wx.cell? ⟨g, 1, none⟩ = some (.int .i64 (B * k % p)) ∧ wx.cell? ⟨g, 2, none⟩ = some (.int .i64 (C * k % p)) ∧ Below (w.heap.size + 2) (W21 w 0 B C) wx)
      case first =>
        have hsz : w.heap.size + 2 ≤ wr.heap.size := by have := hb.size; simp [W21] at this; omega
        have e1 : IntKind.i64.wrap (B * k) = B * k := IntWalk.i64_in _ (by omega)
        have e2 : IntKind.i64.wrap (C * k) = C * k := IntWalk.i64_in _ (by omega)
        have ez : IntKind.i64.wrap 0 % p = 0 := by rw [IntWalk.i64_in 0 (by omega)]; exact Int.zero_emod p
        go_region_held3 (fun w' => w'.cell? ⟨w.heap.size, 0, none⟩ = some (.int .i64 0) ∧ w'.cell? ⟨w.heap.size, 1, none⟩ = some (.int .i64 B) ∧ w'.cell? ⟨w.heap.size, 2, none⟩ = some (.int .i64 C)) (go_keep) (first | (go_at_call 13; refine (mod13 _ _ (by omega) (by omega) _).mono ?_; rintro e w' ⟨rfl, rfl⟩))
        all_goals (go_wp2_with fail; go_meet; exact ⟨_, rfl, hsz, by simp [*], by simp [*], by simp [*], (Below.drew hb).alloc (by simp; omega) _⟩)
      case rest =>
        obtain ⟨g, rfl, hg, hg0, hg1, hg2, hbc⟩ := hcut
        clear hc0 hc1 hc2
        have hr0 : wc.cell? ⟨w.heap.size + 1, 0, none⟩ = some (.int .i64 0) := by rw [hbc.cell (by simp)]; simp [W21]
        have hr1 : wc.cell? ⟨w.heap.size + 1, 1, none⟩ = some (.int .i64 0) := by rw [hbc.cell (by simp)]; simp [W21]
        have hr2 : wc.cell? ⟨w.heap.size + 1, 2, none⟩ = some (.int .i64 0) := by rw [hbc.cell (by simp)]; simp [W21]
        have hf0 : wc.frozen? ⟨w.heap.size + 1, 0, none⟩ = false := by rw [hbc.frozen (by simp)]; simp [W21]
        have hf1 : wc.frozen? ⟨w.heap.size + 1, 1, none⟩ = false := by rw [hbc.frozen (by simp)]; simp [W21]
        have hf2 : wc.frozen? ⟨w.heap.size + 1, 2, none⟩ = false := by rw [hbc.frozen (by simp)]; simp [W21]
        have hfk : (p - k).toNat = (p - (k + 1)).toNat + 1 := by omega
        have HW := Lib.hid (show Below w.heap.size w wc from (((Below.refl _ _).alloc (by simp) _).alloc (by simp) _).trans (hbc.mono (by omega)))
        by_cases h1 : B * k % p = 1
        · have H1 := Lib.hid h1
          have hov1 : ov p B = k := by rw [hk.out, hfk, fi, if_pos h1]
          have HO := Lib.hid hov1
          have h2 : (B * k % p == 1) = true := by simp [h1]
          clear h1 hov1 hov
          go_wp2_with fail
          refine wp_loop_rounds 4 ?_
          repeat any_goals (rw [rounds_succ]; go_wp2)
          refine bodyPost_ret (v := .tuple #[.agg #[.int .i64 0, .int .i64 (B * k % p), .int .i64 (C * k % p)], .bool true]) (by simp [results, Try.results21, go_sem, hr0, hr1, hr2]) rfl ?_
          exact ⟨by rw [HB.out, HC.out, HO.out], ((HW.out.setCell (by simp) _).setCell (by simp) _).setCell (by simp) _⟩
        · have H1 := Lib.hid h1
          have h2 : (B * k % p == 1) = false := by simp [h1]
          clear h1
          go_wp2_with fail
          refine wp_loop_rounds 4 ?_
          repeat any_goals (rw [rounds_succ]; go_wp2)
          exact ⟨⟨k + 1, by omega, by omega, rfl, by rw [hk.out, hfk, fi, if_neg H1.out]; rfl, hbc⟩, by simp [intOf]; omega⟩
    · exfalso
      rw [hk.out, show (p - k).toNat = 0 by omega] at hov
      simp [fi] at hov

set_option maxRecDepth 100000 in
set_option maxHeartbeats 1000000 in
theorem plainF21_c (a b c p : Int) (h : 2 ≤ p) (h' : p ≤ 13) (hza : a % p = 0) (hzb : b % p = 0) (hov : 1 ≤ ov p (c % p)) (w : World)
    (hnz : ∀ k : Int, 1 ≤ k → k < p → (c % p * k % p == 0) = false) :
    Calls Try.prog 21 #[.agg #[.int .i64 a, .int .i64 b, .int .i64 c], .int .i64 p] w fun e w' =>
      e = .returned (.tuple #[.agg #[.int .i64 0, .int .i64 0, .int .i64 (c % p * ov p (c % p) % p)], .bool true]) ∧ Below w.heap.size w w' := by
  have bc := em13 c p h h'
  have Hnz := Lib.hid hnz
  clear hnz
  go_enter Try.func21, Try.ntmps21
  go_wp2
  refine wp_loop_rounds 4 ?_
  repeat any_goals (rw [rounds_succ]; go_wp2_with (go_at_call 13; refine (mod13 _ _ (by omega) (by omega) _).mono ?_; rintro e w' ⟨rfl, rfl⟩))
  have HZA := Lib.hid hza
  have HZB := Lib.hid hzb
  clear hza hzb
  generalize hC : c % p = C at *
  have HC := Lib.hid hC
  clear hC
  go_loopw [7] (fun i wr => ∃ k : Int, 1 ≤ k ∧ k ≤ p ∧ i = .int .i64 k ∧ Hid (ov p C = fi p C (p - k).toNat k) ∧ Below (w.heap.size + 2) (W21 w 0 0 C) wr) (fun i _ => (p - intOf i).toNat)
  case atStart => exact ⟨1, by omega, by omega, rfl, rfl, Below.refl _ _⟩
  case round =>
    obtain ⟨k, hk1, hk2, rfl, hk, hb⟩ := hrel
    have hc0 : wr.cell? ⟨w.heap.size, 0, none⟩ = some (.int .i64 0) := by rw [hb.cell (by simp)]; simp [W21]
    have hc1 : wr.cell? ⟨w.heap.size, 1, none⟩ = some (.int .i64 0) := by rw [hb.cell (by simp)]; simp [W21]
    have hc2 : wr.cell? ⟨w.heap.size, 2, none⟩ = some (.int .i64 C) := by rw [hb.cell (by simp)]; simp [W21]
    by_cases hlt : k < p
    · skip
      obtain ⟨m5, m6⟩ := mb bc (show -13 ≤ k ∧ k ≤ 13 by omega)
      have hz := Hnz.out k hk1 hlt
      go_upto_region 9 with fail
      go_cut [8] (fun s8 wx => ∃ g : Nat, s8 = .pointer (some ⟨g, 0, none⟩) ∧ w.heap.size + 2 ≤ g ∧ wx.cell? ⟨g, 0, none⟩ = some (.int .i64 0) ∧ wx.cell? ⟨g, 1, none⟩ = some (.int .i64 0) ∧ wx.cell? ⟨g, 2, none⟩ = some (.int .i64 (C * k % p)) ∧ Below (w.heap.size + 2) (W21 w 0 0 C) wx)
      case first =>
        have hsz : w.heap.size + 2 ≤ wr.heap.size := by have := hb.size; simp [W21] at this; omega
        have e2 : IntKind.i64.wrap (C * k) = C * k := IntWalk.i64_in _ (by omega)
        have ez : IntKind.i64.wrap 0 % p = 0 := by rw [IntWalk.i64_in 0 (by omega)]; exact Int.zero_emod p
        go_region_held3 (fun w' => w'.cell? ⟨w.heap.size, 0, none⟩ = some (.int .i64 0) ∧ w'.cell? ⟨w.heap.size, 1, none⟩ = some (.int .i64 0) ∧ w'.cell? ⟨w.heap.size, 2, none⟩ = some (.int .i64 C)) (go_keep) (first | (go_at_call 13; refine (mod13 _ _ (by omega) (by omega) _).mono ?_; rintro e w' ⟨rfl, rfl⟩))
        all_goals (go_wp2_with fail; go_meet; exact ⟨_, rfl, hsz, by simp [*], by simp [*], by simp [*], (Below.drew hb).alloc (by simp; omega) _⟩)
      case rest =>
        obtain ⟨g, rfl, hg, hg0, hg1, hg2, hbc⟩ := hcut
        clear hc0 hc1 hc2
        have hr0 : wc.cell? ⟨w.heap.size + 1, 0, none⟩ = some (.int .i64 0) := by rw [hbc.cell (by simp)]; simp [W21]
        have hr1 : wc.cell? ⟨w.heap.size + 1, 1, none⟩ = some (.int .i64 0) := by rw [hbc.cell (by simp)]; simp [W21]
        have hr2 : wc.cell? ⟨w.heap.size + 1, 2, none⟩ = some (.int .i64 0) := by rw [hbc.cell (by simp)]; simp [W21]
        have hf0 : wc.frozen? ⟨w.heap.size + 1, 0, none⟩ = false := by rw [hbc.frozen (by simp)]; simp [W21]
        have hf1 : wc.frozen? ⟨w.heap.size + 1, 1, none⟩ = false := by rw [hbc.frozen (by simp)]; simp [W21]
        have hf2 : wc.frozen? ⟨w.heap.size + 1, 2, none⟩ = false := by rw [hbc.frozen (by simp)]; simp [W21]
        have hfk : (p - k).toNat = (p - (k + 1)).toNat + 1 := by omega
        have HW := Lib.hid (show Below w.heap.size w wc from (((Below.refl _ _).alloc (by simp) _).alloc (by simp) _).trans (hbc.mono (by omega)))
        by_cases h1 : C * k % p = 1
        · have H1 := Lib.hid h1
          have hov1 : ov p C = k := by rw [hk.out, hfk, fi, if_pos h1]
          have HO := Lib.hid hov1
          have h2 : (C * k % p == 1) = true := by simp [h1]
          clear h1 hov1 hov
          go_wp2_with fail
          refine wp_loop_rounds 4 ?_
          repeat any_goals (rw [rounds_succ]; go_wp2)
          refine bodyPost_ret (v := .tuple #[.agg #[.int .i64 0, .int .i64 0, .int .i64 (C * k % p)], .bool true]) (by simp [results, Try.results21, go_sem, hr0, hr1, hr2]) rfl ?_
          exact ⟨by rw [HC.out, HO.out], ((HW.out.setCell (by simp) _).setCell (by simp) _).setCell (by simp) _⟩
        · have H1 := Lib.hid h1
          have h2 : (C * k % p == 1) = false := by simp [h1]
          clear h1
          go_wp2_with fail
          refine wp_loop_rounds 4 ?_
          repeat any_goals (rw [rounds_succ]; go_wp2)
          exact ⟨⟨k + 1, by omega, by omega, rfl, by rw [hk.out, hfk, fi, if_neg H1.out]; rfl, hbc⟩, by simp [intOf]; omega⟩
    · exfalso
      rw [hk.out, show (p - k).toNat = 0 by omega] at hov
      simp [fi] at hov

set_option maxRecDepth 100000 in
set_option maxHeartbeats 1000000 in
theorem plainF21_z (a b c p : Int) (h : 2 ≤ p) (h' : p ≤ 13) (hza : a % p = 0) (hzb : b % p = 0) (hzc : c % p = 0) (w : World) :
    Calls Try.prog 21 #[.agg #[.int .i64 a, .int .i64 b, .int .i64 c], .int .i64 p] w fun e w' =>
      e = .returned (.tuple #[.agg #[.int .i64 0, .int .i64 0, .int .i64 0], .bool false]) ∧ Below w.heap.size w w' := by
  go_enter Try.func21, Try.ntmps21
  go_wp2
  refine wp_loop_rounds 4 ?_
  repeat any_goals (rw [rounds_succ]; go_wp2_with (go_at_call 13; refine (mod13 _ _ (by omega) (by omega) _).mono ?_; rintro e w' ⟨rfl, rfl⟩))
  have HZA := Lib.hid hza
  have HZB := Lib.hid hzb
  have HZC := Lib.hid hzc
  clear hza hzb hzc
  go_loopw [7] (fun i wr => ∃ k : Int, 1 ≤ k ∧ k ≤ p ∧ i = .int .i64 k ∧ Below (w.heap.size + 2) (W21 w 0 0 0) wr) (fun i _ => (p - intOf i).toNat)
  case atStart => exact ⟨1, by omega, by omega, rfl, Below.refl _ _⟩
  case round =>
    obtain ⟨k, hk1, hk2, rfl, hb⟩ := hrel
    have hc0 : wr.cell? ⟨w.heap.size, 0, none⟩ = some (.int .i64 0) := by rw [hb.cell (by simp)]; simp [W21]
    have hc1 : wr.cell? ⟨w.heap.size, 1, none⟩ = some (.int .i64 0) := by rw [hb.cell (by simp)]; simp [W21]
    have hc2 : wr.cell? ⟨w.heap.size, 2, none⟩ = some (.int .i64 0) := by rw [hb.cell (by simp)]; simp [W21]
    by_cases hlt : k < p
    · skip
      go_upto_region 9 with fail
      go_cut [8] (fun s8 wx => ∃ g : Nat, s8 = .pointer (some ⟨g, 0, none⟩) ∧ w.heap.size + 2 ≤ g ∧ wx.cell? ⟨g, 0, none⟩ = some (.int .i64 0) ∧ wx.cell? ⟨g, 1, none⟩ = some (.int .i64 0) ∧ wx.cell? ⟨g, 2, none⟩ = some (.int .i64 0) ∧ Below (w.heap.size + 2) (W21 w 0 0 0) wx)
      case first =>
        have hsz : w.heap.size + 2 ≤ wr.heap.size := by have := hb.size; simp [W21] at this; omega
        have ez : IntKind.i64.wrap 0 % p = 0 := by rw [IntWalk.i64_in 0 (by omega)]; exact Int.zero_emod p
        go_region_held3 (fun w' => w'.cell? ⟨w.heap.size, 0, none⟩ = some (.int .i64 0) ∧ w'.cell? ⟨w.heap.size, 1, none⟩ = some (.int .i64 0) ∧ w'.cell? ⟨w.heap.size, 2, none⟩ = some (.int .i64 0)) (go_keep) (first | (go_at_call 13; refine (mod13 _ _ (by omega) (by omega) _).mono ?_; rintro e w' ⟨rfl, rfl⟩))
        all_goals (go_wp2_with fail; go_meet; exact ⟨_, rfl, hsz, by simp [*], by simp [*], by simp [*], (Below.drew hb).alloc (by simp; omega) _⟩)
      case rest =>
        obtain ⟨g, rfl, hg, hg0, hg1, hg2, hbc⟩ := hcut
        clear hc0 hc1 hc2
        have hr0 : wc.cell? ⟨w.heap.size + 1, 0, none⟩ = some (.int .i64 0) := by rw [hbc.cell (by simp)]; simp [W21]
        have hr1 : wc.cell? ⟨w.heap.size + 1, 1, none⟩ = some (.int .i64 0) := by rw [hbc.cell (by simp)]; simp [W21]
        have hr2 : wc.cell? ⟨w.heap.size + 1, 2, none⟩ = some (.int .i64 0) := by rw [hbc.cell (by simp)]; simp [W21]
        have hf0 : wc.frozen? ⟨w.heap.size + 1, 0, none⟩ = false := by rw [hbc.frozen (by simp)]; simp [W21]
        have hf1 : wc.frozen? ⟨w.heap.size + 1, 1, none⟩ = false := by rw [hbc.frozen (by simp)]; simp [W21]
        have hf2 : wc.frozen? ⟨w.heap.size + 1, 2, none⟩ = false := by rw [hbc.frozen (by simp)]; simp [W21]
        go_wp2_with fail
        refine wp_loop_rounds 4 ?_
        repeat any_goals (rw [rounds_succ]; go_wp2)
        exact ⟨⟨k + 1, by omega, by omega, rfl, hbc⟩, by simp [intOf]; omega⟩
    · have HW := Lib.hid (show Below w.heap.size w wr from (((Below.refl _ _).alloc (by simp) _).alloc (by simp) _).trans (hb.mono (by omega)))
      have hr0 : wr.cell? ⟨w.heap.size + 1, 0, none⟩ = some (.int .i64 0) := by rw [hb.cell (by simp)]; simp [W21]
      have hr1 : wr.cell? ⟨w.heap.size + 1, 1, none⟩ = some (.int .i64 0) := by rw [hb.cell (by simp)]; simp [W21]
      have hr2 : wr.cell? ⟨w.heap.size + 1, 2, none⟩ = some (.int .i64 0) := by rw [hb.cell (by simp)]; simp [W21]
      have hf0 : wr.frozen? ⟨w.heap.size + 1, 0, none⟩ = false := by rw [hb.frozen (by simp)]; simp [W21]
      have hf1 : wr.frozen? ⟨w.heap.size + 1, 1, none⟩ = false := by rw [hb.frozen (by simp)]; simp [W21]
      have hf2 : wr.frozen? ⟨w.heap.size + 1, 2, none⟩ = false := by rw [hb.frozen (by simp)]; simp [W21]
      go_wp2
      refine bodyPost_ret (v := .tuple #[.agg #[.int .i64 0, .int .i64 0, .int .i64 0], .bool false]) (by simp [results, Try.results21, go_sem, hr0, hr1, hr2]) rfl ?_
      exact ⟨rfl, ((HW.out.setCell (by simp) _).setCell (by simp) _).setCell (by simp) _⟩

end Go.Proofs.Ytfdbkocpljiehaa
