/- Walks: the law FiniteConic. -/
import Derived.Test.YtfdbkocpljiehaaXb
set_option linter.unusedSimpArgs false
set_option linter.unusedVariables false
namespace Go.Proofs.Ytfdbkocpljiehaa
open Go.RowKit

/-- a slice that holds the triples L, not in block B -/
def LH (B : Nat) (L : List (Int × Int × Int)) (w : World) (v : Value) : Prop :=
  (v = .slice none 0 0 ∧ L = []) ∨ ∃ g cap, v = .slice (some ⟨g, 0, none⟩) L.length cap ∧ B < g ∧ g < w.heap.size ∧ RowsAt w g L.length (fun i => L.getD i (0, 0, 0))
theorem LH.of_gath {B : Nat} {L : List (Int × Int × Int)} {w0 w : World} {v : Value} (h : Gath L w0 w v) (hB : B < w0.heap.size) : LH B L w v := by
  rcases h.open with h1 | ⟨g, cap, h1, h2, h3, _, h4⟩
  · exact .inl h1
  · exact .inr ⟨g, cap, h1, by omega, h3, h4⟩
theorem LH.below {B : Nat} {L : List (Int × Int × Int)} {w w1 : World} {v : Value} (h : LH B L w v) (hb : Below w.heap.size w w1) : LH B L w1 v := by
  rcases h with h1 | ⟨g, cap, h1, h2, h3, h4⟩
  · exact .inl h1
  · exact .inr ⟨g, cap, h1, h2, Nat.lt_of_lt_of_le h3 hb.size, h4.below hb h3⟩
theorem LH.set {B : Nat} {L : List (Int × Int × Int)} {w : World} {v : Value} (h : LH B L w v) (m : Nat) (u : Value) : LH B L (w.setCell ⟨B, m, none⟩ u) v := by
  rcases h with h1 | ⟨g, cap, h1, h2, h3, h4⟩
  · exact .inl h1
  · exact .inr ⟨g, cap, h1, h2, by simpa using h3, RowsAt.set_other h4 (by simp; omega) u⟩
theorem Equal24_lh {B : Nat} {L : List (Int × Int × Int)} {v1 v2 : Value} {w : World} (h1 : LH B L w v1) (h2 : LH B L w v2) (hL : L.length ≤ 1000000) :
    Calls Try.prog 24 #[v1, v2] w fun e w' => e = .returned (.bool true) ∧ OnlyDraws' w w' := by
  rcases h1 with ⟨rfl, rfl⟩ | ⟨g1, cap1, rfl, _, hg1, r1⟩
  · rcases h2 with ⟨rfl, _⟩ | ⟨g2, cap2, rfl, _, hg2, r2⟩
    · exact Equal24_empty none none 0 0 w
    · exact Equal24_empty none _ 0 _ w
  · rcases h2 with ⟨rfl, rfl⟩ | ⟨g2, cap2, rfl, _, hg2, r2⟩
    · exact Equal24_empty _ none _ 0 w
    · exact Equal24_same g1 g2 cap1 cap2 L.length (fun i => L.getD i (0, 0, 0)) hL w r1 r2

set_option maxRecDepth 100000 in
set_option maxHeartbeats 2000000 in
theorem FiniteConic10_bad (p k0 k1 k2 k3 k4 k5 : Int) (hp : isP p = false) (w : World) :
    Calls Try.prog 10 #[.int .i64 p, .agg #[.int .i64 k0, .int .i64 k1, .int .i64 k2, .int .i64 k3, .int .i64 k4, .int .i64 k5]] w fun e w' => e = .returned (.bool true) ∧ Below w.heap.size w w' := by
  have HP := Lib.hid hp
  clear hp
  go_enter Try.func10, Try.ntmps10
  go_wp2_with fail
  refine (Conic33_bad _ _ _ _ _ _ _ HP.out _).mono ?_
  rintro e w1 ⟨rfl, hb⟩
  have HB1 := Lib.hid (Below.trans (ba_c (Below.refl w.heap.size w) (Nat.le_refl _) _) (hb.mono (by simp)))
  clear hb
  go_wp2_with fail
  refine (counted14 _).mono ?_
  rintro e w2 ⟨rfl, hb⟩
  have HB2 := Lib.hid (HB1.out.trans (hb.mono HB1.out.size))
  clear hb
  go_wp2_with fail
  refine (isPrime15_no _ HP.out _).mono ?_
  rintro e w3 ⟨rfl, hb⟩
  have HB3 := Lib.hid (HB2.out.trans (hb.mono HB2.out.size))
  clear hb
  go_wp2_with fail
  refine (counted14 _).mono ?_
  rintro e w4 ⟨rfl, hb⟩
  have HB4 := Lib.hid (HB3.out.trans (hb.mono HB3.out.size))
  clear hb
  go_wp2
  go_ret
  exact ⟨rfl, HB4.out⟩

set_option maxRecDepth 100000 in
set_option maxHeartbeats 8000000 in
theorem FiniteConic10_flat (P n : Nat) (k0 k1 k2 k3 k4 k5 K0 K1 K2 K3 K4 K5 : Int) (hp : isP P = true) (hn : (allK P (P * P * P)).length = n) (hn1 : 1 ≤ n) (hn2 : n ≤ 2197) (b0 : 0 ≤ K0 ∧ K0 ≤ 12) (b1 : 0 ≤ K1 ∧ K1 ≤ 12) (b2 : 0 ≤ K2 ∧ K2 ≤ 12) (b3 : 0 ≤ K3 ∧ K3 ≤ 12) (b4 : 0 ≤ K4 ∧ K4 ≤ 12) (b5 : 0 ≤ K5 ∧ K5 ≤ 12)
    (hK : Hid (∀ j, j < 6 → six6 k0 k1 k2 k3 k4 k5 j % (P : Int) = six6 K0 K1 K2 K3 K4 K5 j))
    (hbd : Hid (∀ i, i < n → (0 ≤ ((allK P (P * P * P)).getD i (0, 0, 0)).1 ∧ ((allK P (P * P * P)).getD i (0, 0, 0)).1 ≤ 12) ∧ (0 ≤ ((allK P (P * P * P)).getD i (0, 0, 0)).2.1 ∧ ((allK P (P * P * P)).getD i (0, 0, 0)).2.1 ≤ 12) ∧ (0 ≤ ((allK P (P * P * P)).getD i (0, 0, 0)).2.2 ∧ ((allK P (P * P * P)).getD i (0, 0, 0)).2.2 ≤ 12))) (hsome : some6 P (six6 k0 k1 k2 k3 k4 k5) 6 = false) (w : World) :
    Calls Try.prog 10 #[.int .i64 P, .agg #[.int .i64 k0, .int .i64 k1, .int .i64 k2, .int .i64 k3, .int .i64 k4, .int .i64 k5]] w fun e w' => e = .returned (.bool true) ∧ Below w.heap.size w w' := by
  obtain ⟨h, h'⟩ := isP_bd hp
  have HP := Lib.hid hp
  have HN := Lib.hid hn
  obtain ⟨i0, hi, hz0, hz1, hz2⟩ := info_parts info27
  obtain ⟨f, hf⟩ : ∃ f, f = six6 k0 k1 k2 k3 k4 k5 := ⟨_, rfl⟩
  have HF := Lib.hid hf
  have hcon := fun W => Conic33 P n k0 k1 k2 k3 k4 k5 K0 K1 K2 K3 K4 K5 hp hn hn1 hn2 b0 b1 b2 b3 b4 b5 hK hbd W
  rw [hsome] at hcon
  have HCON2 := Lib.hid hcon
  rw [← hf] at hsome
  have HSOME := Lib.hid hsome
  clear hp hn hf hcon hsome
  go_enter Try.func10, Try.ntmps10
  go_wp2_with fail
  refine (HCON2.out _).mono ?_
  rintro e w1 hco
  rw [ConicOut, if_neg (by decide)] at hco
  obtain ⟨rfl, hbw⟩ := hco
  have hsix : SixAt w1 w.heap.size (modto P f 0) := by
    intro j hj
    rw [hbw.cell (by simp), hbw.frozen (by simp), HF.out]
    have hh : j = 0 ∨ j = 1 ∨ j = 2 ∨ j = 3 ∨ j = 4 ∨ j = 5 := by omega
    rcases hh with rfl | rfl | rfl | rfl | rfl | rfl <;> simp [go_sem, modto, six6]
  have hB1 : w.heap.size < w1.heap.size := by have := hbw.size; simp at this; omega
  have HB1 := Lib.hid (Below.trans (ba_c (Below.refl w.heap.size w) (Nat.le_refl _) _) (hbw.mono (by simp)))
  have HLH := Lib.hid (show LH w.heap.size [] w1 (.slice none 0 0) from .inl ⟨rfl, rfl⟩)
  have HSIX := Lib.hid hsix
  clear hbw hsix
  go_wp2_with fail
  refine (counted14 _).mono ?_
  rintro e w2 ⟨rfl, hb⟩
  have HSIX2 := Lib.hid (HSIX.out.below hb hB1)
  have HLH2 := Lib.hid (HLH.out.below hb)
  have hB2 : w.heap.size < w2.heap.size := Nat.lt_of_lt_of_le hB1 hb.size
  have HB2 := Lib.hid (HB1.out.trans (hb.mono (by omega)))
  clear hb
  go_wp2_with fail
  refine (isPrime15_yes _ HP.out _).mono ?_
  rintro e w3 ⟨rfl, hb⟩
  have HSIX3 := Lib.hid (HSIX2.out.below hb hB2)
  have HLH3 := Lib.hid (HLH2.out.below hb)
  have hB3 : w.heap.size < w3.heap.size := Nat.lt_of_lt_of_le hB2 hb.size
  have HB3 := Lib.hid (HB2.out.trans (hb.mono (by omega)))
  clear hb HSIX HLH HB1 HSIX2 HLH2 HB2 hB1 hB2
  go_wp2_with fail
  go_loopw [7, 35] (fun s i wr => ∃ m : Nat, m ≤ 6 ∧ i = .int .i64 m ∧ s = .bool (some6 P f m) ∧ SixAt wr w.heap.size (modto P f m) ∧ LH w.heap.size [] wr (.slice none 0 0) ∧ Below w.heap.size w wr ∧ w.heap.size < wr.heap.size) (fun _ i _ => 6 - (intOf i).toNat)
  case atStart => exact ⟨0, by omega, rfl, rfl, HSIX3.out, HLH3.out, HB3.out, hB3⟩
  case round =>
    obtain ⟨m, hm, rfl, rfl, hsx, hlh, hbl, hgr⟩ := hrel
    obtain ⟨wm, rfl⟩ : ∃ wo : World, wo = wr := ⟨_, rfl⟩
    have HSX := Lib.hid hsx
    have HL := Lib.hid hlh
    have HBL := Lib.hid hbl
    clear hsx hlh hbl HSIX3 HLH3 HB3
    by_cases hlt : m < 6
    · obtain ⟨c0, f0⟩ := HSX.out m hlt
      rw [show modto P f m m = f m by unfold modto; rw [if_neg (by omega)]] at c0
      have l1 : (0 : Int) ≤ (m : Int) := by omega
      have l2 : (m : Int) < (6 : Int) := by omega
      have HBL2 := Lib.hid (HBL.out.setCell (p := ⟨w.heap.size, m, none⟩) (Nat.le_refl _) (.int .i64 (f m % (P : Int))))
      have HSX2 := Lib.hid (SixAt.congr (HSX.out.set m hlt (f m % (P : Int))) (modto_set P f m))
      have HL2 := Lib.hid (LH.set HL.out m (.int .i64 (f m % (P : Int))))
      have hss := some6_succ P f m
      have HSS := Lib.hid hss
      clear hss
      cases hs : some6 P f m
      · have HS := Lib.hid hs
        clear hs
        cases hk : (f m % (P : Int) != 0)
        all_goals
          have HKK := Lib.hid hk
          go_wp2_with (go_at_call 13; refine (mod13 _ _ (by omega) (by omega) _).mono ?_; rintro e w' ⟨rfl, rfl⟩)
          refine ⟨⟨m + 1, by omega, by go_num, by rw [HSS.out, HS.out, HKK.out]; rfl, HSX2.out, HL2.out, HBL2.out, by simpa using hgr⟩, by simp [intOf]; omega⟩
      · have HS := Lib.hid hs
        clear hs
        go_wp2_with (go_at_call 13; refine (mod13 _ _ (by omega) (by omega) _).mono ?_; rintro e w' ⟨rfl, rfl⟩)
        refine ⟨⟨m + 1, by omega, by go_num, by rw [HSS.out, HS.out]; rfl, HSX2.out, HL2.out, HBL2.out, by simpa using hgr⟩, by simp [intOf]; omega⟩
    · have hm6 : m = 6 := by omega
      subst hm6
      have hs := HSOME.out
      rw [hs, show ((6 : Nat) : Int) = 6 from rfl]
      clear hs
      go_wp2
      go_ret
      exact ⟨rfl, HBL.out⟩

set_option maxRecDepth 100000 in
set_option maxHeartbeats 8000000 in
theorem FiniteConic10_ok (P n : Nat) (k0 k1 k2 k3 k4 k5 K0 K1 K2 K3 K4 K5 : Int) (hp : isP P = true) (hn : (allK P (P * P * P)).length = n) (hn1 : 1 ≤ n) (hn2 : n ≤ 2197) (b0 : 0 ≤ K0 ∧ K0 ≤ 12) (b1 : 0 ≤ K1 ∧ K1 ≤ 12) (b2 : 0 ≤ K2 ∧ K2 ≤ 12) (b3 : 0 ≤ K3 ∧ K3 ≤ 12) (b4 : 0 ≤ K4 ∧ K4 ≤ 12) (b5 : 0 ≤ K5 ∧ K5 ≤ 12)
    (hK : Hid (∀ j, j < 6 → six6 k0 k1 k2 k3 k4 k5 j % (P : Int) = six6 K0 K1 K2 K3 K4 K5 j))
    (hbd : Hid (∀ i, i < n → (0 ≤ ((allK P (P * P * P)).getD i (0, 0, 0)).1 ∧ ((allK P (P * P * P)).getD i (0, 0, 0)).1 ≤ 12) ∧ (0 ≤ ((allK P (P * P * P)).getD i (0, 0, 0)).2.1 ∧ ((allK P (P * P * P)).getD i (0, 0, 0)).2.1 ≤ 12) ∧ (0 ≤ ((allK P (P * P * P)).getD i (0, 0, 0)).2.2 ∧ ((allK P (P * P * P)).getD i (0, 0, 0)).2.2 ≤ 12))) (hsome : some6 P (six6 k0 k1 k2 k3 k4 k5) 6 = true) (w : World) :
    Calls Try.prog 10 #[.int .i64 P, .agg #[.int .i64 k0, .int .i64 k1, .int .i64 k2, .int .i64 k3, .int .i64 k4, .int .i64 k5]] w fun e w' => e = .returned (.bool true) ∧ Below w.heap.size w w' := by
  obtain ⟨h, h'⟩ := isP_bd hp
  have HP := Lib.hid hp
  have HN := Lib.hid hn
  obtain ⟨i0, hi, hz0, hz1, hz2⟩ := info_parts info27
  obtain ⟨f, hf⟩ : ∃ f, f = six6 k0 k1 k2 k3 k4 k5 := ⟨_, rfl⟩
  have HF := Lib.hid hf
  have hcon := fun W => Conic33 P n k0 k1 k2 k3 k4 k5 K0 K1 K2 K3 K4 K5 hp hn hn1 hn2 b0 b1 b2 b3 b4 b5 hK hbd W
  rw [hsome] at hcon
  have HCON2 := Lib.hid hcon
  rw [← hf] at hsome
  have HSOME := Lib.hid hsome
  clear hp hn hf hcon hsome
  go_enter Try.func10, Try.ntmps10
  go_wp2_with fail
  refine (HCON2.out _).mono ?_
  rintro e w1 hco
  rw [ConicOut, if_pos rfl, HN.out] at hco
  obtain ⟨v0, rfl, hga0⟩ := hco
  have hbw := hga0.2
  have hsix : SixAt w1 w.heap.size (modto P f 0) := by
    intro j hj
    rw [hbw.cell (by simp), hbw.frozen (by simp), HF.out]
    have hh : j = 0 ∨ j = 1 ∨ j = 2 ∨ j = 3 ∨ j = 4 ∨ j = 5 := by omega
    rcases hh with rfl | rfl | rfl | rfl | rfl | rfl <;> simp [go_sem, modto, six6]
  have hB1 : w.heap.size < w1.heap.size := by have := hbw.size; simp at this; omega
  have HB1 := Lib.hid (Below.trans (ba_c (Below.refl w.heap.size w) (Nat.le_refl _) _) (hbw.mono (by simp)))
  have HLH := Lib.hid (LH.of_gath (B := w.heap.size) hga0 (by simp))
  clear hga0
  have HSIX := Lib.hid hsix
  clear hbw hsix
  go_wp2_with fail
  refine (counted14 _).mono ?_
  rintro e w2 ⟨rfl, hb⟩
  have HSIX2 := Lib.hid (HSIX.out.below hb hB1)
  have HLH2 := Lib.hid (HLH.out.below hb)
  have hB2 : w.heap.size < w2.heap.size := Nat.lt_of_lt_of_le hB1 hb.size
  have HB2 := Lib.hid (HB1.out.trans (hb.mono (by omega)))
  clear hb
  go_wp2_with fail
  refine (isPrime15_yes _ HP.out _).mono ?_
  rintro e w3 ⟨rfl, hb⟩
  have HSIX3 := Lib.hid (HSIX2.out.below hb hB2)
  have HLH3 := Lib.hid (HLH2.out.below hb)
  have hB3 : w.heap.size < w3.heap.size := Nat.lt_of_lt_of_le hB2 hb.size
  have HB3 := Lib.hid (HB2.out.trans (hb.mono (by omega)))
  clear hb HSIX HLH HB1 HSIX2 HLH2 HB2 hB1 hB2
  go_wp2_with fail
  go_loopw [7, 35] (fun s i wr => ∃ m : Nat, m ≤ 6 ∧ i = .int .i64 m ∧ s = .bool (some6 P f m) ∧ SixAt wr w.heap.size (modto P f m) ∧ LH w.heap.size (selK P K0 K1 K2 K3 K4 K5 n) wr v0 ∧ Below w.heap.size w wr ∧ w.heap.size < wr.heap.size) (fun _ i _ => 6 - (intOf i).toNat)
  case atStart => exact ⟨0, by omega, rfl, rfl, HSIX3.out, HLH3.out, HB3.out, hB3⟩
  case round =>
    obtain ⟨m, hm, rfl, rfl, hsx, hlh, hbl, hgr⟩ := hrel
    obtain ⟨wm, rfl⟩ : ∃ wo : World, wo = wr := ⟨_, rfl⟩
    have HSX := Lib.hid hsx
    have HL := Lib.hid hlh
    have HBL := Lib.hid hbl
    clear hsx hlh hbl HSIX3 HLH3 HB3
    by_cases hlt : m < 6
    · obtain ⟨c0, f0⟩ := HSX.out m hlt
      rw [show modto P f m m = f m by unfold modto; rw [if_neg (by omega)]] at c0
      have l1 : (0 : Int) ≤ (m : Int) := by omega
      have l2 : (m : Int) < (6 : Int) := by omega
      have HBL2 := Lib.hid (HBL.out.setCell (p := ⟨w.heap.size, m, none⟩) (Nat.le_refl _) (.int .i64 (f m % (P : Int))))
      have HSX2 := Lib.hid (SixAt.congr (HSX.out.set m hlt (f m % (P : Int))) (modto_set P f m))
      have HL2 := Lib.hid (LH.set HL.out m (.int .i64 (f m % (P : Int))))
      have hss := some6_succ P f m
      have HSS := Lib.hid hss
      clear hss
      cases hs : some6 P f m
      · have HS := Lib.hid hs
        clear hs
        cases hk : (f m % (P : Int) != 0)
        all_goals
          have HKK := Lib.hid hk
          go_wp2_with (go_at_call 13; refine (mod13 _ _ (by omega) (by omega) _).mono ?_; rintro e w' ⟨rfl, rfl⟩)
          refine ⟨⟨m + 1, by omega, by go_num, by rw [HSS.out, HS.out, HKK.out]; rfl, HSX2.out, HL2.out, HBL2.out, by simpa using hgr⟩, by simp [intOf]; omega⟩
      · have HS := Lib.hid hs
        clear hs
        go_wp2_with (go_at_call 13; refine (mod13 _ _ (by omega) (by omega) _).mono ?_; rintro e w' ⟨rfl, rfl⟩)
        refine ⟨⟨m + 1, by omega, by go_num, by rw [HSS.out, HS.out]; rfl, HSX2.out, HL2.out, HBL2.out, by simpa using hgr⟩, by simp [intOf]; omega⟩
    · have hm6 : m = 6 := by omega
      subst hm6
      have hs := HSOME.out
      rw [hs, show ((6 : Nat) : Int) = 6 from rfl]
      clear hs
      have hsx2 := SixAt.congr HSX.out (f' := six6 K0 K1 K2 K3 K4 K5) (fun j hj => by unfold modto; rw [if_pos hj, HF.out]; exact hK.out j hj)
      have HSX2 := Lib.hid hsx2
      clear hsx2
      go_wp2_with fail
      refine (allF25 P HP.out _).mono ?_
      rintro e wf ⟨v2, rfl, hgat2⟩
      obtain ⟨g2, cap2, rfl, _, hgs2, _, hrows2⟩ := hgat2.rows HN.out (by omega)
      have HRW := Lib.hid hrows2
      have HSX3 := Lib.hid (HSX2.out.below hgat2.2 hgr)
      have HL3 := Lib.hid (HL.out.below hgat2.2)
      have hBf : w.heap.size < wf.heap.size := Nat.lt_of_lt_of_le hgr hgat2.2.size
      have HBF := Lib.hid (HBL.out.trans (hgat2.2.mono (by omega)))
      clear hgat2 hrows2 HSX HL HBL HSX2
      go_wp2_with fail
      go_loopw [9, 65] (fun v i wr => ∃ m : Nat, m ≤ n ∧ i = .int .i64 m ∧ Gath (selK P K0 K1 K2 K3 K4 K5 m) wf wr v) (fun _ i _ => n - (intOf i).toNat)
      case atStart => exact ⟨0, by omega, rfl, by simpa [selK] using gath_nil wf⟩
      case round =>
        obtain ⟨m, hmn, rfl, hga⟩ := hrel
        obtain ⟨wq, rfl⟩ : ∃ wo : World, wo = wr := ⟨_, rfl⟩
        have hsq : wf.heap.size ≤ wq.heap.size := hga.2.size
        by_cases hlt2 : m < n
        · have hx := hbd.out m hlt2
          obtain ⟨r0, r1, r2⟩ := RowsAt.below HRW.out hga.2 hgs2 m hlt2
          dsimp only at r0 r1 r2
          have hsel := fun x hx => selK_succ P n K0 K1 K2 K3 K4 K5 HN.out m hlt2 x hx
          generalize hX : (allK P (P * P * P)).getD m (0, 0, 0) = X at *
          obtain ⟨x, y, z⟩ := X
          dsimp only at hx r0 r1 r2
          obtain ⟨hx, hy, hz⟩ := hx
          have hsel2 := hsel (x, y, z) rfl
          have HSEL := Lib.hid hsel2
          clear hsel hsel2 hX
          have s0 := ((HSX3.out.below hga.2 hBf) 0 (by omega)).1
          have s1 := ((HSX3.out.below hga.2 hBf) 1 (by omega)).1
          have s2 := ((HSX3.out.below hga.2 hBf) 2 (by omega)).1
          have s3 := ((HSX3.out.below hga.2 hBf) 3 (by omega)).1
          have s4 := ((HSX3.out.below hga.2 hBf) 4 (by omega)).1
          have s5 := ((HSX3.out.below hga.2 hBf) 5 (by omega)).1
          simp only [six6, List.getD_cons_zero, List.getD_cons_succ] at s0 s1 s2 s3 s4 s5
          have hBq : w.heap.size < wq.heap.size := by omega
          have l1 : (0 : Int) ≤ (m : Int) := by omega
          have l2 : (m : Int) < (n : Int) := by omega
          have ek : m * 3 = 3 * m := by omega
          obtain ⟨p0a, p0b⟩ := mb12 b0 hx
          obtain ⟨q0a, q0b⟩ := mb144 ⟨p0a, p0b⟩ hx
          obtain ⟨p1a, p1b⟩ := mb12 b1 hy
          obtain ⟨q1a, q1b⟩ := mb144 ⟨p1a, p1b⟩ hy
          obtain ⟨p2a, p2b⟩ := mb12 b2 hz
          obtain ⟨q2a, q2b⟩ := mb144 ⟨p2a, p2b⟩ hz
          obtain ⟨p3a, p3b⟩ := mb12 b3 hy
          obtain ⟨q3a, q3b⟩ := mb144 ⟨p3a, p3b⟩ hz
          obtain ⟨p4a, p4b⟩ := mb12 b4 hz
          obtain ⟨q4a, q4b⟩ := mb144 ⟨p4a, p4b⟩ hx
          obtain ⟨p5a, p5b⟩ := mb12 b5 hx
          obtain ⟨q5a, q5b⟩ := mb144 ⟨p5a, p5b⟩ hy
          have HGA := Lib.hid hga
          clear hga
          cases hq : ((K0 * x * x + K1 * y * y + K2 * z * z + K3 * y * z + K4 * z * x + K5 * x * y) % (P : Int) == 0)
          · have HQ := Lib.hid hq
            go_wp2_with (go_at_call 13; refine (mod13 _ _ (by omega) (by omega) _).mono ?_; rintro e w' ⟨rfl, rfl⟩)
            refine ⟨⟨m + 1, by omega, by go_num, ?_⟩, by simp [intOf]; omega⟩
            rw [HSEL.out, if_neg (by rw [show qf K0 K1 K2 K3 K4 K5 (x, y, z) = (K0 * x * x + K1 * y * y + K2 * z * z + K3 * y * z + K4 * z * x + K5 * x * y) from rfl, HQ.out]; decide)]
            exact gath_skip HGA.out (ba_c (Below.refl _ _) (Nat.le_refl _) _)
          · have HQ := Lib.hid hq
            have HO := Lib.hid (fun o1 o2 => ownsRow_alloc (ownsRow_alloc HGA.out.1 o1) o2)
            have hlen := selK_le P K0 K1 K2 K3 K4 K5 m
            go_wp2_with (first | (go_at_call 13; refine (mod13 _ _ (by omega) (by omega) _).mono ?_; rintro e w' ⟨rfl, rfl⟩) | (at_builtin; refine wpList_append_own _ rfl _ _ 45 rfl wf.heap.size 27 i0 (.agg #[.int .i64 0, .int .i64 0, .int .i64 0]) 3 24 Try.underlying45 hi hz0 hz1 hz2 rfl (by decide) _ _ _ rfl (HO.out _ _) ⟨wq.heap.size + 1, 0, none⟩ 1 1 (hv (x, y, z)) rfl rfl ?c1 ?c2 ?c3 ?c4 ?c5 ?_))
            case c1 =>
              intro j u hj
              match j, hj with
              | 0, hj => simp [hv] at hj; subst hj; simp [go_sem, Addr.add]
              | 1, hj => simp [hv] at hj; subst hj; simp [go_sem, Addr.add]
              | 2, hj => simp [hv] at hj; subst hj; simp [go_sem, Addr.add]
            case c2 => intro u hu; simp [hv] at hu; rcases hu with rfl | rfl | rfl <;> rfl
            case c3 => unfold maxLen; omega
            case c4 => omega
            case c5 => simp; omega
            intro v' w2 hown' hgrow _
            have HN2 := Lib.hid hown'
            have HW2 := Lib.hid hgrow
            clear hown' hgrow
            go_wp2
            refine ⟨⟨m + 1, by omega, by go_num, ?_⟩, by simp [intOf]; omega⟩
            rw [HSEL.out, if_pos (by rw [show qf K0 K1 K2 K3 K4 K5 (x, y, z) = (K0 * x * x + K1 * y * y + K2 * z * z + K3 * y * z + K4 * z * x + K5 * x * y) from rfl, HQ.out])]
            exact gath_keep (gath_skip HGA.out (ba_c (ba_c (Below.refl _ _) (Nat.le_refl _) _) (Nat.le_refl _) _)) HN2.out HW2.out
        · have hmn2 : m = n := by omega
          subst hmn2
          have hlen := selK_le P K0 K1 K2 K3 K4 K5 m
          have HLA := Lib.hid (HL3.out.below hga.2)
          have HLB := Lib.hid (LH.of_gath hga hBf)
          have HBQ := Lib.hid (HBF.out.trans (hga.2.mono (by omega)))
          clear hga
          go_wp2_with fail
          refine (Equal24_lh HLA.out HLB.out (by omega)).mono ?_
          rintro e wz ⟨rfl, nd, hwz⟩
          have HZ := Lib.hid (show Below w.heap.size w wz by rw [hwz]; exact dr_o HBQ.out _)
          clear hwz
          go_wp2
          go_ret
          exact ⟨rfl, HZ.out⟩

end Go.Proofs.Ytfdbkocpljiehaa
