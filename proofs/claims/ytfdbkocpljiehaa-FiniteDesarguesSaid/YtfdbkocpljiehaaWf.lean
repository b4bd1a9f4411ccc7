/- Walks: finite.Plain, finite.Join, finite.On: what each returns, by cases. -/
import Derived.Test.YtfdbkocpljiehaaWc
set_option linter.unusedSimpArgs false
set_option linter.unusedVariables false
namespace Go.Proofs.Ytfdbkocpljiehaa
open Go.RowKit

theorem pl_zero {p a b c : Int} (hz : zz p a b c = true) : pl p a b c = (0, 0, 0) := by
  simp only [zz, Bool.and_eq_true, beq_iff_eq] at hz
  obtain ⟨⟨ha, hb⟩, hc⟩ := hz
  unfold pl; rw [if_neg (by simp [ha]), if_neg (by simp [hb]), if_neg (by simp [hc])]

theorem em12 (a p : Int) (h : 2 ≤ p) (h' : p ≤ 13) : 0 ≤ a % p ∧ a % p ≤ 12 := by
  have := Int.emod_nonneg a (show p ≠ 0 by omega)
  have := Int.emod_lt_of_pos a (show 0 < p by omega)
  omega
theorem pl_bd (p a b c : Int) (h : 2 ≤ p) (h' : p ≤ 13) :
    (0 ≤ (pl p a b c).1 ∧ (pl p a b c).1 ≤ 12) ∧ (0 ≤ (pl p a b c).2.1 ∧ (pl p a b c).2.1 ≤ 12) ∧ (0 ≤ (pl p a b c).2.2 ∧ (pl p a b c).2.2 ≤ 12) := by
  unfold pl
  split
  · exact ⟨em12 _ p h h', em12 _ p h h', em12 _ p h h'⟩
  · split
    · exact ⟨em12 _ p h h', em12 _ p h h', em12 _ p h h'⟩
    · split
      · exact ⟨em12 _ p h h', em12 _ p h h', em12 _ p h h'⟩
      · exact ⟨by simp, by simp, by simp⟩

theorem plain36 (a b c p : Int) (h : 2 ≤ p) (h' : p ≤ 13) (w : World) :
    Calls Try.prog 36 #[.agg #[.int .i64 a, .int .i64 b, .int .i64 c], .int .i64 p] w fun e w' =>
      e = .returned (.tuple #[.agg #[.int .i64 (pl p a b c).1, .int .i64 (pl p a b c).2.1, .int .i64 (pl p a b c).2.2], .bool (!zz p a b c)]) ∧ Below w.heap.size w w' := by
  cases hz : zz p a b c
  · exact plain36_yes a b c p h h' hz w
  · rw [pl_zero hz]; exact plain36_zero a b c p h h' hz w
theorem plain36e (a b c p u0 u1 u2 : Int) (z : Bool) (hu : pl p a b c = (u0, u1, u2)) (hz : zz p a b c = z) (h : 2 ≤ p) (h' : p ≤ 13) (w : World) :
    Calls Try.prog 36 #[.agg #[.int .i64 a, .int .i64 b, .int .i64 c], .int .i64 p] w fun e w' =>
      e = .returned (.tuple #[.agg #[.int .i64 u0, .int .i64 u1, .int .i64 u2], .bool (!z)]) ∧ Below w.heap.size w w' := by
  have := plain36 a b c p h h' w
  rw [hu, hz] at this
  exact this
theorem pl_bde {p a b c u0 u1 u2 : Int} (hu : pl p a b c = (u0, u1, u2)) (h : 2 ≤ p) (h' : p ≤ 13) : (-13 ≤ u0 ∧ u0 ≤ 13) ∧ (-13 ≤ u1 ∧ u1 ≤ 13) ∧ (-13 ≤ u2 ∧ u2 ≤ 13) := by
  have := pl_bd p a b c h h'
  rw [hu] at this
  dsimp only at this
  omega

theorem isP_bd {p : Int} (h : isP p = true) : 2 ≤ p ∧ p ≤ 13 := by
  simp only [isP, Bool.or_eq_true, beq_iff_eq] at h
  omega

theorem bcell {W w1 : World} {B : Nat} (hb : Below B W w1) : (∀ b o, b < B → w1.cell? ⟨b, o, none⟩ = W.cell? ⟨b, o, none⟩) ∧ (∀ b o, b < B → w1.frozen? ⟨b, o, none⟩ = W.frozen? ⟨b, o, none⟩) :=
  ⟨fun b o h => hb.cell (p := ⟨b, o, none⟩) h, fun b o h => hb.frozen (p := ⟨b, o, none⟩) h⟩

set_option maxHeartbeats 1000000 in
theorem Plain19_bad (p a b c : Int) (hp : isP p = false) (w : World) :
    Calls Try.prog 19 #[.int .i64 p, .agg #[.int .i64 a, .int .i64 b, .int .i64 c]] w fun e w' =>
      e = .returned (.tuple #[.agg #[.int .i64 0, .int .i64 0, .int .i64 0], .int .i64 4]) ∧ Below w.heap.size w w' := by
  go_enter Try.func19, Try.ntmps19
  go_wp2_with (go_at_call 35; refine (prime35_no _ hp _).mono ?_; rintro e w' ⟨rfl, rfl⟩)
  go_returns
  exact ⟨rfl, by go_grown⟩

set_option maxHeartbeats 1000000 in
theorem Join17_bad (p a b c x y z : Int) (hp : isP p = false) (w : World) :
    Calls Try.prog 17 #[.int .i64 p, .agg #[.int .i64 a, .int .i64 b, .int .i64 c], .agg #[.int .i64 x, .int .i64 y, .int .i64 z]] w fun e w' =>
      e = .returned (.tuple #[.agg #[.int .i64 0, .int .i64 0, .int .i64 0], .int .i64 4]) ∧ Below w.heap.size w w' := by
  go_enter Try.func17, Try.ntmps17
  go_wp2_with (go_at_call 35; refine (prime35_no _ hp _).mono ?_; rintro e w' ⟨rfl, rfl⟩)
  go_returns
  exact ⟨rfl, by go_grown⟩

set_option maxHeartbeats 1000000 in
theorem On20_bad (p a b c x y z : Int) (hp : isP p = false) (w : World) :
    Calls Try.prog 20 #[.int .i64 p, .agg #[.int .i64 a, .int .i64 b, .int .i64 c], .agg #[.int .i64 x, .int .i64 y, .int .i64 z]] w fun e w' =>
      e = .returned (.tuple #[.bool false, .int .i64 4]) ∧ Below w.heap.size w w' := by
  go_enter Try.func20, Try.ntmps20
  go_wp2_with (go_at_call 35; refine (prime35_no _ hp _).mono ?_; rintro e w' ⟨rfl, rfl⟩)
  go_returns
  exact ⟨rfl, by go_grown⟩

set_option maxHeartbeats 1000000 in
theorem Plain19_flat (p a b c u0 u1 u2 : Int) (hp : isP p = true) (hu : pl p a b c = (u0, u1, u2)) (hz : zz p a b c = true) (w : World) :
    Calls Try.prog 19 #[.int .i64 p, .agg #[.int .i64 a, .int .i64 b, .int .i64 c]] w fun e w' =>
      e = .returned (.tuple #[.agg #[.int .i64 0, .int .i64 0, .int .i64 0], .int .i64 5]) ∧ Below w.heap.size w w' := by
  obtain ⟨h, h'⟩ := isP_bd hp
  have HP := Lib.hid hp
  have HU := Lib.hid hu
  have HZ := Lib.hid hz
  clear hp hu hz
  go_enter Try.func19, Try.ntmps19
  go_wp2_with (go_at_call 35; refine (prime35_yes _ HP.out _).mono ?_; rintro e w' ⟨rfl, rfl⟩)
  refine (plain36e _ _ _ _ _ _ _ true HU.out HZ.out h h' _).mono ?_
  rintro e w1 ⟨rfl, hb⟩
  obtain ⟨hc1, hf1⟩ := bcell (hb.mono (show w.heap.size + 2 ≤ _ by simp))
  have hs1a : w.heap.size < w1.heap.size := by have := hb.size; simp at this; omega
  have hs1b : w.heap.size + 1 < w1.heap.size := by have := hb.size; simp at this; omega
  have HB1 := Lib.hid (show Below w.heap.size w w1 from ((Below.refl w.heap.size w).alloc (by simp <;> omega) _).alloc (by simp <;> omega) _ |>.trans (hb.mono (by simp; omega)))
  clear hb
  go_wp2
  refine bodyPost_ret (v := .tuple #[.agg #[.int .i64 0, .int .i64 0, .int .i64 0], .int .i64 5]) (by simp [results, Try.results19, go_sem, hc1, hf1, hs1a, hs1b]) rfl ⟨rfl, ?_⟩
  have hB := HB1.out
  go_grown

set_option maxHeartbeats 1000000 in
theorem Plain19_ok (p a b c u0 u1 u2 : Int) (hp : isP p = true) (hu : pl p a b c = (u0, u1, u2)) (hz : zz p a b c = false) (w : World) :
    Calls Try.prog 19 #[.int .i64 p, .agg #[.int .i64 a, .int .i64 b, .int .i64 c]] w fun e w' =>
      e = .returned (.tuple #[.agg #[.int .i64 u0, .int .i64 u1, .int .i64 u2], .int .i64 0]) ∧ Below w.heap.size w w' := by
  obtain ⟨h, h'⟩ := isP_bd hp
  have HP := Lib.hid hp
  have HU := Lib.hid hu
  have HZ := Lib.hid hz
  clear hp hu hz
  go_enter Try.func19, Try.ntmps19
  go_wp2_with (go_at_call 35; refine (prime35_yes _ HP.out _).mono ?_; rintro e w' ⟨rfl, rfl⟩)
  refine (plain36e _ _ _ _ _ _ _ false HU.out HZ.out h h' _).mono ?_
  rintro e w1 ⟨rfl, hb⟩
  obtain ⟨hc1, hf1⟩ := bcell (hb.mono (show w.heap.size + 2 ≤ _ by simp))
  have hs1a : w.heap.size < w1.heap.size := by have := hb.size; simp at this; omega
  have hs1b : w.heap.size + 1 < w1.heap.size := by have := hb.size; simp at this; omega
  have HB1 := Lib.hid (show Below w.heap.size w w1 from ((Below.refl w.heap.size w).alloc (by simp <;> omega) _).alloc (by simp <;> omega) _ |>.trans (hb.mono (by simp; omega)))
  clear hb
  go_wp2
  refine bodyPost_ret (v := .tuple #[.agg #[.int .i64 u0, .int .i64 u1, .int .i64 u2], .int .i64 0]) (by simp [results, Try.results19, go_sem, hc1, hf1, hs1a, hs1b]) rfl ⟨rfl, ?_⟩
  have hB := HB1.out
  go_grown

theorem wide {a : Int} (h : -13 ≤ a ∧ a ≤ 13) : -169 ≤ a ∧ a ≤ 169 := by omega

set_option maxHeartbeats 2000000 in
theorem Join17_fa (p a b c x y z u0 u1 u2 v0 v1 v2 : Int) (zb : Bool) (hp : isP p = true) (hu : pl p a b c = (u0, u1, u2)) (hz : zz p a b c = true) (hv : pl p x y z = (v0, v1, v2)) (hy : zz p x y z = zb) (w : World) :
    Calls Try.prog 17 #[.int .i64 p, .agg #[.int .i64 a, .int .i64 b, .int .i64 c], .agg #[.int .i64 x, .int .i64 y, .int .i64 z]] w fun e w' =>
      e = .returned (.tuple #[.agg #[.int .i64 0, .int .i64 0, .int .i64 0], .int .i64 5]) ∧ Below w.heap.size w w' := by
  obtain ⟨h, h'⟩ := isP_bd hp
  have HP := Lib.hid hp
  have HU := Lib.hid hu
  have HZ := Lib.hid hz
  have HV := Lib.hid hv
  have HY := Lib.hid hy
  clear hp hu hz hv hy
  go_enter Try.func17, Try.ntmps17
  go_wp2_with (go_at_call 35; refine (prime35_yes _ HP.out _).mono ?_; rintro e w' ⟨rfl, rfl⟩)
  refine (plain36e _ _ _ _ _ _ _ true HU.out HZ.out h h' _).mono ?_
  rintro e w1 ⟨rfl, hb⟩
  obtain ⟨hc1, hf1⟩ := bcell (hb.mono (show w.heap.size + 3 ≤ _ by simp))
  have hs1a : w.heap.size < w1.heap.size := by have := hb.size; simp at this; omega
  have hs1b : w.heap.size + 1 < w1.heap.size := by have := hb.size; simp at this; omega
  have hs1c : w.heap.size + 1 + 1 < w1.heap.size := by have := hb.size; simp at this; omega
  have HB1 := Lib.hid (show Below w.heap.size w w1 from (((Below.refl w.heap.size w).alloc (by simp <;> omega) _).alloc (by simp <;> omega) _).alloc (by simp <;> omega) _ |>.trans (hb.mono (by simp; omega)))
  clear hb
  go_wp2_with fail
  refine (plain36e _ _ _ _ _ _ _ zb HV.out HY.out h h' _).mono ?_
  rintro e w2 ⟨rfl, hb⟩
  obtain ⟨hc2, hf2⟩ := bcell (hb.mono (show w1.heap.size + 1 ≤ _ by simp))
  have hs2 : w1.heap.size < w2.heap.size := by have := hb.size; simp at this; omega
  have hs2a : w.heap.size < w2.heap.size := by omega
  have hs2b : w.heap.size + 1 < w2.heap.size := by omega
  have hs2c : w.heap.size + 1 + 1 < w2.heap.size := by omega
  have HB2 := Lib.hid (show Below w.heap.size w w2 from (HB1.out.alloc (by omega) _).trans (hb.mono (by simp; omega)))
  clear hb
  go_wp2
  refine bodyPost_ret (v := .tuple #[.agg #[.int .i64 0, .int .i64 0, .int .i64 0], .int .i64 5]) (by simp [results, Try.results17, go_sem, hc1, hf1, hs1a, hs1b, hs1c, hc2, hf2, hs2, hs2a, hs2b, hs2c]) rfl ⟨rfl, ?_⟩
  have hB := HB2.out
  go_grown

set_option maxHeartbeats 2000000 in
theorem Join17_fb (p a b c x y z u0 u1 u2 v0 v1 v2 : Int) (hp : isP p = true) (hu : pl p a b c = (u0, u1, u2)) (hz : zz p a b c = false) (hv : pl p x y z = (v0, v1, v2)) (hy : zz p x y z = true) (w : World) :
    Calls Try.prog 17 #[.int .i64 p, .agg #[.int .i64 a, .int .i64 b, .int .i64 c], .agg #[.int .i64 x, .int .i64 y, .int .i64 z]] w fun e w' =>
      e = .returned (.tuple #[.agg #[.int .i64 0, .int .i64 0, .int .i64 0], .int .i64 5]) ∧ Below w.heap.size w w' := by
  obtain ⟨h, h'⟩ := isP_bd hp
  have HP := Lib.hid hp
  have HU := Lib.hid hu
  have HZ := Lib.hid hz
  have HV := Lib.hid hv
  have HY := Lib.hid hy
  clear hp hu hz hv hy
  go_enter Try.func17, Try.ntmps17
  go_wp2_with (go_at_call 35; refine (prime35_yes _ HP.out _).mono ?_; rintro e w' ⟨rfl, rfl⟩)
  refine (plain36e _ _ _ _ _ _ _ false HU.out HZ.out h h' _).mono ?_
  rintro e w1 ⟨rfl, hb⟩
  obtain ⟨hc1, hf1⟩ := bcell (hb.mono (show w.heap.size + 3 ≤ _ by simp))
  have hs1a : w.heap.size < w1.heap.size := by have := hb.size; simp at this; omega
  have hs1b : w.heap.size + 1 < w1.heap.size := by have := hb.size; simp at this; omega
  have hs1c : w.heap.size + 1 + 1 < w1.heap.size := by have := hb.size; simp at this; omega
  have HB1 := Lib.hid (show Below w.heap.size w w1 from (((Below.refl w.heap.size w).alloc (by simp <;> omega) _).alloc (by simp <;> omega) _).alloc (by simp <;> omega) _ |>.trans (hb.mono (by simp; omega)))
  clear hb
  go_wp2_with fail
  refine (plain36e _ _ _ _ _ _ _ true HV.out HY.out h h' _).mono ?_
  rintro e w2 ⟨rfl, hb⟩
  obtain ⟨hc2, hf2⟩ := bcell (hb.mono (show w1.heap.size + 1 ≤ _ by simp))
  have hs2 : w1.heap.size < w2.heap.size := by have := hb.size; simp at this; omega
  have hs2a : w.heap.size < w2.heap.size := by omega
  have hs2b : w.heap.size + 1 < w2.heap.size := by omega
  have hs2c : w.heap.size + 1 + 1 < w2.heap.size := by omega
  have HB2 := Lib.hid (show Below w.heap.size w w2 from (HB1.out.alloc (by omega) _).trans (hb.mono (by simp; omega)))
  clear hb
  go_wp2
  refine bodyPost_ret (v := .tuple #[.agg #[.int .i64 0, .int .i64 0, .int .i64 0], .int .i64 5]) (by simp [results, Try.results17, go_sem, hc1, hf1, hs1a, hs1b, hs1c, hc2, hf2, hs2, hs2a, hs2b, hs2c]) rfl ⟨rfl, ?_⟩
  have hB := HB2.out
  go_grown

set_option maxHeartbeats 2000000 in
theorem Join17_free (p a b c x y z u0 u1 u2 v0 v1 v2 t0 t1 t2 : Int) (hp : isP p = true) (hu : pl p a b c = (u0, u1, u2)) (hz : zz p a b c = false) (hv : pl p x y z = (v0, v1, v2)) (hy : zz p x y z = false) (hw : pl p (u1 * v2 - u2 * v1) (u2 * v0 - u0 * v2) (u0 * v1 - u1 * v0) = (t0, t1, t2)) (hx : zz p (u1 * v2 - u2 * v1) (u2 * v0 - u0 * v2) (u0 * v1 - u1 * v0) = true) (w : World) :
    Calls Try.prog 17 #[.int .i64 p, .agg #[.int .i64 a, .int .i64 b, .int .i64 c], .agg #[.int .i64 x, .int .i64 y, .int .i64 z]] w fun e w' =>
      e = .returned (.tuple #[.agg #[.int .i64 0, .int .i64 0, .int .i64 0], .int .i64 7]) ∧ Below w.heap.size w w' := by
  obtain ⟨h, h'⟩ := isP_bd hp
  have HP := Lib.hid hp
  have HU := Lib.hid hu
  have HZ := Lib.hid hz
  have HV := Lib.hid hv
  have HY := Lib.hid hy
  obtain ⟨bu0, bu1, bu2⟩ := pl_bde hu h h'
  obtain ⟨bv0, bv1, bv2⟩ := pl_bde hv h h'
  have HW := Lib.hid hw
  have HX := Lib.hid hx
  clear hw hx
  clear hp hu hz hv hy
  go_enter Try.func17, Try.ntmps17
  go_wp2_with (go_at_call 35; refine (prime35_yes _ HP.out _).mono ?_; rintro e w' ⟨rfl, rfl⟩)
  refine (plain36e _ _ _ _ _ _ _ false HU.out HZ.out h h' _).mono ?_
  rintro e w1 ⟨rfl, hb⟩
  obtain ⟨hc1, hf1⟩ := bcell (hb.mono (show w.heap.size + 3 ≤ _ by simp))
  have hs1a : w.heap.size < w1.heap.size := by have := hb.size; simp at this; omega
  have hs1b : w.heap.size + 1 < w1.heap.size := by have := hb.size; simp at this; omega
  have hs1c : w.heap.size + 1 + 1 < w1.heap.size := by have := hb.size; simp at this; omega
  have HB1 := Lib.hid (show Below w.heap.size w w1 from (((Below.refl w.heap.size w).alloc (by simp <;> omega) _).alloc (by simp <;> omega) _).alloc (by simp <;> omega) _ |>.trans (hb.mono (by simp; omega)))
  clear hb
  go_wp2_with fail
  refine (plain36e _ _ _ _ _ _ _ false HV.out HY.out h h' _).mono ?_
  rintro e w2 ⟨rfl, hb⟩
  obtain ⟨hc2, hf2⟩ := bcell (hb.mono (show w1.heap.size + 1 ≤ _ by simp))
  have hs2 : w1.heap.size < w2.heap.size := by have := hb.size; simp at this; omega
  have hs2a : w.heap.size < w2.heap.size := by omega
  have hs2b : w.heap.size + 1 < w2.heap.size := by omega
  have hs2c : w.heap.size + 1 + 1 < w2.heap.size := by omega
  have HB2 := Lib.hid (show Below w.heap.size w w2 from (HB1.out.alloc (by omega) _).trans (hb.mono (by simp; omega)))
  clear hb
  go_wp2_with fail
  refine (cross37 _ _ _ _ _ _ bu0 bu1 bu2 bv0 bv1 bv2 _).mono ?_
  rintro e w3 ⟨rfl, hb⟩
  obtain ⟨hc3, hf3⟩ := bcell (hb.mono (show w2.heap.size + 1 ≤ _ by simp))
  have hs3 : w2.heap.size < w3.heap.size := by have := hb.size; simp at this; omega
  have hs3a : w.heap.size < w3.heap.size := by omega
  have hs3b : w.heap.size + 1 < w3.heap.size := by omega
  have hs3c : w.heap.size + 1 + 1 < w3.heap.size := by omega
  have HB3 := Lib.hid (show Below w.heap.size w w3 from (HB2.out.alloc (by omega) _).trans (hb.mono (by simp; omega)))
  clear hb
  go_wp2_with fail
  refine (plain36e _ _ _ _ _ _ _ _ HW.out HX.out h h' _).mono ?_
  rintro e w4 ⟨rfl, hb⟩
  obtain ⟨hc4, hf4⟩ := bcell hb
  have hs4 : w3.heap.size ≤ w4.heap.size := hb.size
  have hs4a : w.heap.size < w4.heap.size := by omega
  have hs4b : w.heap.size + 1 < w4.heap.size := by omega
  have hs4c : w.heap.size + 1 + 1 < w4.heap.size := by omega
  have HB4 := Lib.hid (show Below w.heap.size w w4 from HB3.out.trans (hb.mono (by omega)))
  clear hb
  go_wp2
  refine bodyPost_ret (v := .tuple #[.agg #[.int .i64 0, .int .i64 0, .int .i64 0], .int .i64 7]) (by simp [results, Try.results17, go_sem, hc1, hf1, hs1a, hs1b, hs1c, hc2, hf2, hs2, hs2a, hs2b, hs2c, hc3, hf3, hs3, hs3a, hs3b, hs3c, hc4, hf4, hs4, hs4a, hs4b, hs4c]) rfl ⟨rfl, ?_⟩
  have hB := HB4.out
  go_grown

set_option maxHeartbeats 2000000 in
theorem Join17_ok (p a b c x y z u0 u1 u2 v0 v1 v2 t0 t1 t2 : Int) (hp : isP p = true) (hu : pl p a b c = (u0, u1, u2)) (hz : zz p a b c = false) (hv : pl p x y z = (v0, v1, v2)) (hy : zz p x y z = false) (hw : pl p (u1 * v2 - u2 * v1) (u2 * v0 - u0 * v2) (u0 * v1 - u1 * v0) = (t0, t1, t2)) (hx : zz p (u1 * v2 - u2 * v1) (u2 * v0 - u0 * v2) (u0 * v1 - u1 * v0) = false) (w : World) :
    Calls Try.prog 17 #[.int .i64 p, .agg #[.int .i64 a, .int .i64 b, .int .i64 c], .agg #[.int .i64 x, .int .i64 y, .int .i64 z]] w fun e w' =>
      e = .returned (.tuple #[.agg #[.int .i64 t0, .int .i64 t1, .int .i64 t2], .int .i64 0]) ∧ Below w.heap.size w w' := by
  obtain ⟨h, h'⟩ := isP_bd hp
  have HP := Lib.hid hp
  have HU := Lib.hid hu
  have HZ := Lib.hid hz
  have HV := Lib.hid hv
  have HY := Lib.hid hy
  obtain ⟨bu0, bu1, bu2⟩ := pl_bde hu h h'
  obtain ⟨bv0, bv1, bv2⟩ := pl_bde hv h h'
  have HW := Lib.hid hw
  have HX := Lib.hid hx
  clear hw hx
  clear hp hu hz hv hy
  go_enter Try.func17, Try.ntmps17
  go_wp2_with (go_at_call 35; refine (prime35_yes _ HP.out _).mono ?_; rintro e w' ⟨rfl, rfl⟩)
  refine (plain36e _ _ _ _ _ _ _ false HU.out HZ.out h h' _).mono ?_
  rintro e w1 ⟨rfl, hb⟩
  obtain ⟨hc1, hf1⟩ := bcell (hb.mono (show w.heap.size + 3 ≤ _ by simp))
  have hs1a : w.heap.size < w1.heap.size := by have := hb.size; simp at this; omega
  have hs1b : w.heap.size + 1 < w1.heap.size := by have := hb.size; simp at this; omega
  have hs1c : w.heap.size + 1 + 1 < w1.heap.size := by have := hb.size; simp at this; omega
  have HB1 := Lib.hid (show Below w.heap.size w w1 from (((Below.refl w.heap.size w).alloc (by simp <;> omega) _).alloc (by simp <;> omega) _).alloc (by simp <;> omega) _ |>.trans (hb.mono (by simp; omega)))
  clear hb
  go_wp2_with fail
  refine (plain36e _ _ _ _ _ _ _ false HV.out HY.out h h' _).mono ?_
  rintro e w2 ⟨rfl, hb⟩
  obtain ⟨hc2, hf2⟩ := bcell (hb.mono (show w1.heap.size + 1 ≤ _ by simp))
  have hs2 : w1.heap.size < w2.heap.size := by have := hb.size; simp at this; omega
  have hs2a : w.heap.size < w2.heap.size := by omega
  have hs2b : w.heap.size + 1 < w2.heap.size := by omega
  have hs2c : w.heap.size + 1 + 1 < w2.heap.size := by omega
  have HB2 := Lib.hid (show Below w.heap.size w w2 from (HB1.out.alloc (by omega) _).trans (hb.mono (by simp; omega)))
  clear hb
  go_wp2_with fail
  refine (cross37 _ _ _ _ _ _ bu0 bu1 bu2 bv0 bv1 bv2 _).mono ?_
  rintro e w3 ⟨rfl, hb⟩
  obtain ⟨hc3, hf3⟩ := bcell (hb.mono (show w2.heap.size + 1 ≤ _ by simp))
  have hs3 : w2.heap.size < w3.heap.size := by have := hb.size; simp at this; omega
  have hs3a : w.heap.size < w3.heap.size := by omega
  have hs3b : w.heap.size + 1 < w3.heap.size := by omega
  have hs3c : w.heap.size + 1 + 1 < w3.heap.size := by omega
  have HB3 := Lib.hid (show Below w.heap.size w w3 from (HB2.out.alloc (by omega) _).trans (hb.mono (by simp; omega)))
  clear hb
  go_wp2_with fail
  refine (plain36e _ _ _ _ _ _ _ _ HW.out HX.out h h' _).mono ?_
  rintro e w4 ⟨rfl, hb⟩
  obtain ⟨hc4, hf4⟩ := bcell hb
  have hs4 : w3.heap.size ≤ w4.heap.size := hb.size
  have hs4a : w.heap.size < w4.heap.size := by omega
  have hs4b : w.heap.size + 1 < w4.heap.size := by omega
  have hs4c : w.heap.size + 1 + 1 < w4.heap.size := by omega
  have HB4 := Lib.hid (show Below w.heap.size w w4 from HB3.out.trans (hb.mono (by omega)))
  clear hb
  go_wp2
  refine bodyPost_ret (v := .tuple #[.agg #[.int .i64 t0, .int .i64 t1, .int .i64 t2], .int .i64 0]) (by simp [results, Try.results17, go_sem, hc1, hf1, hs1a, hs1b, hs1c, hc2, hf2, hs2, hs2a, hs2b, hs2c, hc3, hf3, hs3, hs3a, hs3b, hs3c, hc4, hf4, hs4, hs4a, hs4b, hs4c]) rfl ⟨rfl, ?_⟩
  have hB := HB4.out
  go_grown

set_option maxHeartbeats 2000000 in
theorem On20_fa (p a b c x y z u0 u1 u2 v0 v1 v2 : Int) (zb : Bool) (hp : isP p = true) (hu : pl p a b c = (u0, u1, u2)) (hz : zz p a b c = true) (hv : pl p x y z = (v0, v1, v2)) (hy : zz p x y z = zb) (w : World) :
    Calls Try.prog 20 #[.int .i64 p, .agg #[.int .i64 a, .int .i64 b, .int .i64 c], .agg #[.int .i64 x, .int .i64 y, .int .i64 z]] w fun e w' =>
      e = .returned (.tuple #[.bool false, .int .i64 5]) ∧ Below w.heap.size w w' := by
  obtain ⟨h, h'⟩ := isP_bd hp
  have HP := Lib.hid hp
  have HU := Lib.hid hu
  have HZ := Lib.hid hz
  have HV := Lib.hid hv
  have HY := Lib.hid hy
  clear hp hu hz hv hy
  go_enter Try.func20, Try.ntmps20
  go_wp2_with (go_at_call 35; refine (prime35_yes _ HP.out _).mono ?_; rintro e w' ⟨rfl, rfl⟩)
  refine (plain36e _ _ _ _ _ _ _ true HU.out HZ.out h h' _).mono ?_
  rintro e w1 ⟨rfl, hb⟩
  obtain ⟨hc1, hf1⟩ := bcell (hb.mono (show w.heap.size + 2 ≤ _ by simp))
  have hs1a : w.heap.size < w1.heap.size := by have := hb.size; simp at this; omega
  have hs1b : w.heap.size + 1 < w1.heap.size := by have := hb.size; simp at this; omega
  have HB1 := Lib.hid (show Below w.heap.size w w1 from ((Below.refl w.heap.size w).alloc (by simp <;> omega) _).alloc (by simp <;> omega) _ |>.trans (hb.mono (by simp; omega)))
  clear hb
  go_wp2_with fail
  refine (plain36e _ _ _ _ _ _ _ zb HV.out HY.out h h' _).mono ?_
  rintro e w2 ⟨rfl, hb⟩
  obtain ⟨hc2, hf2⟩ := bcell (hb.mono (show w1.heap.size + 1 ≤ _ by simp))
  have hs2 : w1.heap.size < w2.heap.size := by have := hb.size; simp at this; omega
  have hs2a : w.heap.size < w2.heap.size := by omega
  have hs2b : w.heap.size + 1 < w2.heap.size := by omega
  have HB2 := Lib.hid (show Below w.heap.size w w2 from (HB1.out.alloc (by omega) _).trans (hb.mono (by simp; omega)))
  clear hb
  go_wp2
  go_ret2
  have hB := HB2.out
  exact ⟨rfl, by go_grown⟩

set_option maxHeartbeats 2000000 in
theorem On20_fb (p a b c x y z u0 u1 u2 v0 v1 v2 : Int) (hp : isP p = true) (hu : pl p a b c = (u0, u1, u2)) (hz : zz p a b c = false) (hv : pl p x y z = (v0, v1, v2)) (hy : zz p x y z = true) (w : World) :
    Calls Try.prog 20 #[.int .i64 p, .agg #[.int .i64 a, .int .i64 b, .int .i64 c], .agg #[.int .i64 x, .int .i64 y, .int .i64 z]] w fun e w' =>
      e = .returned (.tuple #[.bool false, .int .i64 5]) ∧ Below w.heap.size w w' := by
  obtain ⟨h, h'⟩ := isP_bd hp
  have HP := Lib.hid hp
  have HU := Lib.hid hu
  have HZ := Lib.hid hz
  have HV := Lib.hid hv
  have HY := Lib.hid hy
  clear hp hu hz hv hy
  go_enter Try.func20, Try.ntmps20
  go_wp2_with (go_at_call 35; refine (prime35_yes _ HP.out _).mono ?_; rintro e w' ⟨rfl, rfl⟩)
  refine (plain36e _ _ _ _ _ _ _ false HU.out HZ.out h h' _).mono ?_
  rintro e w1 ⟨rfl, hb⟩
  obtain ⟨hc1, hf1⟩ := bcell (hb.mono (show w.heap.size + 2 ≤ _ by simp))
  have hs1a : w.heap.size < w1.heap.size := by have := hb.size; simp at this; omega
  have hs1b : w.heap.size + 1 < w1.heap.size := by have := hb.size; simp at this; omega
  have HB1 := Lib.hid (show Below w.heap.size w w1 from ((Below.refl w.heap.size w).alloc (by simp <;> omega) _).alloc (by simp <;> omega) _ |>.trans (hb.mono (by simp; omega)))
  clear hb
  go_wp2_with fail
  refine (plain36e _ _ _ _ _ _ _ true HV.out HY.out h h' _).mono ?_
  rintro e w2 ⟨rfl, hb⟩
  obtain ⟨hc2, hf2⟩ := bcell (hb.mono (show w1.heap.size + 1 ≤ _ by simp))
  have hs2 : w1.heap.size < w2.heap.size := by have := hb.size; simp at this; omega
  have hs2a : w.heap.size < w2.heap.size := by omega
  have hs2b : w.heap.size + 1 < w2.heap.size := by omega
  have HB2 := Lib.hid (show Below w.heap.size w w2 from (HB1.out.alloc (by omega) _).trans (hb.mono (by simp; omega)))
  clear hb
  go_wp2
  go_ret2
  have hB := HB2.out
  exact ⟨rfl, by go_grown⟩

set_option maxHeartbeats 2000000 in
theorem On20_ok (p a b c x y z u0 u1 u2 v0 v1 v2 : Int) (hp : isP p = true) (hu : pl p a b c = (u0, u1, u2)) (hz : zz p a b c = false) (hv : pl p x y z = (v0, v1, v2)) (hy : zz p x y z = false) (w : World) :
    Calls Try.prog 20 #[.int .i64 p, .agg #[.int .i64 a, .int .i64 b, .int .i64 c], .agg #[.int .i64 x, .int .i64 y, .int .i64 z]] w fun e w' =>
      e = .returned (.tuple #[.bool ((u0 * v0 + u1 * v1 + u2 * v2) % p == 0), .int .i64 0]) ∧ Below w.heap.size w w' := by
  obtain ⟨h, h'⟩ := isP_bd hp
  have HP := Lib.hid hp
  have HU := Lib.hid hu
  have HZ := Lib.hid hz
  have HV := Lib.hid hv
  have HY := Lib.hid hy
  obtain ⟨bu0, bu1, bu2⟩ := pl_bde hu h h'
  obtain ⟨bv0, bv1, bv2⟩ := pl_bde hv h h'
  clear hp hu hz hv hy
  go_enter Try.func20, Try.ntmps20
  go_wp2_with (go_at_call 35; refine (prime35_yes _ HP.out _).mono ?_; rintro e w' ⟨rfl, rfl⟩)
  refine (plain36e _ _ _ _ _ _ _ false HU.out HZ.out h h' _).mono ?_
  rintro e w1 ⟨rfl, hb⟩
  obtain ⟨hc1, hf1⟩ := bcell (hb.mono (show w.heap.size + 2 ≤ _ by simp))
  have hs1a : w.heap.size < w1.heap.size := by have := hb.size; simp at this; omega
  have hs1b : w.heap.size + 1 < w1.heap.size := by have := hb.size; simp at this; omega
  have HB1 := Lib.hid (show Below w.heap.size w w1 from ((Below.refl w.heap.size w).alloc (by simp <;> omega) _).alloc (by simp <;> omega) _ |>.trans (hb.mono (by simp; omega)))
  clear hb
  go_wp2_with fail
  refine (plain36e _ _ _ _ _ _ _ false HV.out HY.out h h' _).mono ?_
  rintro e w2 ⟨rfl, hb⟩
  obtain ⟨hc2, hf2⟩ := bcell (hb.mono (show w1.heap.size + 1 ≤ _ by simp))
  have hs2 : w1.heap.size < w2.heap.size := by have := hb.size; simp at this; omega
  have hs2a : w.heap.size < w2.heap.size := by omega
  have hs2b : w.heap.size + 1 < w2.heap.size := by omega
  have HB2 := Lib.hid (show Below w.heap.size w w2 from (HB1.out.alloc (by omega) _).trans (hb.mono (by simp; omega)))
  clear hb
  go_wp2_with fail
  refine (dot40 _ _ _ _ _ _ _ h h' bu0 bu1 bu2 (wide bv0) (wide bv1) (wide bv2) _).mono ?_
  rintro e w3 ⟨rfl, hb⟩
  have HB3 := Lib.hid (show Below w.heap.size w w3 from (HB2.out.alloc (by omega) _).trans (hb.mono (by simp; omega)))
  clear hb
  go_wp2
  go_ret2
  have hB := HB3.out
  exact ⟨rfl, by go_grown⟩

end Go.Proofs.Ytfdbkocpljiehaa

