/- Walks: finite.Arc. -/
import Derived.Test.YtfdbkocpljiehaaZa
import Derived.Test.YtfdbkocpljiehaaWz
set_option linter.unusedSimpArgs false
set_option linter.unusedVariables false
namespace Go.Proofs.Ytfdbkocpljiehaa
open Go.RowKit

/-! ### What an arc is, plainly -/
def xT (p : Int) (f : Nat → Int × Int × Int) (i : Nat) : Int × Int × Int := pl p (f i).1 (f i).2.1 (f i).2.2
def zT (p : Int) (f : Nat → Int × Int × Int) (i : Nat) : Bool := zz p (f i).1 (f i).2.1 (f i).2.2
/-- what is wrong with number m: nothing of it is left; it stood there before -/
def badA (p : Int) (f : Nat → Int × Int × Int) (m : Nat) : Int := if zT p f m = true then 5 else if hasT (xT p f) (xT p f m) m = true then 10 else 0
/-- the first fault among the first m -/
def errA (p : Int) (f : Nat → Int × Int × Int) : Nat → Int
  | 0 => 0
  | m + 1 => if errA p f m = 0 then badA p f m else errA p f m
theorem errA_stop {p : Int} {f : Nat → Int × Int × Int} {m : Nat} {e : Int} (h0 : errA p f m = 0) (hb : badA p f m = e) (he : e ≠ 0) : ∀ n, m < n → errA p f n = e
  | 0, h => by omega
  | n + 1, h => by
    by_cases hn : m < n
    · have := errA_stop h0 hb he n hn
      unfold errA; rw [this, if_neg he]
    · have : m = n := by omega
      subst this
      unfold errA; rw [h0, if_pos rfl]; exact hb
def crT (a b : Int × Int × Int) : Int × Int × Int := (a.2.1 * b.2.2 - a.2.2 * b.2.1, a.2.2 * b.1 - a.1 * b.2.2, a.1 * b.2.1 - a.2.1 * b.1)
def dtT (a b : Int × Int × Int) : Int := a.1 * b.1 + a.2.1 * b.2.1 + a.2.2 * b.2.2
def okK (p : Int) (x : Nat → Int × Int × Int) (i j k : Nat) : Bool := dtT (crT (x i) (x j)) (x k) % p != 0
def okJ (p : Int) (x : Nat → Int × Int × Int) (i j : Nat) : Bool := (List.range j).all fun k => okK p x i j k
def okI (p : Int) (x : Nat → Int × Int × Int) (i : Nat) : Bool := (List.range i).all fun j => okJ p x i j
/-- no three of the first n lie on a line -/
def arcB (p : Int) (x : Nat → Int × Int × Int) (n : Nat) : Bool := (List.range n).all fun i => okI p x i
theorem arcB_of {p : Int} {x : Nat → Int × Int × Int} {n : Nat} (h : ∀ i, i < n → okI p x i = true) : arcB p x n = true := List.all_eq_true.2 fun i hi => h i (List.mem_range.1 hi)
theorem okI_of {p : Int} {x : Nat → Int × Int × Int} {i : Nat} (h : ∀ j, j < i → okJ p x i j = true) : okI p x i = true := List.all_eq_true.2 fun i hi => h i (List.mem_range.1 hi)
theorem okJ_of {p : Int} {x : Nat → Int × Int × Int} {i j : Nat} (h : ∀ k, k < j → okK p x i j k = true) : okJ p x i j = true := List.all_eq_true.2 fun i hi => h i (List.mem_range.1 hi)
theorem arcB_not {p : Int} {x : Nat → Int × Int × Int} {n i j k : Nat} (hi : i < n) (hj : j < i) (hk : k < j) (h : okK p x i j k = false) : arcB p x n = false := by
  cases he : arcB p x n
  · rfl
  · have h1 := List.all_eq_true.1 he i (List.mem_range.2 hi)
    have h2 := List.all_eq_true.1 h1 j (List.mem_range.2 hj)
    have h3 := List.all_eq_true.1 h2 k (List.mem_range.2 hk)
    rw [h] at h3; cases h3
theorem eqT_comm (a b : Int × Int × Int) : eqT a b = eqT b a := by
  rw [Bool.eq_iff_iff, eqT_iff, eqT_iff]; exact eq_comm

/-- the plain forms of the first m, as the code gathers them -/
def XA (p : Int) (f : Nat → Int × Int × Int) (m : Nat) : List (Int × Int × Int) := (List.range m).map (xT p f)
theorem XA_len (p : Int) (f : Nat → Int × Int × Int) (m : Nat) : (XA p f m).length = m := by simp [XA]
theorem XA_succ (p : Int) (f : Nat → Int × Int × Int) (m : Nat) : XA p f (m + 1) = XA p f m ++ [xT p f m] := by simp [XA, List.range_succ]
theorem XA_in {p : Int} {f : Nat → Int × Int × Int} {m : Nat} {w0 w : World} {v : Value} (h : Gath (XA p f m) w0 w v) : ∃ a cap, v = .slice a m cap ∧ InS w a m (xT p f) := by
  obtain ⟨a, cap, h1, h2⟩ := InS.of_gath h
  rw [XA_len] at h1 h2
  refine ⟨a, cap, h1, fun i hi => ?_⟩
  have e : (XA p f m).getD i (0, 0, 0) = xT p f i := by simp [XA, List.getD_eq_getElem?_getD, hi]
  have := h2 i hi
  dsimp only at this
  rw [e] at this
  exact this

theorem mbw {a b : Int} (ha : -338 ≤ a ∧ a ≤ 338) (hb : -13 ≤ b ∧ b ≤ 13) : -4394 ≤ a * b ∧ a * b ≤ 4394 := by
  have := mb3 hb ha
  rw [Int.mul_comm] at this
  exact this

set_option maxHeartbeats 1000000 in
theorem dot40w (a b c x y z p : Int) (h : 2 ≤ p) (h' : p ≤ 13) (ha : -338 ≤ a ∧ a ≤ 338) (hb : -338 ≤ b ∧ b ≤ 338) (hc : -338 ≤ c ∧ c ≤ 338) (hx : -13 ≤ x ∧ x ≤ 13) (hy : -13 ≤ y ∧ y ≤ 13) (hz : -13 ≤ z ∧ z ≤ 13) (w : World) :
    Calls Try.prog 40 #[.agg #[.int .i64 a, .int .i64 b, .int .i64 c], .agg #[.int .i64 x, .int .i64 y, .int .i64 z], .int .i64 p] w fun e w' =>
      e = .returned (.int .i64 ((a * x + b * y + c * z) % p)) ∧ Below w.heap.size w w' := by
  obtain ⟨m1, m2⟩ := mbw ha hx
  obtain ⟨m3, m4⟩ := mbw hb hy
  obtain ⟨m5, m6⟩ := mbw hc hz
  go_enter Try.func40, Try.ntmps40
  go_wp2_with (go_at_call 42; refine (mod42 _ _ (by omega) (by omega) _).mono ?_; rintro e w' ⟨rfl, rfl⟩)
  go_ret
  exact ⟨rfl, by go_grown⟩

theorem xT_bd (p : Int) (f : Nat → Int × Int × Int) (i : Nat) (h : 2 ≤ p) (h' : p ≤ 13) {x0 x1 x2 : Int} (hX : xT p f i = (x0, x1, x2)) : (-13 ≤ x0 ∧ x0 ≤ 13) ∧ (-13 ≤ x1 ∧ x1 ≤ 13) ∧ (-13 ≤ x2 ∧ x2 ≤ 13) :=
  pl_bde hX h h'

set_option maxRecDepth 100000 in
set_option maxHeartbeats 1000000 in
theorem Arc26_bad (p : Int) (s : Value) (hp : isP p = false) (w : World) :
    Calls Try.prog 26 #[.int .i64 p, s] w fun e w' => e = .returned (.tuple #[.bool false, .int .i64 4]) ∧ Below w.heap.size w w' := by
  go_enter Try.func26, Try.ntmps26
  go_wp2_with (go_at_call 35; refine (prime35_no _ hp _).mono ?_; rintro e w' ⟨rfl, rfl⟩)
  go_ret2
  exact ⟨rfl, Below.refl _ _⟩

set_option maxRecDepth 100000 in
set_option maxHeartbeats 1000000 in
theorem Arc26_many (p : Int) (a : Option Addr) (n cap : Nat) (hp : isP p = true) (hn : 16 < n) (w : World) :
    Calls Try.prog 26 #[.int .i64 p, .slice a n cap] w fun e w' => e = .returned (.tuple #[.bool false, .int .i64 2]) ∧ Below w.heap.size w w' := by
  go_enter Try.func26, Try.ntmps26
  go_wp2_with (go_at_call 35; refine (prime35_yes _ hp _).mono ?_; rintro e w' ⟨rfl, rfl⟩)
  go_ret2
  exact ⟨rfl, Below.refl _ _⟩

set_option maxRecDepth 100000 in
set_option maxHeartbeats 8000000 in
theorem Arc26 (p : Int) (a : Option Addr) (n cap : Nat) (f : Nat → Int × Int × Int) (B : Bool) (E : Int) (hp : isP p = true) (hn : n ≤ 16) (w : World) (hin : InS w a n f)
    (hE : errA p f n = E) (hB : (E == 0 && arcB p (xT p f) n) = B) :
    Calls Try.prog 26 #[.int .i64 p, .slice a n cap] w fun e w' => e = .returned (.tuple #[.bool B, .int .i64 E]) ∧ Below w.heap.size w w' := by
  obtain ⟨h, h'⟩ := isP_bd hp
  have HP := Lib.hid hp
  have HI := Lib.hid hin
  have HE := Lib.hid hE
  have HB := Lib.hid hB
  clear hp hin hE hB
  obtain ⟨i0, hi, hz0, hz1, hz2⟩ := info_parts info27
  go_enter Try.func26, Try.ntmps26
  go_wp2_with (go_at_call 35; refine (prime35_yes _ HP.out _).mono ?_; rintro e w' ⟨rfl, rfl⟩)
  go_loopw [6, 25] (fun v i wr => ∃ m : Nat, m ≤ n ∧ i = .int .i64 m ∧ Gath (XA p f m) w wr v ∧ Hid (errA p f m = 0)) (fun _ i _ => n - (intOf i).toNat)
  case atStart => exact ⟨0, by omega, rfl, by simpa [XA] using gath_nil w, rfl⟩
  case round =>
    obtain ⟨m, hm, rfl, hga, he⟩ := hrel
    obtain ⟨wm, rfl⟩ : ∃ wo : World, wo = wr := ⟨_, rfl⟩
    by_cases hlt : m < n
    · obtain ⟨b, o, rfl, hb, k0, k1, k2⟩ := (InS.below HI.out hga.2) m hlt
      have hbad : badA p f m = if zz p (f m).1 (f m).2.1 (f m).2.2 = true then 5 else if hasT (xT p f) (pl p (f m).1 (f m).2.1 (f m).2.2) m = true then 10 else 0 := rfl
      have hxm : xT p f m = pl p (f m).1 (f m).2.1 (f m).2.2 := rfl
      generalize f m = X at k0 k1 k2 hbad hxm
      obtain ⟨h0, h1, h2⟩ := X
      dsimp only at k0 k1 k2 hbad hxm
      have l1 : (0 : Int) ≤ (m : Int) := by omega
      have l2 : (m : Int) < (n : Int) := by omega
      have el : m * 3 = 3 * m := by omega
      obtain ⟨⟨u0, u1, u2⟩, hu⟩ : ∃ u, pl p h0 h1 h2 = u := ⟨_, rfl⟩
      rw [hu] at hbad hxm
      have HU := Lib.hid hu
      have HBAD := Lib.hid hbad
      have HXM := Lib.hid hxm
      clear hu hbad hxm
      cases hz : zz p h0 h1 h2
      · have HZ := Lib.hid hz
        clear hz
        go_wp2_with fail
        refine (plain36e _ _ _ _ _ _ _ _ HU.out HZ.out h h' _).mono ?_
        rintro e w1 ⟨rfl, hb1⟩
        have hg1 := gath_skip (gath_skip hga (ba_c (Below.refl _ wm) (Nat.le_refl _) (Obj.cells #[.int .i64 h0, .int .i64 h1, .int .i64 h2] 27))) hb1
        obtain ⟨ax, cx, rfl, hxin⟩ := XA_in hg1
        have HX := Lib.hid hxin
        have HG := Lib.hid hg1
        have hsz : w.heap.size ≤ w1.heap.size := hg1.2.size
        clear hb1 hga hxin hg1 k0 k1 k2 hb
        cases hh : hasT (xT p f) (u0, u1, u2) m
        · have hno : ∀ j, j < m → eqT (xT p f j) (u0, u1, u2) = false := fun j hj => by
            have := List.any_eq_false.1 hh j (List.mem_range.2 hj)
            rw [eqT_comm]; simpa using this
          have HNO := Lib.hid hno
          have HHH := Lib.hid hh
          clear hno hh
          go_wp2_with fail
          go_loopw [39] (fun i wr => ∃ j : Nat, j ≤ m ∧ i = .int .i64 j ∧ Below (w1.heap.size + 1) (w1.alloc (Obj.cells #[.int .i64 u0, .int .i64 u1, .int .i64 u2] 27)) wr) (fun i _ => m - (intOf i).toNat)
          case atStart => exact ⟨0, by omega, rfl, Below.refl _ _⟩
          case round =>
            obtain ⟨j, hj, rfl, hbl⟩ := hrel
            obtain ⟨wj, rfl⟩ : ∃ wo : World, wo = wr := ⟨_, rfl⟩
            have hsj : w1.heap.size + 1 ≤ wj.heap.size := by have := hbl.size; simpa using this
            have hy0 : wj.cell? ⟨w1.heap.size, 0, none⟩ = some (.int .i64 u0) := by rw [hbl.cell (by simp)]; simp [go_sem]
            have hy1 : wj.cell? ⟨w1.heap.size, 1, none⟩ = some (.int .i64 u1) := by rw [hbl.cell (by simp)]; simp [go_sem]
            have hy2 : wj.cell? ⟨w1.heap.size, 2, none⟩ = some (.int .i64 u2) := by rw [hbl.cell (by simp)]; simp [go_sem]
            have hbw : Below w1.heap.size w1 wj := Below.trans (ba_c (Below.refl _ _) (Nat.le_refl _) _) (hbl.mono (by omega))
            have hlt1 : w1.heap.size < wj.heap.size := by omega
            by_cases hltj : j < m
            · obtain ⟨bj, oj, rfl, hbj, j0, j1, j2⟩ := (InS.below HX.out hbw) j hltj
              have hq := HNO.out j hltj
              generalize xT p f j = Y at j0 j1 j2 hq
              obtain ⟨y0, y1, y2⟩ := Y
              unfold eqT at hq
              dsimp only at j0 j1 j2 hq
              have r1 : (0 : Int) ≤ (j : Int) := by omega
              have r2 : (j : Int) < (m : Int) := by omega
              have rl : j * 3 = 3 * j := by omega
              have HBL := Lib.hid (ba_c hbl (show w1.heap.size + 1 ≤ (w1.alloc (Obj.cells #[.int .i64 u0, .int .i64 u1, .int .i64 u2] 27)).heap.size by simp) (Obj.cells #[.int .i64 y0, .int .i64 y1, .int .i64 y2] 27))
              clear hbl hbw
              go_wp2_with fail
              exact ⟨⟨j + 1, by omega, by go_num, HBL.out⟩, by simp [intOf]; omega⟩
            · have hjm : j = m := by omega
              subst hjm
              have HO := Lib.hid (fun o1 => ownsRow_alloc (ownsRow_below HG.out.1 hbw) o1)
              have HBW := Lib.hid hbw
              have hlen := XA_len p f j
              have HLEN := Lib.hid hlen
              rw [hlen] at HO
              clear hbl hbw hlen
              go_wp2_with (at_builtin; refine wpList_append_own _ rfl _ _ 45 rfl w.heap.size 27 i0 (.agg #[.int .i64 0, .int .i64 0, .int .i64 0]) 3 24 Try.underlying45 hi hz0 hz1 hz2 rfl (by decide) _ _ _ rfl (HO.out _) ⟨wj.heap.size, 0, none⟩ 1 1 (hv (u0, u1, u2)) rfl rfl ?c1 ?c2 ?c3 ?c4 ?c5 ?_)
              case c1 =>
                intro j u hj
                match j, hj with
                | 0, hj => simp [hv] at hj; subst hj; simp [go_sem, Addr.add]
                | 1, hj => simp [hv] at hj; subst hj; simp [go_sem, Addr.add]
                | 2, hj => simp [hv] at hj; subst hj; simp [go_sem, Addr.add]
              case c2 => intro u hu; simp [hv] at hu; rcases hu with rfl | rfl | rfl <;> rfl
              case c3 => unfold maxLen; omega
              case c4 => omega
              case c5 => simp; omega
              intro v' w2 hown' hgrow _
              have HN2 := Lib.hid hown'
              have HW2 := Lib.hid hgrow
              clear hown' hgrow
              go_wp2
              refine ⟨⟨j + 1, by omega, by go_num, ?_, ?_⟩, by simp [intOf]; omega⟩
              · rw [XA_succ, HXM.out]
                refine gath_keep (gath_skip HG.out (ba_c HBW.out (Nat.le_refl _) _)) ?_ HW2.out
                rw [HLEN.out]; exact HN2.out
              · show errA p f (j + 1) = 0
                unfold errA
                rw [he.out, if_pos rfl, HBAD.out, HZ.out, if_neg (by decide), HHH.out, if_neg (by decide)]
        · obtain ⟨jx, hjx, hyes⟩ := List.any_eq_true.1 hh
          have hjx := List.mem_range.1 hjx
          have hE10 : errA p f n = 10 := errA_stop he.out (by rw [HBAD.out, HZ.out, if_neg (by decide), hh, if_pos rfl]) (by decide) n hlt
          rw [HE.out] at hE10
          subst hE10
          have hBf : B = false := by rw [← HB.out]; rfl
          subst hBf
          have HYES := Lib.hid hyes
          clear hh hyes
          go_wp2_with fail
          go_loopw [39] (fun i wr => ∃ j : Nat, j ≤ jx ∧ i = .int .i64 j ∧ Below (w1.heap.size + 1) (w1.alloc (Obj.cells #[.int .i64 u0, .int .i64 u1, .int .i64 u2] 27)) wr) (fun i _ => m - (intOf i).toNat)
          case atStart => exact ⟨0, by omega, rfl, Below.refl _ _⟩
          case round =>
            obtain ⟨j, hj, rfl, hbl⟩ := hrel
            obtain ⟨wj, rfl⟩ : ∃ wo : World, wo = wr := ⟨_, rfl⟩
            have hsj : w1.heap.size + 1 ≤ wj.heap.size := by have := hbl.size; simpa using this
            have hy0 : wj.cell? ⟨w1.heap.size, 0, none⟩ = some (.int .i64 u0) := by rw [hbl.cell (by simp)]; simp [go_sem]
            have hy1 : wj.cell? ⟨w1.heap.size, 1, none⟩ = some (.int .i64 u1) := by rw [hbl.cell (by simp)]; simp [go_sem]
            have hy2 : wj.cell? ⟨w1.heap.size, 2, none⟩ = some (.int .i64 u2) := by rw [hbl.cell (by simp)]; simp [go_sem]
            have hbw : Below w1.heap.size w1 wj := Below.trans (ba_c (Below.refl _ _) (Nat.le_refl _) _) (hbl.mono (by omega))
            have hlt1 : w1.heap.size < wj.heap.size := by omega
            have hltj : j < m := by omega
            obtain ⟨bj, oj, rfl, hbj, j0, j1, j2⟩ := (InS.below HX.out hbw) j hltj
            have hkj : eqT (xT p f j) (u0, u1, u2) = false → j ≠ jx := fun hf e => by rw [e, eqT_comm, HYES.out] at hf; cases hf
            have r1 : (0 : Int) ≤ (j : Int) := by omega
            have r2 : (j : Int) < (m : Int) := by omega
            have rl : j * 3 = 3 * j := by omega
            have HBW := Lib.hid hbw
            have HBL := Lib.hid (fun ob => ba_c hbl (show w1.heap.size + 1 ≤ (w1.alloc (Obj.cells #[.int .i64 u0, .int .i64 u1, .int .i64 u2] 27)).heap.size by simp) ob)
            clear hbl hbw
            cases hq : eqT (xT p f j) (u0, u1, u2)
            · have hkj' := hkj hq
              clear hkj
              generalize xT p f j = Y at j0 j1 j2 hq
              obtain ⟨y0, y1, y2⟩ := Y
              unfold eqT at hq
              dsimp only at j0 j1 j2 hq
              go_wp2_with fail
              exact ⟨⟨j + 1, by omega, by go_num, HBL.out _⟩, by simp [intOf]; omega⟩
            · clear hkj
              generalize xT p f j = Y at j0 j1 j2 hq
              obtain ⟨y0, y1, y2⟩ := Y
              unfold eqT at hq
              dsimp only at j0 j1 j2 hq
              go_wp2_with fail
              go_ret2
              exact ⟨rfl, HG.out.2.trans ((ba_c HBW.out (Nat.le_refl _) _).mono HG.out.2.size)⟩
      · have HZ := Lib.hid hz
        have hE5 : errA p f n = 5 := errA_stop he.out (by rw [HBAD.out, hz, if_pos rfl]) (by decide) n hlt
        rw [HE.out] at hE5
        subst hE5
        have hBf : B = false := by rw [← HB.out]; rfl
        subst hBf
        clear hz
        go_wp2_with fail
        refine (plain36e _ _ _ _ _ _ _ _ HU.out HZ.out h h' _).mono ?_
        rintro e w1 ⟨rfl, hb1⟩
        have HG := Lib.hid (gath_skip (gath_skip hga (ba_c (Below.refl _ wm) (Nat.le_refl _) (Obj.cells #[.int .i64 h0, .int .i64 h1, .int .i64 h2] 27))) hb1)
        clear hb1 hga
        go_wp2_with fail
        go_ret2
        exact ⟨rfl, ba_c HG.out.2 (Nat.le_refl _) _⟩
    · have hmn : m = n := by omega
      subst hmn
      have hE0 : E = 0 := by rw [← HE.out]; exact he.out
      subst hE0
      have hB2 : arcB p (xT p f) m = B := by rw [← HB.out]; simp
      have HB2 := Lib.hid hB2
      obtain ⟨ax, cx, rfl, hxin⟩ := XA_in hga
      have HX := Lib.hid hxin
      have HBW := Lib.hid hga.2
      clear hga hxin hB2 HB HE he
      go_wp2_with fail
      go_loopw [54] (fun i wr => ∃ i1 : Nat, i1 ≤ m ∧ i = .int .i64 i1 ∧ Below wm.heap.size wm wr ∧ Hid (∀ i', i' < i1 → okI p (xT p f) i' = true)) (fun i _ => m - (intOf i).toNat)
      case atStart => exact ⟨0, by omega, rfl, Below.refl _ _, fun i' h => by omega⟩
      case round =>
        obtain ⟨i1, hi1, rfl, hbi, hoi⟩ := hrel
        obtain ⟨wi, rfl⟩ : ∃ wo : World, wo = wr := ⟨_, rfl⟩
        by_cases hlti : i1 < m
        · go_wp2_with fail
          go_loopw [58] (fun i wr => ∃ j1 : Nat, j1 ≤ i1 ∧ i = .int .i64 j1 ∧ Below wm.heap.size wm wr ∧ Hid (∀ j', j' < j1 → okJ p (xT p f) i1 j' = true)) (fun i _ => i1 - (intOf i).toNat)
          case atStart => exact ⟨0, by omega, rfl, hbi, fun i' h => by omega⟩
          case round =>
            clear hbi
            obtain ⟨j1, hj1, rfl, hbj, hoj⟩ := hrel
            obtain ⟨wj, rfl⟩ : ∃ wo : World, wo = wr := ⟨_, rfl⟩
            by_cases hltj : j1 < i1
            · have hxj := HX.out.below hbj
              have HBJ := Lib.hid hbj
              obtain ⟨b, o, rfl, hb, p0, p1, p2⟩ := hxj i1 hlti
              obtain ⟨b2, o2, hbb, _, q0, q1, q2⟩ := hxj j1 (by omega)
              cases hbb
              have HXJ := Lib.hid hxj
              clear hbj hxj
              obtain ⟨⟨x0, x1, x2⟩, hX⟩ : ∃ u, xT p f i1 = u := ⟨_, rfl⟩
              obtain ⟨⟨y0, y1, y2⟩, hY⟩ : ∃ u, xT p f j1 = u := ⟨_, rfl⟩
              obtain ⟨bx0, bx1, bx2⟩ := xT_bd p f i1 h h' hX
              obtain ⟨by0, by1, by2⟩ := xT_bd p f j1 h h' hY
              rw [hX] at p0 p1 p2
              rw [hY] at q0 q1 q2
              dsimp only at p0 p1 p2 q0 q1 q2
              have HXI := Lib.hid hX
              have HXJ2 := Lib.hid hY
              clear hX hY
              have l1 : (0 : Int) ≤ (i1 : Int) := by omega
              have l2 : (i1 : Int) < (m : Int) := by omega
              have r1 : (0 : Int) ≤ (j1 : Int) := by omega
              have r2 : (j1 : Int) < (m : Int) := by omega
              have el : i1 * 3 = 3 * i1 := by omega
              have rl : j1 * 3 = 3 * j1 := by omega
              obtain ⟨m1, m2⟩ := mb bx1 by2
              obtain ⟨m3, m4⟩ := mb bx2 by1
              obtain ⟨m5, m6⟩ := mb bx2 by0
              obtain ⟨m7, m8⟩ := mb bx0 by2
              obtain ⟨m9, m10⟩ := mb bx0 by1
              obtain ⟨m11, m12⟩ := mb bx1 by0
              go_upto_region 26 with fail
              go_cut [15] (fun s wx => ∃ (g : Nat) (c0 c1 c2 : Int), s = .pointer (some ⟨g, 0, none⟩) ∧ g < wx.heap.size ∧ wx.cell? ⟨g, 0, none⟩ = some (.int .i64 c0) ∧ wx.cell? ⟨g, 1, none⟩ = some (.int .i64 c1) ∧ wx.cell? ⟨g, 2, none⟩ = some (.int .i64 c2) ∧
                Hid (crT (xT p f i1) (xT p f j1) = (c0, c1, c2)) ∧ (-338 ≤ c0 ∧ c0 ≤ 338) ∧ (-338 ≤ c1 ∧ c1 ≤ 338) ∧ (-338 ≤ c2 ∧ c2 ≤ 338) ∧ Below wj.heap.size wj wx)
              case first =>
                refine wp_region_T (Below (wj.heap.size) (wj)) 10 (by kernel_rfl) ?_ ?_
                · exact Below.drew (Below.refl _ _)
                intro HS
                refine wpT_takeP 0 (v := ?_) rfl (by kernel_rfl) (fun _ _ _ h => h) (by rfl) ?_ ?_ ?_
                rotate_left
                · (intro W; go_simp; first | done | with_reducible rfl)
                · (first | (intro _; with_reducible assumption) | (intro h0; cases h0))
                try simp only [Act.put, List.setIfInBounds_toArray, List.set_cons_zero, List.set_cons_succ]
                refine wpT_takeP 1 (v := ?_) rfl (by kernel_rfl) (fun _ _ _ h => h) (by rfl) ?_ ?_ ?_
                rotate_left
                · (intro W; go_simp; first | done | with_reducible rfl)
                · (first | (intro _; with_reducible assumption) | (intro h0; cases h0))
                try simp only [Act.put, List.setIfInBounds_toArray, List.set_cons_zero, List.set_cons_succ]
                refine wpT_takeP 2 (v := ?_) rfl (by kernel_rfl) (fun _ _ _ h => h) (by rfl) ?_ ?_ ?_
                rotate_left
                · (intro W; go_simp; first | done | with_reducible rfl)
                · (first | (intro _; with_reducible assumption) | (intro h0; cases h0))
                try simp only [Act.put, List.setIfInBounds_toArray, List.set_cons_zero, List.set_cons_succ]
                refine wpT_takeP 4 (v := ?_) rfl (by kernel_rfl) (fun _ _ _ h => h) (by rfl) ?_ ?_ ?_
                rotate_left
                · (intro W; go_simp; first | done | with_reducible rfl)
                · (first | (intro _; with_reducible assumption) | (intro h0; cases h0))
                try simp only [Act.put, List.setIfInBounds_toArray, List.set_cons_zero, List.set_cons_succ]
                refine wpT_takeP 5 (v := ?_) rfl (by kernel_rfl) (fun _ _ _ h => h) (by rfl) ?_ ?_ ?_
                rotate_left
                · (intro W; go_simp; first | done | with_reducible rfl)
                · (first | (intro _; with_reducible assumption) | (intro h0; cases h0))
                try simp only [Act.put, List.setIfInBounds_toArray, List.set_cons_zero, List.set_cons_succ]
                refine wpT_takeP 6 (v := ?_) rfl (by kernel_rfl) (fun _ _ _ h => h) (by rfl) ?_ ?_ ?_
                rotate_left
                · (intro W; go_simp; first | done | with_reducible rfl)
                · (first | (intro _; with_reducible assumption) | (intro h0; cases h0))
                try simp only [Act.put, List.setIfInBounds_toArray, List.set_cons_zero, List.set_cons_succ]
                refine wpT_take 3 30 (v := ?_) rfl (by kernel_rfl) (fun _ _ _ h => h) (by rfl) ?_ HS ?_
                rotate_left
                · (intro W hW; have hq0 := fun o => hW.cell (p := ⟨b, o, none⟩) (by simp <;> omega); go_simp; first | done | with_reducible rfl)
                try simp only [Act.put, List.setIfInBounds_toArray, List.set_cons_zero, List.set_cons_succ]
                refine wpT_take 7 30 (v := ?_) rfl (by kernel_rfl) (fun _ _ _ h => h) (by rfl) ?_ HS ?_
                rotate_left
                · (intro W hW; have hq0 := fun o => hW.cell (p := ⟨b, o, none⟩) (by simp <;> omega); go_simp; first | done | with_reducible rfl)
                try simp only [Act.put, List.setIfInBounds_toArray, List.set_cons_zero, List.set_cons_succ]
                refine wpT_two 8 9 (by kernel_rfl) rfl rfl (fun K hK => ?_) (fun K hK => ?_)
                · skip
                  go_simp
                  refine (cross37 _ _ _ _ _ _ bx0 bx1 bx2 by0 by1 by2 _).mono ?_
                  rintro e v1 ⟨rfl, hb⟩
                  have HS := Below.trans HS (hb.mono HS.size)
                  have HSV := HS
                  clear hb
                  refine hK.out _ _ ?_ ?_
                  · (first | (intro _; with_reducible assumption) | (intro h0; cases h0))
                  clear hK K
                  try simp only [Act.put, List.setIfInBounds_toArray, List.set_cons_zero, List.set_cons_succ]
                  refine wpT_one 9 (by kernel_rfl) rfl (fun K hK => ?_)
                  go_simp
                  have HZ : Zc (v1.alloc (Obj.cells #[.int .i64 0, .int .i64 0, .int .i64 0] 27)) v1.heap.size := Zc.new (v1) 27
                  have HS := ba_c HS (Nat.le_refl _) (Obj.cells #[.int .i64 0, .int .i64 0, .int .i64 0] 27)
                  refine hK.out _ _ ?_ ?_
                  · (intro _; with_reducible exact HS)
                  clear hK K
                  try simp only [Act.put, List.setIfInBounds_toArray, List.set_cons_zero, List.set_cons_succ]
                  obtain ⟨z0, ⟨z1, z2, z3⟩, z4, z5, z6⟩ := HZ
                  refine wpT_one 10 (by kernel_rfl) rfl (fun K hK => ?_)
                  go_simp
                  refine hK.out _ _ ?_ ?_
                  · (first | (intro h0; cases h0; done) | (intro _; simp [go_sem]))
                  clear hK K
                  try simp only [Act.put, List.setIfInBounds_toArray, List.set_cons_zero, List.set_cons_succ]
                  refine wpT_done (by kernel_rfl) ?_ _
                  go_wp2_with fail
                  go_meet
                  refine ⟨v1.heap.size, x1 * y2 - x2 * y1, x2 * y0 - x0 * y2, x0 * y1 - x1 * y0, rfl, ?_, ?_, ?_, ?_, ?_, by omega, by omega, by omega, ?_⟩
                  · first | (simp [go_sem]; done) | (simpa using z0)
                  · simp [go_sem, z1, z2, z3]
                  · simp [go_sem, z1, z2, z3]
                  · simp [go_sem, z1, z2, z3]
                  · show crT _ _ = _
                    rw [HXI.out, HXJ2.out]; rfl
                  · (have hsz1 : wj.heap.size ≤ v1.heap.size := HSV.size); go_grown
                · skip
                  go_simp
                  have HZ : Zc (wj.alloc (Obj.cells #[.int .i64 0, .int .i64 0, .int .i64 0] 27)).drew wj.heap.size := Zc.new (wj) 27
                  have HS : Below (wj.heap.size) (wj) (wj.alloc (Obj.cells #[.int .i64 0, .int .i64 0, .int .i64 0] 27)).drew := Below.drew (ba_c (Below.refl _ _) (Nat.le_refl _) _)
                  refine hK.out _ _ ?_ ?_
                  · (intro _; with_reducible exact HS)
                  clear hK K
                  try simp only [Act.put, List.setIfInBounds_toArray, List.set_cons_zero, List.set_cons_succ]
                  refine wpT_one 8 (by kernel_rfl) rfl (fun K hK => ?_)
                  go_simp
                  refine (cross37 _ _ _ _ _ _ bx0 bx1 bx2 by0 by1 by2 _).mono ?_
                  rintro e v1 ⟨rfl, hb⟩
                  have HZ := Zc.below HZ hb HZ.1
                  have HS := Below.trans HS (hb.mono HS.size)
                  have HSV := HS
                  clear hb
                  refine hK.out _ _ ?_ ?_
                  · (first | (intro _; with_reducible assumption) | (intro h0; cases h0))
                  clear hK K
                  try simp only [Act.put, List.setIfInBounds_toArray, List.set_cons_zero, List.set_cons_succ]
                  obtain ⟨z0, ⟨z1, z2, z3⟩, z4, z5, z6⟩ := HZ
                  refine wpT_one 10 (by kernel_rfl) rfl (fun K hK => ?_)
                  go_simp
                  refine hK.out _ _ ?_ ?_
                  · (first | (intro h0; cases h0; done) | (intro _; simp [go_sem]))
                  clear hK K
                  try simp only [Act.put, List.setIfInBounds_toArray, List.set_cons_zero, List.set_cons_succ]
                  refine wpT_done (by kernel_rfl) ?_ _
                  go_wp2_with fail
                  go_meet
                  refine ⟨wj.heap.size, x1 * y2 - x2 * y1, x2 * y0 - x0 * y2, x0 * y1 - x1 * y0, rfl, ?_, ?_, ?_, ?_, ?_, by omega, by omega, by omega, ?_⟩
                  · first | (simp [go_sem]; done) | (simpa using z0)
                  · simp [go_sem, z1, z2, z3]
                  · simp [go_sem, z1, z2, z3]
                  · simp [go_sem, z1, z2, z3]
                  · show crT _ _ = _
                    rw [HXI.out, HXJ2.out]; rfl
                  · (have hsz1 : wj.heap.size ≤ v1.heap.size := HSV.size); go_grown
              case rest =>
                obtain ⟨g, c0, c1, c2, rfl, hg, g0, g1, g2, hC, bc0, bc1, bc2, hbc⟩ := hcut
                have HBM := Lib.hid (HBJ.out.trans (hbc.mono HBJ.out.size))
                have HXC := Lib.hid (HXJ.out.below hbc)
                clear p0 p1 p2 q0 q1 q2 hbc m1 m2 m3 m4 m5 m6 m7 m8 m9 m10 m11 m12
                go_wp2_with fail
                go_loopw [71] (fun i wr => ∃ k1 : Nat, k1 ≤ j1 ∧ i = .int .i64 k1 ∧ Below wc.heap.size wc wr ∧ Hid (∀ k', k' < k1 → okK p (xT p f) i1 j1 k' = true)) (fun i _ => j1 - (intOf i).toNat)
                case atStart => exact ⟨0, by omega, rfl, Below.refl _ _, fun i' h => by omega⟩
                case round =>
                  obtain ⟨k1, hk1, rfl, hbk, hok⟩ := hrel
                  obtain ⟨wk, rfl⟩ : ∃ wo : World, wo = wr := ⟨_, rfl⟩
                  by_cases hltk : k1 < j1
                  · obtain ⟨b3, o3, hbb3, hb3, t0, t1, t2⟩ := (HXC.out.below hbk) k1 (by omega)
                    cases hbb3
                    have v0 : wk.cell? ⟨g, 0, none⟩ = some (.int .i64 c0) := by rw [hbk.cell hg]; exact g0
                    have v1 : wk.cell? ⟨g, 1, none⟩ = some (.int .i64 c1) := by rw [hbk.cell hg]; exact g1
                    have v2 : wk.cell? ⟨g, 2, none⟩ = some (.int .i64 c2) := by rw [hbk.cell hg]; exact g2
                    have hgk : g < wk.heap.size := Nat.lt_of_lt_of_le hg hbk.size
                    have HBK := Lib.hid hbk
                    clear hbk
                    obtain ⟨⟨d0, d1, d2⟩, hD⟩ : ∃ u, xT p f k1 = u := ⟨_, rfl⟩
                    obtain ⟨bk0, bk1, bk2⟩ := xT_bd p f k1 h h' hD
                    have hokk : okK p (xT p f) i1 j1 k1 = ((c0 * d0 + c1 * d1 + c2 * d2) % p != 0) := by unfold okK; rw [hC.out, hD]; rfl
                    rw [hD] at t0 t1 t2
                    dsimp only at t0 t1 t2
                    have HOKK := Lib.hid hokk
                    clear hD hokk
                    have s1 : (0 : Int) ≤ (k1 : Int) := by omega
                    have s2 : (k1 : Int) < (m : Int) := by omega
                    have sl : k1 * 3 = 3 * k1 := by omega
                    go_upto_region 30 with fail
                    go_cut [81] (fun s wx => s = .bool ((c0 * d0 + c1 * d1 + c2 * d2) % p == 0) ∧ Below wk.heap.size wk wx)
                    case first =>
                      refine wp_region_T (Below (wk.heap.size) (wk)) 7 (by kernel_rfl) ?_ ?_
                      · exact Below.drew (Below.refl _ _)
                      intro HS
                      refine wpT_takeP 1 (v := ?_) rfl (by kernel_rfl) (fun _ _ _ h => h) (by rfl) ?_ ?_ ?_
                      rotate_left
                      · (intro W; go_simp; first | done | with_reducible rfl)
                      · (first | (intro _; with_reducible assumption) | (intro h0; cases h0))
                      try simp only [Act.put, List.setIfInBounds_toArray, List.set_cons_zero, List.set_cons_succ]
                      refine wpT_takeP 2 (v := ?_) rfl (by kernel_rfl) (fun _ _ _ h => h) (by rfl) ?_ ?_ ?_
                      rotate_left
                      · (intro W; go_simp; first | done | with_reducible rfl)
                      · (first | (intro _; with_reducible assumption) | (intro h0; cases h0))
                      try simp only [Act.put, List.setIfInBounds_toArray, List.set_cons_zero, List.set_cons_succ]
                      refine wpT_takeP 3 (v := ?_) rfl (by kernel_rfl) (fun _ _ _ h => h) (by rfl) ?_ ?_ ?_
                      rotate_left
                      · (intro W; go_simp; first | done | with_reducible rfl)
                      · (first | (intro _; with_reducible assumption) | (intro h0; cases h0))
                      try simp only [Act.put, List.setIfInBounds_toArray, List.set_cons_zero, List.set_cons_succ]
                      refine wpT_takeP 5 (v := ?_) rfl (by kernel_rfl) (fun _ _ _ h => h) (by rfl) ?_ ?_ ?_
                      rotate_left
                      · (intro W; go_simp; first | done | with_reducible rfl)
                      · (first | (intro _; with_reducible assumption) | (intro h0; cases h0))
                      try simp only [Act.put, List.setIfInBounds_toArray, List.set_cons_zero, List.set_cons_succ]
                      refine wpT_take 0 30 (v := ?_) rfl (by kernel_rfl) (fun _ _ _ h => h) (by rfl) ?_ HS ?_
                      rotate_left
                      · (intro W hW; have hq0 := fun o => hW.cell (p := ⟨g, o, none⟩) (by simp <;> omega); have hq1 := fun o => hW.cell (p := ⟨b, o, none⟩) (by simp <;> omega); go_simp; first | done | with_reducible rfl)
                      try simp only [Act.put, List.setIfInBounds_toArray, List.set_cons_zero, List.set_cons_succ]
                      refine wpT_take 4 30 (v := ?_) rfl (by kernel_rfl) (fun _ _ _ h => h) (by rfl) ?_ HS ?_
                      rotate_left
                      · (intro W hW; have hq0 := fun o => hW.cell (p := ⟨g, o, none⟩) (by simp <;> omega); have hq1 := fun o => hW.cell (p := ⟨b, o, none⟩) (by simp <;> omega); go_simp; first | done | with_reducible rfl)
                      try simp only [Act.put, List.setIfInBounds_toArray, List.set_cons_zero, List.set_cons_succ]
                      refine wpT_one 6 (by kernel_rfl) rfl (fun K hK => ?_)
                      go_simp
                      refine (dot40w _ _ _ _ _ _ _ h h' bc0 bc1 bc2 bk0 bk1 bk2 _).mono ?_
                      rintro e v1 ⟨rfl, hb⟩
                      have HS := Below.trans HS (hb.mono HS.size)
                      have HSV := HS
                      clear hb
                      refine hK.out _ _ ?_ ?_
                      · (first | (intro _; with_reducible assumption) | (intro h0; cases h0))
                      clear hK K
                      try simp only [Act.put, List.setIfInBounds_toArray, List.set_cons_zero, List.set_cons_succ]
                      refine wpT_one 7 (by kernel_rfl) rfl (fun K hK => ?_)
                      go_simp
                      refine hK.out _ _ ?_ ?_
                      · (first | (intro h0; cases h0; done) | (intro _; simp [go_sem]))
                      clear hK K
                      try simp only [Act.put, List.setIfInBounds_toArray, List.set_cons_zero, List.set_cons_succ]
                      refine wpT_done (by kernel_rfl) ?_ _
                      go_wp2_with fail
                      go_meet
                      exact ⟨rfl, HS⟩
                    case rest =>
                      obtain ⟨rfl, hbx⟩ := hcut
                      have HBX := Lib.hid (HBK.out.trans (hbx.mono HBK.out.size))
                      clear hbx
                      cases hd : ((c0 * d0 + c1 * d1 + c2 * d2) % p == 0)
                      · have hokt : okK p (xT p f) i1 j1 k1 = true := by rw [HOKK.out]; simp at hd ⊢; exact hd
                        have HOKT := Lib.hid hokt
                        clear hokt
                        go_wp2_with fail
                        refine ⟨⟨k1 + 1, by omega, by go_num, HBX.out, ?_⟩, by simp [intOf]; omega⟩
                        intro k' hk'
                        rcases Nat.lt_or_ge k' k1 with hx | hx
                        · exact hok.out k' hx
                        · have : k' = k1 := by omega
                          rw [this]; exact HOKT.out
                      · have hokt : okK p (xT p f) i1 j1 k1 = false := by rw [HOKK.out]; simp at hd ⊢; exact hd
                        have hBf : B = false := by rw [← HB2.out]; exact arcB_not hlti hltj hltk hokt
                        subst hBf
                        clear hokt
                        go_wp2_with fail
                        go_ret2
                        exact ⟨rfl, HBW.out.trans ((HBM.out.trans (HBX.out.mono HBM.out.size)).mono HBW.out.size)⟩
                  · have hkj : k1 = j1 := by omega
                    subst hkj
                    have HBN := Lib.hid (HBM.out.trans (hbk.mono HBM.out.size))
                    clear hbk
                    have hj := okJ_of hok.out
                    have HJ := Lib.hid hj
                    clear hj
                    go_wp2_with fail
                    refine ⟨⟨k1 + 1, by omega, by go_num, HBN.out, ?_⟩, by simp [intOf]; omega⟩
                    intro k' hk'
                    rcases Nat.lt_or_ge k' k1 with hx | hx
                    · exact hoj.out k' hx
                    · have : k' = k1 := by omega
                      rw [this]; exact HJ.out
            · have hji : j1 = i1 := by omega
              subst hji
              have HBN := Lib.hid hbj
              clear hbj
              have hi := okI_of hoj.out
              have HII := Lib.hid hi
              clear hi
              go_wp2_with fail
              refine ⟨⟨j1 + 1, by omega, by go_num, HBN.out, ?_⟩, by simp [intOf]; omega⟩
              intro k' hk'
              rcases Nat.lt_or_ge k' j1 with hx | hx
              · exact hoi.out k' hx
              · have : k' = j1 := by omega
                rw [this]; exact HII.out
        · have him : i1 = m := by omega
          subst him
          have hBt : B = true := by rw [← HB2.out]; exact arcB_of hoi.out
          subst hBt
          have HBN := Lib.hid (HBW.out.trans (hbi.mono HBW.out.size))
          clear hbi
          go_wp2_with fail
          go_ret2
          exact ⟨rfl, HBN.out⟩

end Go.Proofs.Ytfdbkocpljiehaa
