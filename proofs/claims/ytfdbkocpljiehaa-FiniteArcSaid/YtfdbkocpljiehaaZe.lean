/- Walks: the law FiniteArc. -/
import Derived.Test.YtfdbkocpljiehaaZb
import Derived.Test.YtfdbkocpljiehaaMb
set_option linter.unusedSimpArgs false
set_option linter.unusedVariables false
namespace Go.Proofs.Ytfdbkocpljiehaa
open Go.RowKit

def upI (p : Int) (x : Nat → Int × Int × Int) (i : Nat) : Bool := (List.range i).all fun i' => okI p x i'
def upJ (p : Int) (x : Nat → Int × Int × Int) (i j : Nat) : Bool := (List.range j).all fun j' => okJ p x i j'
def upK (p : Int) (x : Nat → Int × Int × Int) (i j k : Nat) : Bool := (List.range k).all fun k' => okK p x i j k'
theorem upI_succ (p : Int) (x : Nat → Int × Int × Int) (i : Nat) : upI p x (i + 1) = (upI p x i && upJ p x i i) := by
  unfold upI; rw [List.range_succ, List.all_append]; simp [okI, upJ]
theorem upJ_succ (p : Int) (x : Nat → Int × Int × Int) (i j : Nat) : upJ p x i (j + 1) = (upJ p x i j && upK p x i j j) := by
  unfold upJ; rw [List.range_succ, List.all_append]; simp [okJ, upK]
theorem upK_succ (p : Int) (x : Nat → Int × Int × Int) (i j k : Nat) : upK p x i j (k + 1) = (upK p x i j k && okK p x i j k) := by
  unfold upK; rw [List.range_succ, List.all_append]; simp

/-- the determinant of three is the product of the third with the cross product of the others -/
theorem det_okK {p : Int} (hp : isP p = true) {x : Nat → Int × Int × Int} {i j k : Nat} {x0 x1 x2 y0 y1 y2 d0 d1 d2 : Int} (hx : x i = (x0, x1, x2)) (hy : x j = (y0, y1, y2)) (hd : x k = (d0, d1, d2)) :
    ((x0 % p * (y1 % p * (d2 % p) - y2 % p * (d1 % p)) - x1 % p * (y0 % p * (d2 % p) - y2 % p * (d0 % p)) + x2 % p * (y0 % p * (d1 % p) - y1 % p * (d0 % p))) % p != 0) = okK p x i j k := by
  obtain ⟨n, rfl, hn, hn0⟩ := toF hp
  haveI : NeZero n := ⟨hn0⟩
  unfold okK crT dtT
  rw [hx, hy, hd]
  dsimp only
  congr 1
  refine cF_eq.1 ?_
  simp only [cF_add, cF_sub, cF_mul, cF_mod]
  grind

set_option maxRecDepth 100000 in
set_option maxHeartbeats 1000000 in
theorem FiniteArc7_bad (p : Int) (s : Value) (hp : isP p = false) (w : World) :
    Calls Try.prog 7 #[.int .i64 p, s] w fun e w' => e = .returned (.bool true) ∧ Below w.heap.size w w' := by
  have HP := Lib.hid hp
  clear hp
  go_enter Try.func7, Try.ntmps7
  go_wp2_with fail
  refine (Arc26_bad _ _ HP.out _).mono ?_
  rintro e w1 ⟨rfl, hb⟩
  have HB1 := Lib.hid hb
  clear hb
  go_wp2_with fail
  refine (counted14 _).mono ?_
  rintro e w2 ⟨rfl, hb⟩
  have HB2 := Lib.hid (HB1.out.trans (hb.mono HB1.out.size))
  clear hb
  go_wp2_with fail
  refine (isPrime15_no _ HP.out _).mono ?_
  rintro e w3 ⟨rfl, hb⟩
  have HB3 := Lib.hid (HB2.out.trans (hb.mono HB2.out.size))
  clear hb
  go_wp2_with fail
  refine (counted14 _).mono ?_
  rintro e w4 ⟨rfl, hb⟩
  have HB4 := Lib.hid (HB3.out.trans (hb.mono HB3.out.size))
  clear hb
  go_wp2
  go_ret
  exact ⟨rfl, HB4.out⟩

set_option maxRecDepth 100000 in
set_option maxHeartbeats 1000000 in
theorem FiniteArc7_many (p : Int) (a : Option Addr) (n cap : Nat) (hp : isP p = true) (hn : 16 < n) (w : World) :
    Calls Try.prog 7 #[.int .i64 p, .slice a n cap] w fun e w' => e = .returned (.bool true) ∧ Below w.heap.size w w' := by
  have HP := Lib.hid hp
  clear hp
  go_enter Try.func7, Try.ntmps7
  go_wp2_with fail
  refine (Arc26_many _ _ _ _ HP.out hn _).mono ?_
  rintro e w1 ⟨rfl, hb⟩
  have HB1 := Lib.hid hb
  clear hb
  go_wp2_with fail
  refine (counted14 _).mono ?_
  rintro e w2 ⟨rfl, hb⟩
  have HB2 := Lib.hid (HB1.out.trans (hb.mono HB1.out.size))
  clear hb
  go_wp2_with fail
  refine (isPrime15_yes _ HP.out _).mono ?_
  rintro e w3 ⟨rfl, hb⟩
  have HB3 := Lib.hid (HB2.out.trans (hb.mono HB2.out.size))
  clear hb
  go_wp2
  go_ret
  exact ⟨rfl, HB3.out⟩

set_option maxRecDepth 100000 in
set_option maxHeartbeats 8000000 in
theorem FiniteArc7_ok (p : Int) (a : Option Addr) (n cap : Nat) (f : Nat → Int × Int × Int) (B : Bool) (E : Int) (hp : isP p = true) (hn : n ≤ 16) (w : World) (hin : InS w a n f)
    (hE : errA p f n = E) (hB : (E == 0 && arcB p (xT p f) n) = B) :
    Calls Try.prog 7 #[.int .i64 p, .slice a n cap] w fun e w' => e = .returned (.bool true) ∧ Below w.heap.size w w' := by
  obtain ⟨h, h'⟩ := isP_bd hp
  have HP := Lib.hid hp
  have HI := Lib.hid hin
  have HE := Lib.hid hE
  have HB := Lib.hid hB
  clear hp hin hE hB
  obtain ⟨i0, hi, hz0, hz1, hz2⟩ := info_parts info27
  go_enter Try.func7, Try.ntmps7
  go_wp2_with fail
  refine (Arc26 _ _ _ _ f B E HP.out hn _ HI.out HE.out HB.out).mono ?_
  rintro e w1 ⟨rfl, hb⟩
  have HB1 := Lib.hid hb
  clear hb
  go_wp2_with fail
  refine (counted14 _).mono ?_
  rintro e w2 ⟨rfl, hb⟩
  have HB2 := Lib.hid (HB1.out.trans (hb.mono HB1.out.size))
  clear hb
  go_wp2_with fail
  refine (isPrime15_yes _ HP.out _).mono ?_
  rintro e w3 ⟨rfl, hb⟩
  have HB3 := Lib.hid (HB2.out.trans (hb.mono HB2.out.size))
  clear hb
  have HI3 := Lib.hid (HI.out.below HB3.out)
  have HBZ := HB3
  clear HB1 HB2 HI
  go_wp2_with fail
  go_loopw [7, 49] (fun v i wr => ∃ m : Nat, m ≤ n ∧ i = .int .i64 m ∧ Gath (XA p f m) w3 wr v ∧ Hid (errA p f m = 0)) (fun _ i _ => n - (intOf i).toNat)
  case atStart => exact ⟨0, by omega, rfl, by simpa [XA] using gath_nil w3, rfl⟩
  case round =>
    obtain ⟨m, hm, rfl, hga, he⟩ := hrel
    obtain ⟨wm, rfl⟩ : ∃ wo : World, wo = wr := ⟨_, rfl⟩
    by_cases hlt : m < n
    · obtain ⟨b, o, rfl, hb, k0, k1, k2⟩ := (InS.below HI3.out hga.2) m hlt
      have hbad : badA p f m = if zz p (f m).1 (f m).2.1 (f m).2.2 = true then 5 else if hasT (xT p f) (pl p (f m).1 (f m).2.1 (f m).2.2) m = true then 10 else 0 := rfl
      have hxm : xT p f m = pl p (f m).1 (f m).2.1 (f m).2.2 := rfl
      generalize f m = X at k0 k1 k2 hbad hxm
      obtain ⟨h0, h1, h2⟩ := X
      dsimp only at k0 k1 k2 hbad hxm
      have l1 : (0 : Int) ≤ (m : Int) := by omega
      have l2 : (m : Int) < (n : Int) := by omega
      have el : m * 3 = 3 * m := by omega
      obtain ⟨⟨u0, u1, u2⟩, hu⟩ : ∃ u, pl p h0 h1 h2 = u := ⟨_, rfl⟩
      rw [hu] at hbad hxm
      have HU := Lib.hid hu
      have HBAD := Lib.hid hbad
      have HXM := Lib.hid hxm
      clear hu hbad hxm
      cases hz : zz p h0 h1 h2
      · have HZ := Lib.hid hz
        clear hz
        go_wp2_with fail
        refine (plainF21e _ _ _ _ _ _ _ _ HU.out HZ.out HP.out _).mono ?_
        rintro e w4 ⟨rfl, hb1⟩
        have hg1 := gath_skip (gath_skip hga (ba_c (Below.refl _ wm) (Nat.le_refl _) (Obj.cells #[.int .i64 h0, .int .i64 h1, .int .i64 h2] 27))) hb1
        have hg2 := gath_skip hg1 (ba_c (Below.refl _ w4) (Nat.le_refl _) (Obj.cells #[.int .i64 u0, .int .i64 u1, .int .i64 u2] 27))
        obtain ⟨ax, cx, rfl, hxin⟩ := XA_in hg2
        have HX := Lib.hid hxin
        have HG := Lib.hid hg2
        have hsz : w3.heap.size ≤ w4.heap.size := hg1.2.size
        clear hb1 hga hxin hg1 hg2 k0 k1 k2 hb
        cases hh : hasT (xT p f) (u0, u1, u2) m
        · have HHH := Lib.hid hh
          go_wp2_with fail
          refine (Contains27 _ _ _ _ _ _ _ (by omega) _ HX.out).mono ?_
          rintro e w5 ⟨rfl, hb5⟩
          rw [HHH.out]
          have hy0 : w5.cell? ⟨w4.heap.size, 0, none⟩ = some (.int .i64 u0) := by rw [hb5.cell (by simp)]; simp [go_sem]
          have hy1 : w5.cell? ⟨w4.heap.size, 1, none⟩ = some (.int .i64 u1) := by rw [hb5.cell (by simp)]; simp [go_sem]
          have hy2 : w5.cell? ⟨w4.heap.size, 2, none⟩ = some (.int .i64 u2) := by rw [hb5.cell (by simp)]; simp [go_sem]
          have hlt1 : w4.heap.size < w5.heap.size := by have := hb5.size; simp at this; omega
          have hlen := XA_len p f m
          have HG5 := Lib.hid (gath_skip HG.out hb5)
          have HO := Lib.hid (fun o1 => ownsRow_alloc HG5.out.1 o1)
          have HLEN := Lib.hid hlen
          rw [hlen] at HO
          clear hb5 hlen hh
          go_wp2_with (at_builtin; refine wpList_append_own _ rfl _ _ 45 rfl w3.heap.size 27 i0 (.agg #[.int .i64 0, .int .i64 0, .int .i64 0]) 3 24 Try.underlying45 hi hz0 hz1 hz2 rfl (by decide) _ _ _ rfl (HO.out _) ⟨w5.heap.size, 0, none⟩ 1 1 (hv (u0, u1, u2)) rfl rfl ?c1 ?c2 ?c3 ?c4 ?c5 ?_)
          case c1 =>
            intro j u hj
            match j, hj with
            | 0, hj => simp [hv] at hj; subst hj; simp [go_sem, Addr.add]
            | 1, hj => simp [hv] at hj; subst hj; simp [go_sem, Addr.add]
            | 2, hj => simp [hv] at hj; subst hj; simp [go_sem, Addr.add]
          case c2 => intro u hu; simp [hv] at hu; rcases hu with rfl | rfl | rfl <;> rfl
          case c3 => unfold maxLen; omega
          case c4 => omega
          case c5 => simp; omega
          intro v' w6 hown' hgrow _
          have HN2 := Lib.hid hown'
          have HW2 := Lib.hid hgrow
          clear hown' hgrow
          go_wp2
          refine ⟨⟨m + 1, by omega, by go_num, ?_, ?_⟩, by simp [intOf]; omega⟩
          · rw [XA_succ, HXM.out]
            refine gath_keep (gath_skip HG5.out (ba_c (Below.refl _ _) (Nat.le_refl _) _)) ?_ HW2.out
            rw [HLEN.out]; exact HN2.out
          · show errA p f (m + 1) = 0
            unfold errA
            rw [he.out, if_pos rfl, HBAD.out, HZ.out, if_neg (by decide), HHH.out, if_neg (by decide)]
        · have hE10 : errA p f n = 10 := errA_stop he.out (by rw [HBAD.out, HZ.out, if_neg (by decide), hh, if_pos rfl]) (by decide) n hlt
          rw [HE.out] at hE10
          subst hE10
          have hBf : B = false := by rw [← HB.out]; rfl
          subst hBf
          have HHH := Lib.hid hh
          clear hh
          go_wp2_with fail
          refine (Contains27 _ _ _ _ _ _ _ (by omega) _ HX.out).mono ?_
          rintro e w5 ⟨rfl, hb5⟩
          rw [HHH.out]
          have HZ5 := Lib.hid (gath_skip HG.out hb5)
          clear hb5
          go_wp2_with fail
          go_ret
          exact ⟨rfl, HBZ.out.trans (HZ5.out.2.mono HBZ.out.size)⟩
      · have HZ := Lib.hid hz
        have hE5 : errA p f n = 5 := errA_stop he.out (by rw [HBAD.out, hz, if_pos rfl]) (by decide) n hlt
        rw [HE.out] at hE5
        subst hE5
        have hBf : B = false := by rw [← HB.out]; rfl
        subst hBf
        clear hz
        go_wp2_with fail
        refine (plainF21e _ _ _ _ _ _ _ _ HU.out HZ.out HP.out _).mono ?_
        rintro e w4 ⟨rfl, hb1⟩
        have HG := Lib.hid (gath_skip (gath_skip hga (ba_c (Below.refl _ wm) (Nat.le_refl _) (Obj.cells #[.int .i64 h0, .int .i64 h1, .int .i64 h2] 27))) hb1)
        clear hb1 hga
        go_wp2_with fail
        go_ret
        exact ⟨rfl, ba_c (HBZ.out.trans (HG.out.2.mono HBZ.out.size)) (Nat.le_refl _) _⟩
    · have hmn : m = n := by omega
      subst hmn
      have hE0 : E = 0 := by rw [← HE.out]; exact he.out
      subst hE0
      have hB2 : upI p (xT p f) m = B := by rw [← HB.out]; simp [arcB, upI]
      have HB2 := Lib.hid hB2
      obtain ⟨ax, cx, rfl, hxin⟩ := XA_in hga
      have HX := Lib.hid hxin
      have HBW := Lib.hid (HBZ.out.trans (hga.2.mono HBZ.out.size))
      clear hga hxin hB2 HB HE he
      go_wp2_with fail
      go_loopw [12, 83] (fun s i wr => ∃ (i1 : Nat) (W : Bool), i1 ≤ m ∧ i = .int .i64 i1 ∧ s = .bool W ∧ Hid (W = upI p (xT p f) i1) ∧ Below wm.heap.size wm wr) (fun _ i _ => m - (intOf i).toNat)
      case atStart => exact ⟨0, true, by omega, rfl, rfl, rfl, Below.refl _ _⟩
      case round =>
        obtain ⟨i1, W, hi1, rfl, rfl, hW, hbi⟩ := hrel
        obtain ⟨wi, rfl⟩ : ∃ wo : World, wo = wr := ⟨_, rfl⟩
        by_cases hlti : i1 < m
        · go_wp2_with fail
          go_loopw [12, 87] (fun s i wr => ∃ (j1 : Nat) (W : Bool), j1 ≤ i1 ∧ i = .int .i64 j1 ∧ s = .bool W ∧ Hid (W = (upI p (xT p f) i1 && upJ p (xT p f) i1 j1)) ∧ Below wm.heap.size wm wr) (fun _ i _ => i1 - (intOf i).toNat)
          case atStart => exact ⟨0, W, by omega, rfl, rfl, by show W = _; rw [hW.out]; simp [upJ], hbi⟩
          case round =>
            clear hbi hW
            obtain ⟨j1, W2, hj1, rfl, rfl, hW, hbj⟩ := hrel
            obtain ⟨wj, rfl⟩ : ∃ wo : World, wo = wr := ⟨_, rfl⟩
            by_cases hltj : j1 < i1
            · go_wp2_with fail
              go_loopw [12, 91] (fun s i wr => ∃ (k1 : Nat) (W : Bool), k1 ≤ j1 ∧ i = .int .i64 k1 ∧ s = .bool W ∧ Hid (W = (upI p (xT p f) i1 && (upJ p (xT p f) i1 j1 && upK p (xT p f) i1 j1 k1))) ∧ Below wm.heap.size wm wr) (fun _ i _ => j1 - (intOf i).toNat)
              case atStart => exact ⟨0, W2, by omega, rfl, rfl, by show W2 = _; rw [hW.out]; simp [upK], hbj⟩
              case round =>
                clear hbj hW
                obtain ⟨k1, W3, hk1, rfl, rfl, hW, hbk⟩ := hrel
                obtain ⟨wk, rfl⟩ : ∃ wo : World, wo = wr := ⟨_, rfl⟩
                by_cases hltk : k1 < j1
                · have hxk := HX.out.below hbk
                  have HBK := Lib.hid hbk
                  obtain ⟨b, o, rfl, hb, p0, p1, p2⟩ := hxk i1 hlti
                  obtain ⟨b2, o2, hbb, _, q0, q1, q2⟩ := hxk j1 (by omega)
                  cases hbb
                  obtain ⟨b3, o3, hbb, _, t0, t1, t2⟩ := hxk k1 (by omega)
                  cases hbb
                  clear hbk hxk
                  obtain ⟨⟨x0, x1, x2⟩, hX⟩ : ∃ u, xT p f i1 = u := ⟨_, rfl⟩
                  obtain ⟨⟨y0, y1, y2⟩, hY⟩ : ∃ u, xT p f j1 = u := ⟨_, rfl⟩
                  obtain ⟨⟨d0, d1, d2⟩, hD⟩ : ∃ u, xT p f k1 = u := ⟨_, rfl⟩
                  have hok := det_okK HP.out hX hY hD
                  rw [hX] at p0 p1 p2
                  rw [hY] at q0 q1 q2
                  rw [hD] at t0 t1 t2
                  dsimp only at p0 p1 p2 q0 q1 q2 t0 t1 t2
                  have hup := upK_succ p (xT p f) i1 j1 k1
                  rw [← hok] at hup
                  have HUP := Lib.hid hup
                  clear hX hY hD hok hup
                  have l1 : (0 : Int) ≤ (i1 : Int) := by omega
                  have l2 : (i1 : Int) < (m : Int) := by omega
                  have r1 : (0 : Int) ≤ (j1 : Int) := by omega
                  have r2 : (j1 : Int) < (m : Int) := by omega
                  have s1 : (0 : Int) ≤ (k1 : Int) := by omega
                  have s2 : (k1 : Int) < (m : Int) := by omega
                  have el : i1 * 3 = 3 * i1 := by omega
                  have rl : j1 * 3 = 3 * j1 := by omega
                  have sl : k1 * 3 = 3 * k1 := by omega
                  cases W3
                  · go_upto_region 27 with fail
                    go_quiet (fail)
                    go_wp2_with fail
                    refine ⟨⟨k1 + 1, false, by omega, by go_num, rfl, ?_, dr_o HBK.out _⟩, by simp [intOf]; omega⟩
                    show false = _
                    have hw := hW.out
                    rw [HUP.out, ← Bool.and_assoc, ← Bool.and_assoc, Bool.and_assoc (upI p (xT p f) i1), ← hw]; rfl
                  · go_upto_region 27 with fail
                    refine wp_region_T (Below (wk.heap.size) (wk)) 18 (by kernel_rfl) ?_ ?_
                    · exact Below.drew (Below.refl _ _)
                    intro HS
                    refine wpT_takeP 0 (v := ?_) rfl (by kernel_rfl) (fun _ _ _ h => h) (by rfl) ?_ ?_ ?_
                    rotate_left
                    · (intro W; go_simp; first | done | with_reducible rfl)
                    · (first | (intro _; with_reducible assumption) | (intro h0; cases h0))
                    try simp only [Act.put, List.getElem_toArray, List.getElem_cons_zero, List.getElem_cons_succ, List.setIfInBounds_toArray, List.set_cons_zero, List.set_cons_succ]
                    refine wpT_takeP 1 (v := ?_) rfl (by kernel_rfl) (fun _ _ _ h => h) (by rfl) ?_ ?_ ?_
                    rotate_left
                    · (intro W; go_simp; first | done | with_reducible rfl)
                    · (first | (intro _; with_reducible assumption) | (intro h0; cases h0))
                    try simp only [Act.put, List.getElem_toArray, List.getElem_cons_zero, List.getElem_cons_succ, List.setIfInBounds_toArray, List.set_cons_zero, List.set_cons_succ]
                    refine wpT_takeP 2 (v := ?_) rfl (by kernel_rfl) (fun _ _ _ h => h) (by rfl) ?_ ?_ ?_
                    rotate_left
                    · (intro W; go_simp; first | done | with_reducible rfl)
                    · (first | (intro _; with_reducible assumption) | (intro h0; cases h0))
                    try simp only [Act.put, List.getElem_toArray, List.getElem_cons_zero, List.getElem_cons_succ, List.setIfInBounds_toArray, List.set_cons_zero, List.set_cons_succ]
                    refine wpT_takeP 3 (v := ?_) rfl (by kernel_rfl) (fun _ _ _ h => h) (by rfl) ?_ ?_ ?_
                    rotate_left
                    · (intro W; go_simp; first | done | with_reducible rfl)
                    · (first | (intro _; with_reducible assumption) | (intro h0; cases h0))
                    try simp only [Act.put, List.getElem_toArray, List.getElem_cons_zero, List.getElem_cons_succ, List.setIfInBounds_toArray, List.set_cons_zero, List.set_cons_succ]
                    refine wpT_takeP 4 (v := ?_) rfl (by kernel_rfl) (fun _ _ _ h => h) (by rfl) ?_ ?_ ?_
                    rotate_left
                    · (intro W; go_simp; first | done | with_reducible rfl)
                    · (first | (intro _; with_reducible assumption) | (intro h0; cases h0))
                    try simp only [Act.put, List.getElem_toArray, List.getElem_cons_zero, List.getElem_cons_succ, List.setIfInBounds_toArray, List.set_cons_zero, List.set_cons_succ]
                    refine wpT_takeP 6 (v := ?_) rfl (by kernel_rfl) (fun _ _ _ h => h) (by rfl) ?_ ?_ ?_
                    rotate_left
                    · (intro W; go_simp; first | done | with_reducible rfl)
                    · (first | (intro _; with_reducible assumption) | (intro h0; cases h0))
                    try simp only [Act.put, List.getElem_toArray, List.getElem_cons_zero, List.getElem_cons_succ, List.setIfInBounds_toArray, List.set_cons_zero, List.set_cons_succ]
                    refine wpT_takeP 7 (v := ?_) rfl (by kernel_rfl) (fun _ _ _ h => h) (by rfl) ?_ ?_ ?_
                    rotate_left
                    · (intro W; go_simp; first | done | with_reducible rfl)
                    · (first | (intro _; with_reducible assumption) | (intro h0; cases h0))
                    try simp only [Act.put, List.getElem_toArray, List.getElem_cons_zero, List.getElem_cons_succ, List.setIfInBounds_toArray, List.set_cons_zero, List.set_cons_succ]
                    refine wpT_takeP 8 (v := ?_) rfl (by kernel_rfl) (fun _ _ _ h => h) (by rfl) ?_ ?_ ?_
                    rotate_left
                    · (intro W; go_simp; first | done | with_reducible rfl)
                    · (first | (intro _; with_reducible assumption) | (intro h0; cases h0))
                    try simp only [Act.put, List.getElem_toArray, List.getElem_cons_zero, List.getElem_cons_succ, List.setIfInBounds_toArray, List.set_cons_zero, List.set_cons_succ]
                    refine wpT_takeP 10 (v := ?_) rfl (by kernel_rfl) (fun _ _ _ h => h) (by rfl) ?_ ?_ ?_
                    rotate_left
                    · (intro W; go_simp; first | done | with_reducible rfl)
                    · (first | (intro _; with_reducible assumption) | (intro h0; cases h0))
                    try simp only [Act.put, List.getElem_toArray, List.getElem_cons_zero, List.getElem_cons_succ, List.setIfInBounds_toArray, List.set_cons_zero, List.set_cons_succ]
                    refine wpT_takeP 11 (v := ?_) rfl (by kernel_rfl) (fun _ _ _ h => h) (by rfl) ?_ ?_ ?_
                    rotate_left
                    · (intro W; go_simp; first | done | with_reducible rfl)
                    · (first | (intro _; with_reducible assumption) | (intro h0; cases h0))
                    try simp only [Act.put, List.getElem_toArray, List.getElem_cons_zero, List.getElem_cons_succ, List.setIfInBounds_toArray, List.set_cons_zero, List.set_cons_succ]
                    refine wpT_takeP 12 (v := ?_) rfl (by kernel_rfl) (fun _ _ _ h => h) (by rfl) ?_ ?_ ?_
                    rotate_left
                    · (intro W; go_simp; first | done | with_reducible rfl)
                    · (first | (intro _; with_reducible assumption) | (intro h0; cases h0))
                    try simp only [Act.put, List.getElem_toArray, List.getElem_cons_zero, List.getElem_cons_succ, List.setIfInBounds_toArray, List.set_cons_zero, List.set_cons_succ]
                    refine wpT_takeP 14 (v := ?_) rfl (by kernel_rfl) (fun _ _ _ h => h) (by rfl) ?_ ?_ ?_
                    rotate_left
                    · (intro W; go_simp; first | done | with_reducible rfl)
                    · (first | (intro _; with_reducible assumption) | (intro h0; cases h0))
                    try simp only [Act.put, List.getElem_toArray, List.getElem_cons_zero, List.getElem_cons_succ, List.setIfInBounds_toArray, List.set_cons_zero, List.set_cons_succ]
                    refine wpT_take 5 30 (v := ?_) rfl (by kernel_rfl) (fun _ _ _ h => h) (by rfl) ?_ HS ?_
                    rotate_left
                    · (intro W hW; have hq0 := fun o => hW.cell (p := ⟨b, o, none⟩) (by simp <;> omega); go_simp; first | done | with_reducible rfl)
                    try simp only [Act.put, List.getElem_toArray, List.getElem_cons_zero, List.getElem_cons_succ, List.setIfInBounds_toArray, List.set_cons_zero, List.set_cons_succ]
                    refine wpT_take 9 30 (v := ?_) rfl (by kernel_rfl) (fun _ _ _ h => h) (by rfl) ?_ HS ?_
                    rotate_left
                    · (intro W hW; have hq0 := fun o => hW.cell (p := ⟨b, o, none⟩) (by simp <;> omega); go_simp; first | done | with_reducible rfl)
                    try simp only [Act.put, List.getElem_toArray, List.getElem_cons_zero, List.getElem_cons_succ, List.setIfInBounds_toArray, List.set_cons_zero, List.set_cons_succ]
                    refine wpT_take 13 30 (v := ?_) rfl (by kernel_rfl) (fun _ _ _ h => h) (by rfl) ?_ HS ?_
                    rotate_left
                    · (intro W hW; have hq0 := fun o => hW.cell (p := ⟨b, o, none⟩) (by simp <;> omega); go_simp; first | done | with_reducible rfl)
                    try simp only [Act.put, List.getElem_toArray, List.getElem_cons_zero, List.getElem_cons_succ, List.setIfInBounds_toArray, List.set_cons_zero, List.set_cons_succ]
                    refine wpT_one 15 (by kernel_rfl) rfl (fun K hK => ?_)
                    go_simp
                    refine (detF16 _ _ _ _ _ _ _ _ _ _ h h' _).mono ?_
                    rintro e v1 ⟨rfl, hb⟩
                    have HS := Below.trans HS (hb.mono HS.size)
                    have HSV := HS
                    clear hb
                    refine hK.out _ _ ?_ ?_
                    · (first | (intro _; with_reducible assumption) | (intro h0; cases h0))
                    clear hK K
                    try simp only [Act.put, List.getElem_toArray, List.getElem_cons_zero, List.getElem_cons_succ, List.setIfInBounds_toArray, List.set_cons_zero, List.set_cons_succ]
                    refine wpT_one 16 (by kernel_rfl) rfl (fun K hK => ?_)
                    go_simp
                    refine hK.out _ _ ?_ ?_
                    · (first | (intro _; with_reducible assumption) | (intro h0; cases h0; done) | (intro _; simp [go_sem]))
                    clear hK K
                    try simp only [Act.put, List.getElem_toArray, List.getElem_cons_zero, List.getElem_cons_succ, List.setIfInBounds_toArray, List.set_cons_zero, List.set_cons_succ]
                    refine wpT_one 17 (by kernel_rfl) rfl (fun K hK => ?_)
                    go_simp
                    refine hK.out _ _ ?_ ?_
                    · (first | (intro _; with_reducible assumption) | (intro h0; cases h0; done) | (intro _; simp [go_sem]))
                    clear hK K
                    try simp only [Act.put, List.getElem_toArray, List.getElem_cons_zero, List.getElem_cons_succ, List.setIfInBounds_toArray, List.set_cons_zero, List.set_cons_succ]
                    refine wpT_one 18 (by kernel_rfl) rfl (fun K hK => ?_)
                    go_simp
                    refine hK.out _ _ ?_ ?_
                    · (first | (intro _; with_reducible assumption) | (intro h0; cases h0; done) | (intro _; simp [go_sem]))
                    clear hK K
                    try simp only [Act.put, List.getElem_toArray, List.getElem_cons_zero, List.getElem_cons_succ, List.setIfInBounds_toArray, List.set_cons_zero, List.set_cons_succ]
                    refine wpT_done (by kernel_rfl) ?_ _
                    have HBX := Lib.hid (HBK.out.trans (HS.mono HBK.out.size))
                    go_wp2_with fail
                    refine ⟨⟨k1 + 1, _, by omega, by go_num, rfl, ?_, HBX.out⟩, by simp [intOf]; omega⟩
                    show _ = _
                    have hw := hW.out
                    rw [HUP.out, ← Bool.and_assoc, ← Bool.and_assoc, Bool.and_assoc (upI p (xT p f) i1), ← hw]; rfl
                · have hkj : k1 = j1 := by omega
                  subst hkj
                  have HBN := Lib.hid hbk
                  clear hbk
                  go_wp2_with fail
                  refine ⟨⟨k1 + 1, W3, by omega, by go_num, rfl, ?_, HBN.out⟩, by simp [intOf]; omega⟩
                  show W3 = _
                  rw [upJ_succ]; exact hW.out
            · have hji : j1 = i1 := by omega
              subst hji
              have HBN := Lib.hid hbj
              clear hbj
              go_wp2_with fail
              refine ⟨⟨j1 + 1, W2, by omega, by go_num, rfl, ?_, HBN.out⟩, by simp [intOf]; omega⟩
              show W2 = _
              rw [upI_succ]; exact hW.out
        · have him : i1 = m := by omega
          subst him
          have hWB : W = B := by rw [hW.out]; exact HB2.out
          subst hWB
          have HBN := Lib.hid (HBW.out.trans (hbi.mono HBW.out.size))
          clear hbi hW
          cases W
          all_goals
            go_wp2_with fail
            go_ret
            exact ⟨rfl, HBN.out⟩

end Go.Proofs.Ytfdbkocpljiehaa
