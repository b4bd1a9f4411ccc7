/- Walks: allF; slices.Equal at [][3]int. -/
import Derived.Test.YtfdbkocpljiehaaWk
import Derived.Deep.DeepCutAuto
set_option linter.unusedSimpArgs false
set_option linter.unusedVariables false
namespace Go.Proofs.Ytfdbkocpljiehaa
open Go.RowKit

def OnlyDraws' (w w' : World) : Prop := ∃ n, w' = w.drewN n

set_option maxRecDepth 100000 in
set_option maxHeartbeats 2000000 in
theorem Equal24_same (b1 b2 c1 c2 len : Nat) (f : Nat → Int × Int × Int) (hlen : len ≤ 1000000) (w : World)
    (h1 : ∀ i, i < len → w.cell? ⟨b1, 3 * i, none⟩ = some (.int .i64 (f i).1) ∧ w.cell? ⟨b1, 3 * i + 1, none⟩ = some (.int .i64 (f i).2.1) ∧ w.cell? ⟨b1, 3 * i + 2, none⟩ = some (.int .i64 (f i).2.2))
    (h2 : ∀ i, i < len → w.cell? ⟨b2, 3 * i, none⟩ = some (.int .i64 (f i).1) ∧ w.cell? ⟨b2, 3 * i + 1, none⟩ = some (.int .i64 (f i).2.1) ∧ w.cell? ⟨b2, 3 * i + 2, none⟩ = some (.int .i64 (f i).2.2)) :
    Calls Try.prog 24 #[.slice (some ⟨b1, 0, none⟩) len c1, .slice (some ⟨b2, 0, none⟩) len c2] w fun e w' => e = .returned (.bool true) ∧ OnlyDraws' w w' := by
  have H1 := Lib.hid h1
  have H2 := Lib.hid h2
  clear h1 h2
  go_enter Try.func24, Try.ntmps24
  go_wp2
  go_loopw [13] (fun i wr => ∃ k : Nat, k ≤ len ∧ i = .int .i64 k ∧ ∃ n, wr = w.drewN n) (fun i _ => len - (intOf i).toNat)
  case atStart => exact ⟨0, by omega, rfl, 0, rfl⟩
  case round =>
    obtain ⟨k, hk, rfl, n, rfl⟩ := hrel
    by_cases hlt : k < len
    · obtain ⟨k1, k2, k3⟩ := H1.out k hlt
      obtain ⟨j1, j2, j3⟩ := H2.out k hlt
      have l1 : (0 : Int) ≤ (k : Int) := by omega
      have l2 : (k : Int) < (len : Int) := by omega
      have el : k * 3 = 3 * k := by omega
      go_wp2_with fail
      go_quiet (fail)
      go_wp2
      exact ⟨⟨k + 1, by omega, by go_num, _, rfl⟩, by simp [intOf]; omega⟩
    · go_wp2
      go_ret
      exact ⟨rfl, n, rfl⟩

set_option maxRecDepth 100000 in
set_option maxHeartbeats 4000000 in
theorem allF25 (P : Nat) (hp : isP P = true) (w : World) :
    Calls Try.prog 25 #[.int .i64 P] w fun e w' =>
      ∃ v, e = .returned v ∧ Gat P (P * P * P) w w' v := by
  obtain ⟨h, h'⟩ := isP_bd hp
  have HP := Lib.hid hp
  clear hp
  obtain ⟨i0, hi, hz0, hz1, hz2⟩ := info_parts info27
  have hPP : P * P ≤ 13 * 13 := Nat.mul_le_mul (by omega) (by omega)
  have hPPP : P * P * P ≤ 13 * 13 * 13 := Nat.mul_le_mul hPP (by omega)
  have q1 : (P : Int) * (P : Int) ≤ 169 := by have t : ((P * P : Nat) : Int) ≤ 169 := (by omega); rwa [Int.natCast_mul] at t
  have q2 : (P : Int) * (P : Int) * (P : Int) ≤ 2197 := by have t : ((P * P * P : Nat) : Int) ≤ 2197 := (by omega); rwa [Int.natCast_mul, Int.natCast_mul] at t
  have q3 : 4 ≤ (P : Int) * (P : Int) := Int.mul_le_mul (a := 2) (b := 2) (by omega) (by omega) (by omega) (by omega)
  have q4 : 0 ≤ (P : Int) * (P : Int) * (P : Int) := Int.mul_nonneg (by omega) (by omega)
  have e1 : IntKind.i64.wrap ((P : Int) * P) = (P : Int) * P := IntWalk.i64_in _ (by omega)
  go_enter Try.func25, Try.ntmps25
  go_wp2_with fail
  go_loopw [3, 13] (fun v i wr => ∃ k : Nat, k ≤ P * P * P ∧ i = .int .i64 k ∧ Gat P k w wr v) (fun _ i _ => P * P * P - (intOf i).toNat)
  case atStart => exact ⟨0, by omega, rfl, by simpa [allK, flat] using World.ownsRow_nil _ _ _ _, Below.refl _ _⟩
  case round =>
    obtain ⟨k, hk, rfl, hg⟩ := hrel
    obtain ⟨wc, rfl⟩ : ∃ wo : World, wo = wr := ⟨_, rfl⟩
    by_cases hlt : k < P * P * P
    · have hlt' : (k : Int) < (P : Int) * (P : Int) * (P : Int) := by have t : (k : Int) < ((P * P * P : Nat) : Int) := (by omega); rwa [Int.natCast_mul, Int.natCast_mul] at t
      have k0 : (0 : Int) ≤ (k : Int) := by omega
      have d1 : 0 ≤ (k : Int) / ((P : Int) * P) := Int.ediv_nonneg k0 (by omega)
      have d2 : (k : Int) / ((P : Int) * P) ≤ k := Int.ediv_le_self _ k0
      have d3 : 0 ≤ (k : Int) / (P : Int) := Int.ediv_nonneg k0 (by omega)
      have d4 : (k : Int) / (P : Int) ≤ k := Int.ediv_le_self _ k0
      have f1 : IntKind.i64.wrap ((k : Int) / ((P : Int) * P)) = (k : Int) / ((P : Int) * P) := IntWalk.i64_in _ (by omega)
      have f2 : IntKind.i64.wrap ((k : Int) / (P : Int)) = (k : Int) / (P : Int) := IntWalk.i64_in _ (by omega)
      have f3 : ((k : Int) / (P : Int)).tmod P = (k : Int) / (P : Int) % P := Int.tmod_eq_emod_of_nonneg d3
      have f4 : (k : Int).tmod P = (k : Int) % P := Int.tmod_eq_emod_of_nonneg k0
      have n1 : ¬ ((P : Int) * P = 0) := by omega
      have n2 : ¬ (P = 0) := by omega
      have htr : trip P k = ((k : Int) / ((P : Int) * P), (k : Int) / (P : Int) % P, (k : Int) % P) := by simp [trip]
      have HTR := Lib.hid htr
      clear htr
      go_wp2_with fail
      refine wp_region_T (fun _ => True) 15 (by kernel_rfl) trivial ?_
      intro HS
      refine wpT_takeP 0 (v := ?_) rfl (by kernel_rfl) (fun _ _ _ h => h) (by rfl) ?_ (fun _ => trivial) ?_
      rotate_left
      · (intro W; go_simp; first | done | with_reducible rfl)
      try simp only [Act.put, List.setIfInBounds_toArray, List.set_cons_zero, List.set_cons_succ]
      refine wpT_takeP 1 (v := ?_) rfl (by kernel_rfl) (fun _ _ _ h => h) (by rfl) ?_ (fun _ => trivial) ?_
      rotate_left
      · (intro W; go_simp; first | done | with_reducible rfl)
      try simp only [Act.put, List.setIfInBounds_toArray, List.set_cons_zero, List.set_cons_succ]
      refine wpT_takeP 2 (v := ?_) rfl (by kernel_rfl) (fun _ _ _ h => h) (by rfl) ?_ (fun _ => trivial) ?_
      rotate_left
      · (intro W; go_simp; first | done | with_reducible rfl)
      try simp only [Act.put, List.setIfInBounds_toArray, List.set_cons_zero, List.set_cons_succ]
      refine wpT_takeP 3 (v := ?_) rfl (by kernel_rfl) (fun _ _ _ h => h) (by rfl) ?_ (fun _ => trivial) ?_
      rotate_left
      · (intro W; go_simp; first | done | with_reducible rfl)
      try simp only [Act.put, List.setIfInBounds_toArray, List.set_cons_zero, List.set_cons_succ]
      refine wpT_takeP 4 (v := ?_) rfl (by kernel_rfl) (fun _ _ _ h => h) (by rfl) ?_ (fun _ => trivial) ?_
      rotate_left
      · (intro W; go_simp; first | done | with_reducible rfl)
      try simp only [Act.put, List.setIfInBounds_toArray, List.set_cons_zero, List.set_cons_succ]
      refine wpT_takeP 5 (v := ?_) rfl (by kernel_rfl) (fun _ _ _ h => h) (by rfl) ?_ (fun _ => trivial) ?_
      rotate_left
      · (intro W; go_simp; first | done | with_reducible rfl)
      try simp only [Act.put, List.setIfInBounds_toArray, List.set_cons_zero, List.set_cons_succ]
      refine wpT_takeP 6 (v := ?_) rfl (by kernel_rfl) (fun _ _ _ h => h) (by rfl) ?_ (fun _ => trivial) ?_
      rotate_left
      · (intro W; go_simp; first | done | with_reducible rfl)
      try simp only [Act.put, List.setIfInBounds_toArray, List.set_cons_zero, List.set_cons_succ]
      refine wpT_takeP 7 (v := ?_) rfl (by kernel_rfl) (fun _ _ _ h => h) (by rfl) ?_ (fun _ => trivial) ?_
      rotate_left
      · (intro W; go_simp; first | done | with_reducible rfl)
      try simp only [Act.put, List.setIfInBounds_toArray, List.set_cons_zero, List.set_cons_succ]
      refine wpT_takeP 8 (v := ?_) rfl (by kernel_rfl) (fun _ _ _ h => h) (by rfl) ?_ (fun _ => trivial) ?_
      rotate_left
      · (intro W; go_simp; first | done | with_reducible rfl)
      try simp only [Act.put, List.setIfInBounds_toArray, List.set_cons_zero, List.set_cons_succ]
      refine wpT_takeP 9 (v := ?_) rfl (by kernel_rfl) (fun _ _ _ h => h) (by rfl) ?_ (fun _ => trivial) ?_
      rotate_left
      · (intro W; go_simp; first | done | with_reducible rfl)
      try simp only [Act.put, List.setIfInBounds_toArray, List.set_cons_zero, List.set_cons_succ]
      refine wpT_takeP 10 (v := ?_) rfl (by kernel_rfl) (fun _ _ _ h => h) (by rfl) ?_ (fun _ => trivial) ?_
      rotate_left
      · (intro W; go_simp; first | done | with_reducible rfl)
      try simp only [Act.put, List.setIfInBounds_toArray, List.set_cons_zero, List.set_cons_succ]
      refine wpT_takeP 11 (v := ?_) rfl (by kernel_rfl) (fun _ _ _ h => h) (by rfl) ?_ (fun _ => trivial) ?_
      rotate_left
      · (intro W; go_simp; first | done | with_reducible rfl)
      try simp only [Act.put, List.setIfInBounds_toArray, List.set_cons_zero, List.set_cons_succ]
      refine wpT_takeP 12 (v := ?_) rfl (by kernel_rfl) (fun _ _ _ h => h) (by rfl) ?_ (fun _ => trivial) ?_
      rotate_left
      · (intro W; go_simp; first | done | with_reducible rfl)
      try simp only [Act.put, List.setIfInBounds_toArray, List.set_cons_zero, List.set_cons_succ]
      refine wpT_takeP 13 (v := ?_) rfl (by kernel_rfl) (fun _ _ _ h => h) (by rfl) ?_ (fun _ => trivial) ?_
      rotate_left
      · (intro W; go_simp; first | done | with_reducible rfl)
      try simp only [Act.put, List.setIfInBounds_toArray, List.set_cons_zero, List.set_cons_succ]
      refine wpT_one 14 (by kernel_rfl) rfl (fun K hK => ?_)
      go_simp
      refine hK.out _ _ (fun _ => trivial) ?_
      clear hK K
      try simp only [Act.put, List.setIfInBounds_toArray, List.set_cons_zero, List.set_cons_succ]
      refine wpT_one 15 (by kernel_rfl) rfl (fun K hK => ?_)
      go_simp
      refine hK.out _ _ (fun _ => trivial) ?_
      clear hK K
      try simp only [Act.put, List.setIfInBounds_toArray, List.set_cons_zero, List.set_cons_succ]
      refine wpT_done (by kernel_rfl) ?_ _
      clear f1 f2 f3 f4 n1 n2 e1
      generalize (k : Int) / ((P : Int) * P) = X at *
      generalize (k : Int) / (P : Int) % P = Y at *
      generalize (k : Int) % P = Z at *
      obtain ⟨⟨u0, u1, u2⟩, hu⟩ : ∃ u, pl P X Y Z = u := ⟨_, rfl⟩
      have HU := Lib.hid hu
      clear hu
      cases hz : zz P X Y Z
      · have HZ := Lib.hid hz
        clear hz
        cases hq : (u0 == X && (u1 == Y && u2 == Z))
        · have HQ := Lib.hid hq
          go_wp2_with fail
          refine (plainF21e _ _ _ _ _ _ _ _ HU.out HZ.out HP.out _).mono ?_
          rintro e w1 ⟨rfl, hb1⟩
          have hX0 : w1.cell? ⟨wc.heap.size, 0, none⟩ = some (.int .i64 X) := by rw [hb1.cell (by simp)]; simp [go_sem]
          have hX1 : w1.cell? ⟨wc.heap.size, 1, none⟩ = some (.int .i64 Y) := by rw [hb1.cell (by simp)]; simp [go_sem]
          have hX2 : w1.cell? ⟨wc.heap.size, 2, none⟩ = some (.int .i64 Z) := by rw [hb1.cell (by simp)]; simp [go_sem]
          have hs1 : wc.heap.size < w1.heap.size := by have := hb1.size; simp at this; omega
          have hb2 : Below wc.heap.size wc w1 := Below.trans (Below.drew ((Below.refl _ _).alloc (Nat.le_refl _) _)) (hb1.mono (by simp))
          have HB1 := Lib.hid hb2
          clear hb1 hb2
          go_wp2_with fail
          refine ⟨⟨k + 1, by omega, by go_num, ?_⟩, by simp [intOf]; omega⟩
          refine gat_skip hg HB1.out ?_ _
          rw [HTR.out]
          exact nrm_ne HU.out HQ.out
        · have HQ := Lib.hid hq
          go_wp2_with fail
          refine (plainF21e _ _ _ _ _ _ _ _ HU.out HZ.out HP.out _).mono ?_
          rintro e w1 ⟨rfl, hb1⟩
          have hX0 : w1.cell? ⟨wc.heap.size, 0, none⟩ = some (.int .i64 X) := by rw [hb1.cell (by simp)]; simp [go_sem]
          have hX1 : w1.cell? ⟨wc.heap.size, 1, none⟩ = some (.int .i64 Y) := by rw [hb1.cell (by simp)]; simp [go_sem]
          have hX2 : w1.cell? ⟨wc.heap.size, 2, none⟩ = some (.int .i64 Z) := by rw [hb1.cell (by simp)]; simp [go_sem]
          have hs1 : wc.heap.size < w1.heap.size := by have := hb1.size; simp at this; omega
          have hb2 : Below wc.heap.size wc w1 := Below.trans (Below.drew ((Below.refl _ _).alloc (Nat.le_refl _) _)) (hb1.mono (by simp))
          have HB1 := Lib.hid hb2
          have HO := Lib.hid (fun o1 o2 => ownsRow_alloc (ownsRow_alloc (ownsRow_below hg.1 hb2) o1) o2)
          have hsz : w.heap.size ≤ w1.heap.size := Nat.le_trans hg.2.size hb2.size
          have hlen := allK_le P k
          have HG := Lib.hid hg
          clear hb1 hb2 hg
          go_wp2_with (at_builtin; refine wpList_append_own _ rfl _ _ 45 rfl w.heap.size 27 i0 (.agg #[.int .i64 0, .int .i64 0, .int .i64 0]) 3 24 Try.underlying45 hi hz0 hz1 hz2 rfl (by decide) _ _ _ rfl (HO.out _ _) ⟨w1.heap.size + 1, 0, none⟩ 1 1 (hv (X, Y, Z)) rfl rfl ?c1 ?c2 ?c3 ?c4 ?c5 ?_)
          case c1 =>
            intro j u hj
            match j, hj with
            | 0, hj => simp [hv] at hj; subst hj; simp [go_sem, Addr.add]
            | 1, hj => simp [hv] at hj; subst hj; simp [go_sem, Addr.add]
            | 2, hj => simp [hv] at hj; subst hj; simp [go_sem, Addr.add]
          case c2 => intro u hu; simp [hv] at hu; rcases hu with rfl | rfl | rfl <;> rfl
          case c3 => unfold maxLen; omega
          case c4 => omega
          case c5 => simp; omega
          intro v' w2 hown' hgrow _
          have HN := Lib.hid hown'
          have HW := Lib.hid hgrow
          clear hown' hgrow
          go_wp2
          refine ⟨⟨k + 1, by omega, by go_num, ?_⟩, by simp [intOf]; omega⟩
          refine gat_keep (k := k) HG.out HB1.out ?_ ?_ HW.out
          · rw [HTR.out]; exact nrm_eq HU.out HZ.out HQ.out
          · rw [HTR.out]; exact HN.out
      · have HZ := Lib.hid hz
        clear hz
        go_wp2_with fail
        refine (plainF21e _ _ _ _ _ _ _ _ HU.out HZ.out HP.out _).mono ?_
        rintro e w1 ⟨rfl, hb1⟩
        have hX0 : w1.cell? ⟨wc.heap.size, 0, none⟩ = some (.int .i64 X) := by rw [hb1.cell (by simp)]; simp [go_sem]
        have hX1 : w1.cell? ⟨wc.heap.size, 1, none⟩ = some (.int .i64 Y) := by rw [hb1.cell (by simp)]; simp [go_sem]
        have hX2 : w1.cell? ⟨wc.heap.size, 2, none⟩ = some (.int .i64 Z) := by rw [hb1.cell (by simp)]; simp [go_sem]
        have hs1 : wc.heap.size < w1.heap.size := by have := hb1.size; simp at this; omega
        have hb2 : Below wc.heap.size wc w1 := Below.trans (Below.drew ((Below.refl _ _).alloc (Nat.le_refl _) _)) (hb1.mono (by simp))
        have HB1 := Lib.hid hb2
        clear hb1 hb2
        go_wp2_with fail
        refine ⟨⟨k + 1, by omega, by go_num, ?_⟩, by simp [intOf]; omega⟩
        refine gat_skip hg HB1.out ?_ _
        rw [HTR.out]
        simp [nrm, HZ.out]
    · have hge' : ¬ (k : Int) < (P : Int) * (P : Int) * (P : Int) := by have t : ¬ (k : Int) < ((P * P * P : Nat) : Int) := (by omega); rwa [Int.natCast_mul, Int.natCast_mul] at t
      go_wp2
      have hkp : k = P * P * P := by omega
      rw [hkp] at hg
      go_ret
      exact ⟨_, rfl, hg⟩

end Go.Proofs.Ytfdbkocpljiehaa
