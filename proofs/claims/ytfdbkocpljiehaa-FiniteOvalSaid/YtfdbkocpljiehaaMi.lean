/- Plain law: a map makes an arc of an arc; the conic x z = y y is one. No Go in sight. -/
import Derived.Test.YtfdbkocpljiehaaMh
import Derived.Test.YtfdbkocpljiehaaMf
import Derived.Test.YtfdbkocpljiehaaXb
set_option linter.unusedSimpArgs false
set_option linter.unusedVariables false
namespace Go.Proofs.Ytfdbkocpljiehaa

theorem errA_all {p : Int} {f : Nat → Int × Int × Int} : ∀ {n : Nat}, errA p f n = 0 → ∀ m, m < n → badA p f m = 0
  | 0, _, m, hm => by omega
  | n + 1, h, m, hm => by
    unfold errA at h
    by_cases h0 : errA p f n = 0
    · rw [if_pos h0] at h
      rcases Nat.lt_or_ge m n with hx | hx
      · exact errA_all h0 m hx
      · have : m = n := by omega
        rw [this]; exact h
    · rw [if_neg h0] at h; exact absurd h h0
theorem errA_of {p : Int} {f : Nat → Int × Int × Int} : ∀ {n : Nat}, (∀ m, m < n → badA p f m = 0) → errA p f n = 0
  | 0, _ => rfl
  | n + 1, h => by
    unfold errA
    rw [if_pos (errA_of fun m hm => h m (by omega))]
    exact h n (by omega)
theorem bad_parts {p : Int} {f : Nat → Int × Int × Int} {m : Nat} (h : badA p f m = 0) : zT p f m = false ∧ hasT (xT p f) (xT p f m) m = false := by
  unfold badA at h
  cases hz : zT p f m
  · rw [hz, if_neg (by decide)] at h
    cases hh : hasT (xT p f) (xT p f m) m
    · exact ⟨rfl, rfl⟩
    · rw [hh, if_pos rfl] at h; cases h
  · rw [hz, if_pos rfl] at h; cases h
theorem hasT_not {f : Nat → Int × Int × Int} {y : Int × Int × Int} {n : Nat} (h : hasT f y n = false) : ∀ j, j < n → y ≠ f j := fun j hj e => by
  have := List.any_eq_false.1 h j (List.mem_range.2 hj)
  rw [eqT_iff] at this
  exact this e
theorem hasT_of {f : Nat → Int × Int × Int} {y : Int × Int × Int} {n : Nat} (h : ∀ j, j < n → y ≠ f j) : hasT f y n = false := by
  refine List.any_eq_false.2 fun j hj => ?_
  rw [eqT_iff]
  exact h j (List.mem_range.1 hj)

section
variable {n : Nat} [NeZero n]
theorem vm_det (a0 a1 a2 a3 a4 a5 a6 a7 a8 : Fin n) (a b c : Fin n × Fin n × Fin n) :
    vd (vx (vm a0 a1 a2 a3 a4 a5 a6 a7 a8 a) (vm a0 a1 a2 a3 a4 a5 a6 a7 a8 b)) (vm a0 a1 a2 a3 a4 a5 a6 a7 a8 c) = dt a0 a1 a2 a3 a4 a5 a6 a7 a8 * vd (vx a b) c := by
  simp only [vd, vx, vm, dt]; grind
end

theorem okK_iff {n : Nat} [NeZero n] {x : Nat → Int × Int × Int} {i j k : Nat} : okK n x i j k = true ↔ vd (vx (cV n (x i)) (cV n (x j))) (cV n (x k)) ≠ 0 := by
  have e1 := cV_dot (n := n) (crT (x i) (x j)) (x k)
  have e2 : cV n (crT (x i) (x j)) = _ := cV_cross (n := n) (x i) (x j)
  rw [e2] at e1
  unfold okK
  rw [bne_iff_ne, ne_eq, ne_eq, ← cF_iff0 (n := n), show cF n (dtT (crT (x i) (x j)) (x k)) = _ from e1]
theorem arcB_all {p : Int} {x : Nat → Int × Int × Int} {n : Nat} (h : arcB p x n = true) : ∀ i j k, i < n → j < i → k < j → okK p x i j k = true := fun i j k hi hj hk => by
  cases ho : okK p x i j k
  · rw [arcB_not hi hj hk ho] at h; cases h
  · rfl
theorem arcB_of' {p : Int} {x : Nat → Int × Int × Int} {n : Nat} (h : ∀ i j k, i < n → j < i → k < j → okK p x i j k = true) : arcB p x n = true :=
  arcB_of fun i hi => okI_of fun j hj => okJ_of fun k hk => h i j k hi hj hk

/-- a map makes an arc of an arc -/
theorem arc_map {P : Nat} [NeZero P] (hp : isP P = true) {A0 A1 A2 A3 A4 A5 A6 A7 A8 : Int} (hd : DD P A0 A1 A2 A3 A4 A5 A6 A7 A8 ≠ 0) {f g : Nat → Int × Int × Int} {n : Nat} (hf : ∀ i, i < n → Nm P (f i)) (hg : ∀ i, i < n → g i = stp P A0 A1 A2 A3 A4 A5 A6 A7 A8 (f i))
    (hE : errA P f n = 0) (hB : arcB P (xT P f) n = true) : errA P g n = 0 ∧ arcB P (xT P g) n = true := by
  have hn : 2 ≤ P := by have := isP_cases hp; omega
  have xf : ∀ i, i < n → xT P f i = f i := fun i hi => nm_pl hp (hf i hi)
  have rep : ∀ i, i < n → Nm P (g i) ∧ Rep (g i) (MM P A0 A1 A2 A3 A4 A5 A6 A7 A8 (cV P (f i))) := fun i hi => by
    rw [hg i hi]
    exact stp_rep hn hp hd (nm_nz (by omega) (hf i hi))
  have xg : ∀ i, i < n → xT P g i = g i := fun i hi => nm_pl hp (rep i hi).1
  refine ⟨errA_of fun m hm => ?_, arcB_of' fun i j k hi hj hk => ?_⟩
  · obtain ⟨_, h2⟩ := bad_parts (errA_all hE m hm)
    unfold badA
    have hz : zT P g m = false := nm_nz (by omega) (rep m hm).1
    rw [hz, if_neg (by decide)]
    have hh : hasT (xT P g) (xT P g m) m = false := hasT_of fun j hj e => by
      rw [xg m hm, xg j (by omega), hg m hm, hg j (by omega)] at e
      have := stp_inj hn hp hd (hf m hm) (hf j (by omega)) e
      exact hasT_not h2 j hj (by rw [xf m hm, xf j (by omega)]; exact this)
    rw [hh, if_neg (by decide)]
  · have h1 := okK_iff.1 (arcB_all hB i j k hi hj hk)
    rw [okK_iff]
    rw [xf i hi, xf j (by omega), xf k (by omega)] at h1
    rw [xg i hi, xg j (by omega), xg k (by omega)]
    obtain ⟨_, a, a', ha, ea⟩ := rep i hi
    obtain ⟨_, b, b', hb, eb⟩ := rep j (by omega)
    obtain ⟨_, c, c', hc, ec⟩ := rep k (by omega)
    rw [ea, eb, ec, vx_s, vd_s]
    refine fmul_ne hp (unit_of hn (show (a * b * c) * (a' * b' * c') = 1 by grind)) ?_
    unfold MM
    rw [vm_det]
    exact fmul_ne hp hd h1

/-- the conic x z = y y, point by point -/
def ovL (P : Nat) : List (Int × Int × Int) := selK P 0 ((P : Int) - 1) 0 0 1 0 (allK P (P * P * P)).length
theorem oval_all : (six.all fun P => (ovL P).length == P + 1 && (errA P (fun i => (ovL P).getD i (0, 0, 0)) (P + 1) == 0 && arcB P (xT P fun i => (ovL P).getD i (0, 0, 0)) (P + 1))) = true := by decide +kernel
theorem oval_at {P : Nat} (hp : isP P = true) : (ovL P).length = P + 1 ∧ errA P (fun i => (ovL P).getD i (0, 0, 0)) (P + 1) = 0 ∧ arcB P (xT P fun i => (ovL P).getD i (0, 0, 0)) (P + 1) = true := by
  have h := List.all_eq_true.1 oval_all P (isP_six hp)
  simp only [Bool.and_eq_true, beq_iff_eq] at h
  exact h
theorem oval_nm {P : Nat} (hp : isP P = true) {i : Nat} (hi : i < (ovL P).length) : Nm P ((ovL P).getD i (0, 0, 0)) := by
  have h1 : (ovL P).getD i (0, 0, 0) ∈ ovL P := getD_mem hi
  have h2 : (ovL P).getD i (0, 0, 0) ∈ allK P (P * P * P) := by
    have h3 : (ovL P).getD i (0, 0, 0) ∈ (allK P (P * P * P)).take _ := (List.mem_filter.1 h1).1
    exact List.mem_of_mem_take h3
  obtain ⟨h3, h4⟩ := nrm_iff (allK_mem h2)
  have h5 := (pl_spec hp h3).1
  rw [h4] at h5
  exact h5
end Go.Proofs.Ytfdbkocpljiehaa
