/- Walks: the law FiniteFano, whole. -/
import Derived.Test.YtfdbkocpljiehaaZf
import Derived.Test.YtfdbkocpljiehaaMf
set_option linter.unusedSimpArgs false
set_option linter.unusedVariables false
namespace Go.Proofs.Ytfdbkocpljiehaa
open Go.RowKit

def ptF (q0 q1 q2 q3 q4 q5 q6 q7 q8 q9 q10 q11 : Int) (j : Nat) : Int × Int × Int := if j = 0 then (q0, q1, q2) else if j = 1 then (q3, q4, q5) else if j = 2 then (q6, q7, q8) else (q9, q10, q11)
theorem AtIs.inS {w : World} {g : Nat} {pt : Nat → Int × Int × Int} (h : AtIs w g pt) (hg : g < w.heap.size) : InS w (some ⟨g, 0, none⟩) 4 pt := by
  intro i hi
  obtain ⟨⟨h1, h2, h3⟩, _⟩ := h i hi
  exact ⟨g, 0, rfl, hg, by rw [Nat.zero_add]; exact h1, by rw [Nat.zero_add]; exact h2, by rw [Nat.zero_add]; exact h3⟩

set_option maxRecDepth 100000 in
set_option maxHeartbeats 4000000 in
theorem FiniteFano9_bad (p q0 q1 q2 q3 q4 q5 q6 q7 q8 q9 q10 q11 : Int) (hp : isP p = false) (w : World) :
    Calls Try.prog 9 #[.int .i64 p, .agg #[.int .i64 q0, .int .i64 q1, .int .i64 q2, .int .i64 q3, .int .i64 q4, .int .i64 q5, .int .i64 q6, .int .i64 q7, .int .i64 q8, .int .i64 q9, .int .i64 q10, .int .i64 q11]] w fun e w' => e = .returned (.bool true) ∧ Below w.heap.size w w' := by
  have HP := Lib.hid hp
  clear hp
  go_enter Try.func9, Try.ntmps9
  go_upto_region 1 with fail
  have hB0 : Below w.heap.size w ((w.alloc (Obj.cells #[.int .i64 p] 3)).alloc (Obj.cells #[.int .i64 q0, .int .i64 q1, .int .i64 q2, .int .i64 q3, .int .i64 q4, .int .i64 q5, .int .i64 q6, .int .i64 q7, .int .i64 q8, .int .i64 q9, .int .i64 q10, .int .i64 q11] 61)) := ba_c (ba_c (Below.refl _ _) (Nat.le_refl _) _) (Nat.le_refl _) _
  have hcp : ((w.alloc (Obj.cells #[.int .i64 p] 3)).alloc (Obj.cells #[.int .i64 q0, .int .i64 q1, .int .i64 q2, .int .i64 q3, .int .i64 q4, .int .i64 q5, .int .i64 q6, .int .i64 q7, .int .i64 q8, .int .i64 q9, .int .i64 q10, .int .i64 q11] 61)).cell? ⟨w.heap.size, 0, none⟩ = some (.int .i64 p) := by simp [go_sem]
  have hcq : AtIs ((w.alloc (Obj.cells #[.int .i64 p] 3)).alloc (Obj.cells #[.int .i64 q0, .int .i64 q1, .int .i64 q2, .int .i64 q3, .int .i64 q4, .int .i64 q5, .int .i64 q6, .int .i64 q7, .int .i64 q8, .int .i64 q9, .int .i64 q10, .int .i64 q11] 61)) (w.heap.size + 1) (ptF q0 q1 q2 q3 q4 q5 q6 q7 q8 q9 q10 q11) := by
    intro j hj
    have hh : j = 0 ∨ j = 1 ∨ j = 2 ∨ j = 3 := by omega
    rcases hh with rfl | rfl | rfl | rfl <;> simp [go_sem, ptF]
  have hsz0 : w.heap.size + 2 ≤ ((w.alloc (Obj.cells #[.int .i64 p] 3)).alloc (Obj.cells #[.int .i64 q0, .int .i64 q1, .int .i64 q2, .int .i64 q3, .int .i64 q4, .int .i64 q5, .int .i64 q6, .int .i64 q7, .int .i64 q8, .int .i64 q9, .int .i64 q10, .int .i64 q11] 61)).heap.size := by simp
  generalize ((w.alloc (Obj.cells #[.int .i64 p] 3)).alloc (Obj.cells #[.int .i64 q0, .int .i64 q1, .int .i64 q2, .int .i64 q3, .int .i64 q4, .int .i64 q5, .int .i64 q6, .int .i64 q7, .int .i64 q8, .int .i64 q9, .int .i64 q10, .int .i64 q11] 61)) = W0 at *
  have HB0 := Lib.hid hB0
  have HQ0 := Lib.hid hcq
  have HI := Lib.hid (AtIs.inS hcq (by omega))
  clear hB0 hcq
  refine wp_region_T (Below (W0.heap.size) (W0)) 7 (by kernel_rfl) ?_ ?_
  · exact Below.drew (Below.refl _ _)
  intro HS
  refine wpT_takeP 1 (v := ?_) rfl (by kernel_rfl) (fun _ _ _ h => h) (by rfl) ?_ ?_ ?_
  rotate_left
  · (intro W; go_simp; first | done | with_reducible rfl)
  · (first | (intro _; with_reducible assumption) | (intro h0; cases h0))
  try simp only [Act.put, List.getElem_toArray, List.getElem_cons_zero, List.getElem_cons_succ, List.setIfInBounds_toArray, List.set_cons_zero, List.set_cons_succ]
  refine wpT_take 0 30 (v := ?_) rfl (by kernel_rfl) (fun _ _ _ h => h) (by rfl) ?_ HS ?_
  rotate_left
  · (intro W hW; have hq0 := fun o => hW.cell (p := ⟨w.heap.size, o, none⟩) (by simp <;> omega); go_simp; first | done | with_reducible rfl)
  try simp only [Act.put, List.getElem_toArray, List.getElem_cons_zero, List.getElem_cons_succ, List.setIfInBounds_toArray, List.set_cons_zero, List.set_cons_succ]
  refine wpT_one 2 (by kernel_rfl) rfl (fun K hK => ?_)
  go_simp
  refine (Arc26_bad _ _ HP.out _).mono ?_
  rintro e v1 ⟨rfl, hb⟩
  have HS := Below.trans HS (hb.mono HS.size)
  have HSV := HS
  clear hb
  refine hK.out _ _ ?_ ?_
  · (first | (intro _; with_reducible assumption) | (intro h0; cases h0))
  clear hK K
  try simp only [Act.put, List.getElem_toArray, List.getElem_cons_zero, List.getElem_cons_succ, List.setIfInBounds_toArray, List.set_cons_zero, List.set_cons_succ]
  refine wpT_takeP 3 (v := ?_) rfl (by kernel_rfl) (fun _ _ _ h => h) (by rfl) ?_ ?_ ?_
  rotate_left
  · (intro W; go_simp; first | done | with_reducible rfl)
  · (first | (intro _; with_reducible assumption) | (intro h0; cases h0))
  try simp only [Act.put, List.getElem_toArray, List.getElem_cons_zero, List.getElem_cons_succ, List.setIfInBounds_toArray, List.set_cons_zero, List.set_cons_succ]
  refine wpT_takeP 4 (v := ?_) rfl (by kernel_rfl) (fun _ _ _ h => h) (by rfl) ?_ ?_ ?_
  rotate_left
  · (intro W; go_simp; first | done | with_reducible rfl)
  · (first | (intro _; with_reducible assumption) | (intro h0; cases h0))
  try simp only [Act.put, List.getElem_toArray, List.getElem_cons_zero, List.getElem_cons_succ, List.setIfInBounds_toArray, List.set_cons_zero, List.set_cons_succ]
  refine wpT_takeP 5 (v := ?_) rfl (by kernel_rfl) (fun _ _ _ h => h) (by rfl) ?_ ?_ ?_
  rotate_left
  · (intro W; go_simp; first | done | with_reducible rfl)
  · (first | (intro _; with_reducible assumption) | (intro h0; cases h0))
  try simp only [Act.put, List.getElem_toArray, List.getElem_cons_zero, List.getElem_cons_succ, List.setIfInBounds_toArray, List.set_cons_zero, List.set_cons_succ]
  refine wpT_takeP 6 (v := ?_) rfl (by kernel_rfl) (fun _ _ _ h => h) (by rfl) ?_ ?_ ?_
  rotate_left
  · (intro W; go_simp; first | done | with_reducible rfl)
  · (first | (intro _; with_reducible assumption) | (intro h0; cases h0))
  try simp only [Act.put, List.getElem_toArray, List.getElem_cons_zero, List.getElem_cons_succ, List.setIfInBounds_toArray, List.set_cons_zero, List.set_cons_succ]
  refine wpT_one 7 (by kernel_rfl) rfl (fun K hK => ?_)
  go_simp
  refine hK.out _ _ ?_ ?_
  · (first | (intro _; with_reducible assumption) | (intro h0; cases h0; done) | (intro _; simp [go_sem]))
  clear hK K
  try simp only [Act.put, List.getElem_toArray, List.getElem_cons_zero, List.getElem_cons_succ, List.setIfInBounds_toArray, List.set_cons_zero, List.set_cons_succ]
  refine wpT_done (by kernel_rfl) ?_ _
  have HB1 := Lib.hid (HB0.out.trans (HS.mono HB0.out.size))
  have HQ1 := Lib.hid (HQ0.out.below HS (by omega))
  have hcp1 : v1.cell? ⟨w.heap.size, 0, none⟩ = some (.int .i64 p) := by rw [HS.cell (p := ⟨w.heap.size, 0, none⟩) (by simp; omega)]; exact hcp
  have hsz1 : W0.heap.size ≤ v1.heap.size := HS.size
  clear HS hcp HB0 HQ0
  go_wp2_with fail
  refine (counted14 _).mono ?_
  rintro e w2 ⟨rfl, hb⟩
  have HB2 := Lib.hid (HB1.out.trans (hb.mono HB1.out.size))
  clear hb
  go_wp2_with fail
  refine (counted14 _).mono ?_
  rintro e w3 ⟨rfl, hb⟩
  have HB3 := Lib.hid (HB2.out.trans (hb.mono HB2.out.size))
  clear hb
  go_wp2
  go_ret
  exact ⟨rfl, HB3.out⟩

set_option maxRecDepth 100000 in
set_option maxHeartbeats 4000000 in
theorem FiniteFano9_err (p q0 q1 q2 q3 q4 q5 q6 q7 q8 q9 q10 q11 : Int) (E : Int) (hp : isP p = true) (hE : errA p (ptF q0 q1 q2 q3 q4 q5 q6 q7 q8 q9 q10 q11) 4 = E) (hne : (E == 0) = false) (w : World) :
    Calls Try.prog 9 #[.int .i64 p, .agg #[.int .i64 q0, .int .i64 q1, .int .i64 q2, .int .i64 q3, .int .i64 q4, .int .i64 q5, .int .i64 q6, .int .i64 q7, .int .i64 q8, .int .i64 q9, .int .i64 q10, .int .i64 q11]] w fun e w' => e = .returned (.bool true) ∧ Below w.heap.size w w' := by
  have HP := Lib.hid hp
  clear hp
  have HE := Lib.hid hE
  have HNE := Lib.hid hne
  have hne2 : (E != 0) = true := by simpa using hne
  have hne3 : ¬ E = 0 := by simpa using hne
  clear hE hne
  go_enter Try.func9, Try.ntmps9
  go_upto_region 1 with fail
  have hB0 : Below w.heap.size w ((w.alloc (Obj.cells #[.int .i64 p] 3)).alloc (Obj.cells #[.int .i64 q0, .int .i64 q1, .int .i64 q2, .int .i64 q3, .int .i64 q4, .int .i64 q5, .int .i64 q6, .int .i64 q7, .int .i64 q8, .int .i64 q9, .int .i64 q10, .int .i64 q11] 61)) := ba_c (ba_c (Below.refl _ _) (Nat.le_refl _) _) (Nat.le_refl _) _
  have hcp : ((w.alloc (Obj.cells #[.int .i64 p] 3)).alloc (Obj.cells #[.int .i64 q0, .int .i64 q1, .int .i64 q2, .int .i64 q3, .int .i64 q4, .int .i64 q5, .int .i64 q6, .int .i64 q7, .int .i64 q8, .int .i64 q9, .int .i64 q10, .int .i64 q11] 61)).cell? ⟨w.heap.size, 0, none⟩ = some (.int .i64 p) := by simp [go_sem]
  have hcq : AtIs ((w.alloc (Obj.cells #[.int .i64 p] 3)).alloc (Obj.cells #[.int .i64 q0, .int .i64 q1, .int .i64 q2, .int .i64 q3, .int .i64 q4, .int .i64 q5, .int .i64 q6, .int .i64 q7, .int .i64 q8, .int .i64 q9, .int .i64 q10, .int .i64 q11] 61)) (w.heap.size + 1) (ptF q0 q1 q2 q3 q4 q5 q6 q7 q8 q9 q10 q11) := by
    intro j hj
    have hh : j = 0 ∨ j = 1 ∨ j = 2 ∨ j = 3 := by omega
    rcases hh with rfl | rfl | rfl | rfl <;> simp [go_sem, ptF]
  have hsz0 : w.heap.size + 2 ≤ ((w.alloc (Obj.cells #[.int .i64 p] 3)).alloc (Obj.cells #[.int .i64 q0, .int .i64 q1, .int .i64 q2, .int .i64 q3, .int .i64 q4, .int .i64 q5, .int .i64 q6, .int .i64 q7, .int .i64 q8, .int .i64 q9, .int .i64 q10, .int .i64 q11] 61)).heap.size := by simp
  generalize ((w.alloc (Obj.cells #[.int .i64 p] 3)).alloc (Obj.cells #[.int .i64 q0, .int .i64 q1, .int .i64 q2, .int .i64 q3, .int .i64 q4, .int .i64 q5, .int .i64 q6, .int .i64 q7, .int .i64 q8, .int .i64 q9, .int .i64 q10, .int .i64 q11] 61)) = W0 at *
  have HB0 := Lib.hid hB0
  have HQ0 := Lib.hid hcq
  have HI := Lib.hid (AtIs.inS hcq (by omega))
  clear hB0 hcq
  refine wp_region_T (Below (W0.heap.size) (W0)) 7 (by kernel_rfl) ?_ ?_
  · exact Below.drew (Below.refl _ _)
  intro HS
  refine wpT_takeP 1 (v := ?_) rfl (by kernel_rfl) (fun _ _ _ h => h) (by rfl) ?_ ?_ ?_
  rotate_left
  · (intro W; go_simp; first | done | with_reducible rfl)
  · (first | (intro _; with_reducible assumption) | (intro h0; cases h0))
  try simp only [Act.put, List.getElem_toArray, List.getElem_cons_zero, List.getElem_cons_succ, List.setIfInBounds_toArray, List.set_cons_zero, List.set_cons_succ]
  refine wpT_take 0 30 (v := ?_) rfl (by kernel_rfl) (fun _ _ _ h => h) (by rfl) ?_ HS ?_
  rotate_left
  · (intro W hW; have hq0 := fun o => hW.cell (p := ⟨w.heap.size, o, none⟩) (by simp <;> omega); go_simp; first | done | with_reducible rfl)
  try simp only [Act.put, List.getElem_toArray, List.getElem_cons_zero, List.getElem_cons_succ, List.setIfInBounds_toArray, List.set_cons_zero, List.set_cons_succ]
  refine wpT_one 2 (by kernel_rfl) rfl (fun K hK => ?_)
  go_simp
  refine (Arc26 _ _ _ _ (ptF q0 q1 q2 q3 q4 q5 q6 q7 q8 q9 q10 q11) false E HP.out (by omega) _ (InS.below HI.out HS) HE.out (by rw [HNE.out]; rfl)).mono ?_
  rintro e v1 ⟨rfl, hb⟩
  have HS := Below.trans HS (hb.mono HS.size)
  have HSV := HS
  clear hb
  refine hK.out _ _ ?_ ?_
  · (first | (intro _; with_reducible assumption) | (intro h0; cases h0))
  clear hK K
  try simp only [Act.put, List.getElem_toArray, List.getElem_cons_zero, List.getElem_cons_succ, List.setIfInBounds_toArray, List.set_cons_zero, List.set_cons_succ]
  refine wpT_takeP 3 (v := ?_) rfl (by kernel_rfl) (fun _ _ _ h => h) (by rfl) ?_ ?_ ?_
  rotate_left
  · (intro W; go_simp; first | done | with_reducible rfl)
  · (first | (intro _; with_reducible assumption) | (intro h0; cases h0))
  try simp only [Act.put, List.getElem_toArray, List.getElem_cons_zero, List.getElem_cons_succ, List.setIfInBounds_toArray, List.set_cons_zero, List.set_cons_succ]
  refine wpT_takeP 4 (v := ?_) rfl (by kernel_rfl) (fun _ _ _ h => h) (by rfl) ?_ ?_ ?_
  rotate_left
  · (intro W; go_simp; first | done | with_reducible rfl)
  · (first | (intro _; with_reducible assumption) | (intro h0; cases h0))
  try simp only [Act.put, List.getElem_toArray, List.getElem_cons_zero, List.getElem_cons_succ, List.setIfInBounds_toArray, List.set_cons_zero, List.set_cons_succ]
  refine wpT_takeP 5 (v := ?_) rfl (by kernel_rfl) (fun _ _ _ h => h) (by rfl) ?_ ?_ ?_
  rotate_left
  · (intro W; go_simp; first | done | with_reducible rfl)
  · (first | (intro _; with_reducible assumption) | (intro h0; cases h0))
  try simp only [Act.put, List.getElem_toArray, List.getElem_cons_zero, List.getElem_cons_succ, List.setIfInBounds_toArray, List.set_cons_zero, List.set_cons_succ]
  refine wpT_takeP 6 (v := ?_) rfl (by kernel_rfl) (fun _ _ _ h => h) (by rfl) ?_ ?_ ?_
  rotate_left
  · (intro W; go_simp; first | done | with_reducible rfl)
  · (first | (intro _; with_reducible assumption) | (intro h0; cases h0))
  try simp only [Act.put, List.getElem_toArray, List.getElem_cons_zero, List.getElem_cons_succ, List.setIfInBounds_toArray, List.set_cons_zero, List.set_cons_succ]
  refine wpT_one 7 (by kernel_rfl) rfl (fun K hK => ?_)
  go_simp
  refine hK.out _ _ ?_ ?_
  · (first | (intro _; with_reducible assumption) | (intro h0; cases h0; done) | (intro _; simp [go_sem]))
  clear hK K
  try simp only [Act.put, List.getElem_toArray, List.getElem_cons_zero, List.getElem_cons_succ, List.setIfInBounds_toArray, List.set_cons_zero, List.set_cons_succ]
  refine wpT_done (by kernel_rfl) ?_ _
  have HB1 := Lib.hid (HB0.out.trans (HS.mono HB0.out.size))
  have HQ1 := Lib.hid (HQ0.out.below HS (by omega))
  have hcp1 : v1.cell? ⟨w.heap.size, 0, none⟩ = some (.int .i64 p) := by rw [HS.cell (p := ⟨w.heap.size, 0, none⟩) (by simp; omega)]; exact hcp
  have hsz1 : W0.heap.size ≤ v1.heap.size := HS.size
  clear HS hcp HB0 HQ0
  go_wp2_with fail
  refine (counted14 _).mono ?_
  rintro e w2 ⟨rfl, hb⟩
  have HB2 := Lib.hid (HB1.out.trans (hb.mono HB1.out.size))
  clear hb
  go_wp2_with fail
  refine (counted14 _).mono ?_
  rintro e w3 ⟨rfl, hb⟩
  have HB3 := Lib.hid (HB2.out.trans (hb.mono HB2.out.size))
  clear hb
  go_wp2
  go_ret
  exact ⟨rfl, HB3.out⟩

set_option maxRecDepth 100000 in
set_option maxHeartbeats 4000000 in
theorem FiniteFano9_no (p q0 q1 q2 q3 q4 q5 q6 q7 q8 q9 q10 q11 : Int) (hp : isP p = true) (hE : errA p (ptF q0 q1 q2 q3 q4 q5 q6 q7 q8 q9 q10 q11) 4 = 0) (hB : arcB p (xT p (ptF q0 q1 q2 q3 q4 q5 q6 q7 q8 q9 q10 q11)) 4 = false) (w : World) :
    Calls Try.prog 9 #[.int .i64 p, .agg #[.int .i64 q0, .int .i64 q1, .int .i64 q2, .int .i64 q3, .int .i64 q4, .int .i64 q5, .int .i64 q6, .int .i64 q7, .int .i64 q8, .int .i64 q9, .int .i64 q10, .int .i64 q11]] w fun e w' => e = .returned (.bool true) ∧ Below w.heap.size w w' := by
  have HP := Lib.hid hp
  clear hp
  go_enter Try.func9, Try.ntmps9
  go_upto_region 1 with fail
  have hB0 : Below w.heap.size w ((w.alloc (Obj.cells #[.int .i64 p] 3)).alloc (Obj.cells #[.int .i64 q0, .int .i64 q1, .int .i64 q2, .int .i64 q3, .int .i64 q4, .int .i64 q5, .int .i64 q6, .int .i64 q7, .int .i64 q8, .int .i64 q9, .int .i64 q10, .int .i64 q11] 61)) := ba_c (ba_c (Below.refl _ _) (Nat.le_refl _) _) (Nat.le_refl _) _
  have hcp : ((w.alloc (Obj.cells #[.int .i64 p] 3)).alloc (Obj.cells #[.int .i64 q0, .int .i64 q1, .int .i64 q2, .int .i64 q3, .int .i64 q4, .int .i64 q5, .int .i64 q6, .int .i64 q7, .int .i64 q8, .int .i64 q9, .int .i64 q10, .int .i64 q11] 61)).cell? ⟨w.heap.size, 0, none⟩ = some (.int .i64 p) := by simp [go_sem]
  have hcq : AtIs ((w.alloc (Obj.cells #[.int .i64 p] 3)).alloc (Obj.cells #[.int .i64 q0, .int .i64 q1, .int .i64 q2, .int .i64 q3, .int .i64 q4, .int .i64 q5, .int .i64 q6, .int .i64 q7, .int .i64 q8, .int .i64 q9, .int .i64 q10, .int .i64 q11] 61)) (w.heap.size + 1) (ptF q0 q1 q2 q3 q4 q5 q6 q7 q8 q9 q10 q11) := by
    intro j hj
    have hh : j = 0 ∨ j = 1 ∨ j = 2 ∨ j = 3 := by omega
    rcases hh with rfl | rfl | rfl | rfl <;> simp [go_sem, ptF]
  have hsz0 : w.heap.size + 2 ≤ ((w.alloc (Obj.cells #[.int .i64 p] 3)).alloc (Obj.cells #[.int .i64 q0, .int .i64 q1, .int .i64 q2, .int .i64 q3, .int .i64 q4, .int .i64 q5, .int .i64 q6, .int .i64 q7, .int .i64 q8, .int .i64 q9, .int .i64 q10, .int .i64 q11] 61)).heap.size := by simp
  generalize ((w.alloc (Obj.cells #[.int .i64 p] 3)).alloc (Obj.cells #[.int .i64 q0, .int .i64 q1, .int .i64 q2, .int .i64 q3, .int .i64 q4, .int .i64 q5, .int .i64 q6, .int .i64 q7, .int .i64 q8, .int .i64 q9, .int .i64 q10, .int .i64 q11] 61)) = W0 at *
  have HB0 := Lib.hid hB0
  have HQ0 := Lib.hid hcq
  have HI := Lib.hid (AtIs.inS hcq (by omega))
  clear hB0 hcq
  refine wp_region_T (Below (W0.heap.size) (W0)) 7 (by kernel_rfl) ?_ ?_
  · exact Below.drew (Below.refl _ _)
  intro HS
  refine wpT_takeP 1 (v := ?_) rfl (by kernel_rfl) (fun _ _ _ h => h) (by rfl) ?_ ?_ ?_
  rotate_left
  · (intro W; go_simp; first | done | with_reducible rfl)
  · (first | (intro _; with_reducible assumption) | (intro h0; cases h0))
  try simp only [Act.put, List.getElem_toArray, List.getElem_cons_zero, List.getElem_cons_succ, List.setIfInBounds_toArray, List.set_cons_zero, List.set_cons_succ]
  refine wpT_take 0 30 (v := ?_) rfl (by kernel_rfl) (fun _ _ _ h => h) (by rfl) ?_ HS ?_
  rotate_left
  · (intro W hW; have hq0 := fun o => hW.cell (p := ⟨w.heap.size, o, none⟩) (by simp <;> omega); go_simp; first | done | with_reducible rfl)
  try simp only [Act.put, List.getElem_toArray, List.getElem_cons_zero, List.getElem_cons_succ, List.setIfInBounds_toArray, List.set_cons_zero, List.set_cons_succ]
  refine wpT_one 2 (by kernel_rfl) rfl (fun K hK => ?_)
  go_simp
  refine (Arc26 _ _ _ _ (ptF q0 q1 q2 q3 q4 q5 q6 q7 q8 q9 q10 q11) false 0 HP.out (by omega) _ (InS.below HI.out HS) hE (by rw [hB]; rfl)).mono ?_
  rintro e v1 ⟨rfl, hb⟩
  have HS := Below.trans HS (hb.mono HS.size)
  have HSV := HS
  clear hb
  refine hK.out _ _ ?_ ?_
  · (first | (intro _; with_reducible assumption) | (intro h0; cases h0))
  clear hK K
  try simp only [Act.put, List.getElem_toArray, List.getElem_cons_zero, List.getElem_cons_succ, List.setIfInBounds_toArray, List.set_cons_zero, List.set_cons_succ]
  refine wpT_takeP 3 (v := ?_) rfl (by kernel_rfl) (fun _ _ _ h => h) (by rfl) ?_ ?_ ?_
  rotate_left
  · (intro W; go_simp; first | done | with_reducible rfl)
  · (first | (intro _; with_reducible assumption) | (intro h0; cases h0))
  try simp only [Act.put, List.getElem_toArray, List.getElem_cons_zero, List.getElem_cons_succ, List.setIfInBounds_toArray, List.set_cons_zero, List.set_cons_succ]
  refine wpT_takeP 4 (v := ?_) rfl (by kernel_rfl) (fun _ _ _ h => h) (by rfl) ?_ ?_ ?_
  rotate_left
  · (intro W; go_simp; first | done | with_reducible rfl)
  · (first | (intro _; with_reducible assumption) | (intro h0; cases h0))
  try simp only [Act.put, List.getElem_toArray, List.getElem_cons_zero, List.getElem_cons_succ, List.setIfInBounds_toArray, List.set_cons_zero, List.set_cons_succ]
  refine wpT_takeP 5 (v := ?_) rfl (by kernel_rfl) (fun _ _ _ h => h) (by rfl) ?_ ?_ ?_
  rotate_left
  · (intro W; go_simp; first | done | with_reducible rfl)
  · (first | (intro _; with_reducible assumption) | (intro h0; cases h0))
  try simp only [Act.put, List.getElem_toArray, List.getElem_cons_zero, List.getElem_cons_succ, List.setIfInBounds_toArray, List.set_cons_zero, List.set_cons_succ]
  refine wpT_takeP 6 (v := ?_) rfl (by kernel_rfl) (fun _ _ _ h => h) (by rfl) ?_ ?_ ?_
  rotate_left
  · (intro W; go_simp; first | done | with_reducible rfl)
  · (first | (intro _; with_reducible assumption) | (intro h0; cases h0))
  try simp only [Act.put, List.getElem_toArray, List.getElem_cons_zero, List.getElem_cons_succ, List.setIfInBounds_toArray, List.set_cons_zero, List.set_cons_succ]
  refine wpT_one 7 (by kernel_rfl) rfl (fun K hK => ?_)
  go_simp
  refine hK.out _ _ ?_ ?_
  · (first | (intro _; with_reducible assumption) | (intro h0; cases h0; done) | (intro _; simp [go_sem]))
  clear hK K
  try simp only [Act.put, List.getElem_toArray, List.getElem_cons_zero, List.getElem_cons_succ, List.setIfInBounds_toArray, List.set_cons_zero, List.set_cons_succ]
  refine wpT_done (by kernel_rfl) ?_ _
  have HB1 := Lib.hid (HB0.out.trans (HS.mono HB0.out.size))
  have HQ1 := Lib.hid (HQ0.out.below HS (by omega))
  have hcp1 : v1.cell? ⟨w.heap.size, 0, none⟩ = some (.int .i64 p) := by rw [HS.cell (p := ⟨w.heap.size, 0, none⟩) (by simp; omega)]; exact hcp
  have hsz1 : W0.heap.size ≤ v1.heap.size := HS.size
  clear HS hcp HB0 HQ0
  go_wp2_with fail
  refine (counted14 _).mono ?_
  rintro e w2 ⟨rfl, hb⟩
  have HB2 := Lib.hid (HB1.out.trans (hb.mono HB1.out.size))
  clear hb
  go_wp2_with fail
  refine (counted14 _).mono ?_
  rintro e w3 ⟨rfl, hb⟩
  have HB3 := Lib.hid (HB2.out.trans (hb.mono HB2.out.size))
  clear hb
  go_wp2
  go_ret
  exact ⟨rfl, HB3.out⟩

set_option maxRecDepth 100000 in
set_option maxHeartbeats 8000000 in
theorem FiniteFano9_ok (p q0 q1 q2 q3 q4 q5 q6 q7 q8 q9 q10 q11 : Int) (hp : isP p = true) (hE : errA p (ptF q0 q1 q2 q3 q4 q5 q6 q7 q8 q9 q10 q11) 4 = 0) (hB : arcB p (xT p (ptF q0 q1 q2 q3 q4 q5 q6 q7 q8 q9 q10 q11)) 4 = true) (w : World) :
    Calls Try.prog 9 #[.int .i64 p, .agg #[.int .i64 q0, .int .i64 q1, .int .i64 q2, .int .i64 q3, .int .i64 q4, .int .i64 q5, .int .i64 q6, .int .i64 q7, .int .i64 q8, .int .i64 q9, .int .i64 q10, .int .i64 q11]] w fun e w' => e = .returned (.bool true) ∧ Below w.heap.size w w' := by
  obtain ⟨⟨a0, a1, a2⟩, ⟨b0, b1, b2⟩, ⟨x0, x1, x2⟩, ⟨c0, c1, c2⟩, ⟨d0, d1, d2⟩, ⟨y0, y1, y2⟩, ⟨e0, e1, e2⟩, ⟨f0, f1, f2⟩, ⟨z0, z1, z2⟩, ⟨l0, l1, l2⟩, ⟨ja, jb, jx⟩, ⟨jc, jd, jy⟩, ⟨je, jf, jz⟩, jl, nz, nl, hon⟩ := fano_arc hp hB
  have JA := Lib.hid ja
  have JB := Lib.hid jb
  have JX := Lib.hid jx
  have JC := Lib.hid jc
  have JD := Lib.hid jd
  have JY := Lib.hid jy
  have JE := Lib.hid je
  have JF := Lib.hid jf
  have JZ := Lib.hid jz
  have JL := Lib.hid jl
  clear ja jb jx jc jd jy je jf jz jl
  obtain ⟨⟨u0, u1, u2⟩, hu⟩ : ∃ u, pl p z0 z1 z2 = u := ⟨_, rfl⟩
  obtain ⟨⟨k0, k1, k2⟩, hv⟩ : ∃ u, pl p l0 l1 l2 = u := ⟨_, rfl⟩
  have hon2 := hon u0 u1 u2 k0 k1 k2 hu hv
  have HU := Lib.hid hu
  have HV := Lib.hid hv
  have NZ := Lib.hid nz
  have NL := Lib.hid nl
  have HP := Lib.hid hp
  have HE := Lib.hid hE
  have HB := Lib.hid hB
  obtain ⟨on, hbb⟩ : ∃ on, on = (p == 2) := ⟨_, rfl⟩
  rw [← hbb] at hon2
  have HON := Lib.hid hon2
  have HBB := Lib.hid hbb
  clear hon hon2 hu hv nz nl hp hE hB hbb
  go_enter Try.func9, Try.ntmps9
  go_upto_region 1 with fail
  have hB0 : Below w.heap.size w ((w.alloc (Obj.cells #[.int .i64 p] 3)).alloc (Obj.cells #[.int .i64 q0, .int .i64 q1, .int .i64 q2, .int .i64 q3, .int .i64 q4, .int .i64 q5, .int .i64 q6, .int .i64 q7, .int .i64 q8, .int .i64 q9, .int .i64 q10, .int .i64 q11] 61)) := ba_c (ba_c (Below.refl _ _) (Nat.le_refl _) _) (Nat.le_refl _) _
  have hcp : ((w.alloc (Obj.cells #[.int .i64 p] 3)).alloc (Obj.cells #[.int .i64 q0, .int .i64 q1, .int .i64 q2, .int .i64 q3, .int .i64 q4, .int .i64 q5, .int .i64 q6, .int .i64 q7, .int .i64 q8, .int .i64 q9, .int .i64 q10, .int .i64 q11] 61)).cell? ⟨w.heap.size, 0, none⟩ = some (.int .i64 p) := by simp [go_sem]
  have hcq : AtIs ((w.alloc (Obj.cells #[.int .i64 p] 3)).alloc (Obj.cells #[.int .i64 q0, .int .i64 q1, .int .i64 q2, .int .i64 q3, .int .i64 q4, .int .i64 q5, .int .i64 q6, .int .i64 q7, .int .i64 q8, .int .i64 q9, .int .i64 q10, .int .i64 q11] 61)) (w.heap.size + 1) (ptF q0 q1 q2 q3 q4 q5 q6 q7 q8 q9 q10 q11) := by
    intro j hj
    have hh : j = 0 ∨ j = 1 ∨ j = 2 ∨ j = 3 := by omega
    rcases hh with rfl | rfl | rfl | rfl <;> simp [go_sem, ptF]
  have hsz0 : w.heap.size + 2 ≤ ((w.alloc (Obj.cells #[.int .i64 p] 3)).alloc (Obj.cells #[.int .i64 q0, .int .i64 q1, .int .i64 q2, .int .i64 q3, .int .i64 q4, .int .i64 q5, .int .i64 q6, .int .i64 q7, .int .i64 q8, .int .i64 q9, .int .i64 q10, .int .i64 q11] 61)).heap.size := by simp
  generalize ((w.alloc (Obj.cells #[.int .i64 p] 3)).alloc (Obj.cells #[.int .i64 q0, .int .i64 q1, .int .i64 q2, .int .i64 q3, .int .i64 q4, .int .i64 q5, .int .i64 q6, .int .i64 q7, .int .i64 q8, .int .i64 q9, .int .i64 q10, .int .i64 q11] 61)) = W0 at *
  have HB0 := Lib.hid hB0
  have HQ0 := Lib.hid hcq
  have HI := Lib.hid (AtIs.inS hcq (by omega))
  clear hB0 hcq
  refine wp_region_T (Below (W0.heap.size) (W0)) 7 (by kernel_rfl) ?_ ?_
  · exact Below.drew (Below.refl _ _)
  intro HS
  refine wpT_takeP 1 (v := ?_) rfl (by kernel_rfl) (fun _ _ _ h => h) (by rfl) ?_ ?_ ?_
  rotate_left
  · (intro W; go_simp; first | done | with_reducible rfl)
  · (first | (intro _; with_reducible assumption) | (intro h0; cases h0))
  try simp only [Act.put, List.getElem_toArray, List.getElem_cons_zero, List.getElem_cons_succ, List.setIfInBounds_toArray, List.set_cons_zero, List.set_cons_succ]
  refine wpT_take 0 30 (v := ?_) rfl (by kernel_rfl) (fun _ _ _ h => h) (by rfl) ?_ HS ?_
  rotate_left
  · (intro W hW; have hq0 := fun o => hW.cell (p := ⟨w.heap.size, o, none⟩) (by simp <;> omega); go_simp; first | done | with_reducible rfl)
  try simp only [Act.put, List.getElem_toArray, List.getElem_cons_zero, List.getElem_cons_succ, List.setIfInBounds_toArray, List.set_cons_zero, List.set_cons_succ]
  refine wpT_one 2 (by kernel_rfl) rfl (fun K hK => ?_)
  go_simp
  refine (Arc26 _ _ _ _ (ptF q0 q1 q2 q3 q4 q5 q6 q7 q8 q9 q10 q11) true 0 HP.out (by omega) _ (InS.below HI.out HS) HE.out (by rw [HB.out]; rfl)).mono ?_
  rintro e v1 ⟨rfl, hb⟩
  have HS := Below.trans HS (hb.mono HS.size)
  have HSV := HS
  clear hb
  refine hK.out _ _ ?_ ?_
  · (first | (intro _; with_reducible assumption) | (intro h0; cases h0))
  clear hK K
  try simp only [Act.put, List.getElem_toArray, List.getElem_cons_zero, List.getElem_cons_succ, List.setIfInBounds_toArray, List.set_cons_zero, List.set_cons_succ]
  refine wpT_takeP 3 (v := ?_) rfl (by kernel_rfl) (fun _ _ _ h => h) (by rfl) ?_ ?_ ?_
  rotate_left
  · (intro W; go_simp; first | done | with_reducible rfl)
  · (first | (intro _; with_reducible assumption) | (intro h0; cases h0))
  try simp only [Act.put, List.getElem_toArray, List.getElem_cons_zero, List.getElem_cons_succ, List.setIfInBounds_toArray, List.set_cons_zero, List.set_cons_succ]
  refine wpT_takeP 4 (v := ?_) rfl (by kernel_rfl) (fun _ _ _ h => h) (by rfl) ?_ ?_ ?_
  rotate_left
  · (intro W; go_simp; first | done | with_reducible rfl)
  · (first | (intro _; with_reducible assumption) | (intro h0; cases h0))
  try simp only [Act.put, List.getElem_toArray, List.getElem_cons_zero, List.getElem_cons_succ, List.setIfInBounds_toArray, List.set_cons_zero, List.set_cons_succ]
  refine wpT_takeP 5 (v := ?_) rfl (by kernel_rfl) (fun _ _ _ h => h) (by rfl) ?_ ?_ ?_
  rotate_left
  · (intro W; go_simp; first | done | with_reducible rfl)
  · (first | (intro _; with_reducible assumption) | (intro h0; cases h0))
  try simp only [Act.put, List.getElem_toArray, List.getElem_cons_zero, List.getElem_cons_succ, List.setIfInBounds_toArray, List.set_cons_zero, List.set_cons_succ]
  refine wpT_takeP 6 (v := ?_) rfl (by kernel_rfl) (fun _ _ _ h => h) (by rfl) ?_ ?_ ?_
  rotate_left
  · (intro W; go_simp; first | done | with_reducible rfl)
  · (first | (intro _; with_reducible assumption) | (intro h0; cases h0))
  try simp only [Act.put, List.getElem_toArray, List.getElem_cons_zero, List.getElem_cons_succ, List.setIfInBounds_toArray, List.set_cons_zero, List.set_cons_succ]
  refine wpT_one 7 (by kernel_rfl) rfl (fun K hK => ?_)
  go_simp
  refine hK.out _ _ ?_ ?_
  · (first | (intro _; with_reducible assumption) | (intro h0; cases h0; done) | (intro _; simp [go_sem]))
  clear hK K
  try simp only [Act.put, List.getElem_toArray, List.getElem_cons_zero, List.getElem_cons_succ, List.setIfInBounds_toArray, List.set_cons_zero, List.set_cons_succ]
  refine wpT_done (by kernel_rfl) ?_ _
  have HB1 := Lib.hid (HB0.out.trans (HS.mono HB0.out.size))
  have HQ1 := Lib.hid (HQ0.out.below HS (by omega))
  have hcp1 : v1.cell? ⟨w.heap.size, 0, none⟩ = some (.int .i64 p) := by rw [HS.cell (p := ⟨w.heap.size, 0, none⟩) (by simp; omega)]; exact hcp
  have hsz1 : W0.heap.size ≤ v1.heap.size := HS.size
  clear HS hcp HB0 HQ0
  go_wp2_with fail
  refine (counted14 _).mono ?_
  rintro e w2 ⟨rfl, hb⟩
  have HB2 := Lib.hid (HB1.out.trans (hb.mono HB1.out.size))
  have HQ2 := Lib.hid (HQ1.out.below hb (by omega))
  have hcp2 : w2.cell? ⟨w.heap.size, 0, none⟩ = some (.int .i64 p) := by rw [hb.cell (p := ⟨w.heap.size, 0, none⟩) (by simp; omega)]; exact hcp1
  have hsz2 : v1.heap.size ≤ w2.heap.size := hb.size
  clear hb hcp1 HQ1 HB1
  go_wp2_with fail
  refine (Fano32 0 1 2 3 w.heap.size (w.heap.size + 1) (ptF q0 q1 q2 q3 q4 q5 q6 q7 q8 q9 q10 q11) p _ _ _ _ _ _ _ _ _ _ _ _ _ _ _ _ _ _ _ _ _ HP.out (by omega) (by omega) (by omega) (by omega) rfl rfl rfl rfl JA.out JB.out JX.out _ (by omega) (by omega) hcp2 HQ2.out).mono ?_
  rintro e w3 ⟨rfl, hb⟩
  have HB3 := Lib.hid (HB2.out.trans (hb.mono HB2.out.size))
  have HQ3 := Lib.hid (HQ2.out.below hb (by omega))
  have hcp3 : w3.cell? ⟨w.heap.size, 0, none⟩ = some (.int .i64 p) := by rw [hb.cell (p := ⟨w.heap.size, 0, none⟩) (by simp; omega)]; exact hcp2
  have hsz3 : w2.heap.size ≤ w3.heap.size := hb.size
  clear hb hcp2 HQ2 HB2
  go_wp2_with fail
  refine (Fano32 0 2 1 3 w.heap.size (w.heap.size + 1) (ptF q0 q1 q2 q3 q4 q5 q6 q7 q8 q9 q10 q11) p _ _ _ _ _ _ _ _ _ _ _ _ _ _ _ _ _ _ _ _ _ HP.out (by omega) (by omega) (by omega) (by omega) rfl rfl rfl rfl JC.out JD.out JY.out _ (by omega) (by omega) hcp3 HQ3.out).mono ?_
  rintro e w4 ⟨rfl, hb⟩
  have HB4 := Lib.hid (HB3.out.trans (hb.mono HB3.out.size))
  have HQ4 := Lib.hid (HQ3.out.below hb (by omega))
  have hcp4 : w4.cell? ⟨w.heap.size, 0, none⟩ = some (.int .i64 p) := by rw [hb.cell (p := ⟨w.heap.size, 0, none⟩) (by simp; omega)]; exact hcp3
  have hsz4 : w3.heap.size ≤ w4.heap.size := hb.size
  clear hb hcp3 HQ3 HB3
  go_wp2_with fail
  refine (Fano32 0 3 1 2 w.heap.size (w.heap.size + 1) (ptF q0 q1 q2 q3 q4 q5 q6 q7 q8 q9 q10 q11) p _ _ _ _ _ _ _ _ _ _ _ _ _ _ _ _ _ _ _ _ _ HP.out (by omega) (by omega) (by omega) (by omega) rfl rfl rfl rfl JE.out JF.out JZ.out _ (by omega) (by omega) hcp4 HQ4.out).mono ?_
  rintro e w5 ⟨rfl, hb⟩
  have HB5 := Lib.hid (HB4.out.trans (hb.mono HB4.out.size))
  have hcp5 : w5.cell? ⟨w.heap.size, 0, none⟩ = some (.int .i64 p) := by rw [hb.cell (p := ⟨w.heap.size, 0, none⟩) (by simp; omega)]; exact hcp4
  have hsz5 : w4.heap.size ≤ w5.heap.size := hb.size
  have hp5 : w.heap.size < w5.heap.size := by omega
  clear hb hcp4 HQ4 HB4
  go_upto_region 6 with fail
  have tp : (((w5.alloc (Obj.cells #[.int .i64 x0, .int .i64 x1, .int .i64 x2] 27)).alloc (Obj.cells #[.int .i64 y0, .int .i64 y1, .int .i64 y2] 27)).alloc (Obj.cells #[.int .i64 z0, .int .i64 z1, .int .i64 z2] 27)).cell? ⟨w.heap.size, 0, none⟩ = some (.int .i64 p) := by rw [World.cell?_alloc_lt _ _ _ (by simp; omega), World.cell?_alloc_lt _ _ _ (by simp; omega), World.cell?_alloc_lt _ _ _ (by simp; omega)]; exact hcp5
  have tx0 : (((w5.alloc (Obj.cells #[.int .i64 x0, .int .i64 x1, .int .i64 x2] 27)).alloc (Obj.cells #[.int .i64 y0, .int .i64 y1, .int .i64 y2] 27)).alloc (Obj.cells #[.int .i64 z0, .int .i64 z1, .int .i64 z2] 27)).cell? ⟨w5.heap.size, 0, none⟩ = some (.int .i64 x0) := by simp [go_sem]
  have tx1 : (((w5.alloc (Obj.cells #[.int .i64 x0, .int .i64 x1, .int .i64 x2] 27)).alloc (Obj.cells #[.int .i64 y0, .int .i64 y1, .int .i64 y2] 27)).alloc (Obj.cells #[.int .i64 z0, .int .i64 z1, .int .i64 z2] 27)).cell? ⟨w5.heap.size, 1, none⟩ = some (.int .i64 x1) := by simp [go_sem]
  have tx2 : (((w5.alloc (Obj.cells #[.int .i64 x0, .int .i64 x1, .int .i64 x2] 27)).alloc (Obj.cells #[.int .i64 y0, .int .i64 y1, .int .i64 y2] 27)).alloc (Obj.cells #[.int .i64 z0, .int .i64 z1, .int .i64 z2] 27)).cell? ⟨w5.heap.size, 2, none⟩ = some (.int .i64 x2) := by simp [go_sem]
  have ty0 : (((w5.alloc (Obj.cells #[.int .i64 x0, .int .i64 x1, .int .i64 x2] 27)).alloc (Obj.cells #[.int .i64 y0, .int .i64 y1, .int .i64 y2] 27)).alloc (Obj.cells #[.int .i64 z0, .int .i64 z1, .int .i64 z2] 27)).cell? ⟨w5.heap.size + 1, 0, none⟩ = some (.int .i64 y0) := by simp [go_sem]
  have ty1 : (((w5.alloc (Obj.cells #[.int .i64 x0, .int .i64 x1, .int .i64 x2] 27)).alloc (Obj.cells #[.int .i64 y0, .int .i64 y1, .int .i64 y2] 27)).alloc (Obj.cells #[.int .i64 z0, .int .i64 z1, .int .i64 z2] 27)).cell? ⟨w5.heap.size + 1, 1, none⟩ = some (.int .i64 y1) := by simp [go_sem]
  have ty2 : (((w5.alloc (Obj.cells #[.int .i64 x0, .int .i64 x1, .int .i64 x2] 27)).alloc (Obj.cells #[.int .i64 y0, .int .i64 y1, .int .i64 y2] 27)).alloc (Obj.cells #[.int .i64 z0, .int .i64 z1, .int .i64 z2] 27)).cell? ⟨w5.heap.size + 1, 2, none⟩ = some (.int .i64 y2) := by simp [go_sem]
  have tz0 : (((w5.alloc (Obj.cells #[.int .i64 x0, .int .i64 x1, .int .i64 x2] 27)).alloc (Obj.cells #[.int .i64 y0, .int .i64 y1, .int .i64 y2] 27)).alloc (Obj.cells #[.int .i64 z0, .int .i64 z1, .int .i64 z2] 27)).cell? ⟨w5.heap.size + 1 + 1, 0, none⟩ = some (.int .i64 z0) := by simp [go_sem]
  have tz1 : (((w5.alloc (Obj.cells #[.int .i64 x0, .int .i64 x1, .int .i64 x2] 27)).alloc (Obj.cells #[.int .i64 y0, .int .i64 y1, .int .i64 y2] 27)).alloc (Obj.cells #[.int .i64 z0, .int .i64 z1, .int .i64 z2] 27)).cell? ⟨w5.heap.size + 1 + 1, 1, none⟩ = some (.int .i64 z1) := by simp [go_sem]
  have tz2 : (((w5.alloc (Obj.cells #[.int .i64 x0, .int .i64 x1, .int .i64 x2] 27)).alloc (Obj.cells #[.int .i64 y0, .int .i64 y1, .int .i64 y2] 27)).alloc (Obj.cells #[.int .i64 z0, .int .i64 z1, .int .i64 z2] 27)).cell? ⟨w5.heap.size + 1 + 1, 2, none⟩ = some (.int .i64 z2) := by simp [go_sem]
  have hT : w5.heap.size + 3 ≤ (((w5.alloc (Obj.cells #[.int .i64 x0, .int .i64 x1, .int .i64 x2] 27)).alloc (Obj.cells #[.int .i64 y0, .int .i64 y1, .int .i64 y2] 27)).alloc (Obj.cells #[.int .i64 z0, .int .i64 z1, .int .i64 z2] 27)).heap.size := by simp
  have HBT := Lib.hid (show Below w.heap.size w (((w5.alloc (Obj.cells #[.int .i64 x0, .int .i64 x1, .int .i64 x2] 27)).alloc (Obj.cells #[.int .i64 y0, .int .i64 y1, .int .i64 y2] 27)).alloc (Obj.cells #[.int .i64 z0, .int .i64 z1, .int .i64 z2] 27)) from ba_c (ba_c (ba_c HB5.out (Nat.le_refl _) _) (Nat.le_refl _) _) (Nat.le_refl _) _)
  clear HB5 hcp5
  generalize (((w5.alloc (Obj.cells #[.int .i64 x0, .int .i64 x1, .int .i64 x2] 27)).alloc (Obj.cells #[.int .i64 y0, .int .i64 y1, .int .i64 y2] 27)).alloc (Obj.cells #[.int .i64 z0, .int .i64 z1, .int .i64 z2] 27)) = wt at *
  have hpt : w.heap.size < wt.heap.size := by omega
  go_wp2_with fail
  refine (Join17_is _ _ _ _ _ _ _ _ _ _ HP.out JL.out _).mono ?_
  rintro e w6 ⟨rfl, hb⟩
  have hsz6 : wt.heap.size ≤ w6.heap.size := hb.size
  have hcp6 : w6.cell? ⟨w.heap.size, 0, none⟩ = some (.int .i64 p) := by rw [hb.cell (p := ⟨w.heap.size, 0, none⟩) (by simp; omega)]; exact tp
  have m0 : w6.cell? ⟨w5.heap.size + 1 + 1, 0, none⟩ = some (.int .i64 z0) := by rw [hb.cell (by simp; omega)]; exact tz0
  have m1 : w6.cell? ⟨w5.heap.size + 1 + 1, 1, none⟩ = some (.int .i64 z1) := by rw [hb.cell (by simp; omega)]; exact tz1
  have m2 : w6.cell? ⟨w5.heap.size + 1 + 1, 2, none⟩ = some (.int .i64 z2) := by rw [hb.cell (by simp; omega)]; exact tz2
  have hm6 : w5.heap.size + 1 + 1 < w6.heap.size := by omega
  have hp6 : w.heap.size < w6.heap.size := by omega
  have HB6 := Lib.hid (HBT.out.trans (hb.mono HBT.out.size))
  clear hb tp tx0 tx1 tx2 ty0 ty1 ty2 tz0 tz1 tz2 HBT
  go_wp2_with fail
  refine (On20_ok _ _ _ _ _ _ _ _ _ _ _ _ _ HP.out HU.out NZ.out HV.out NL.out _).mono ?_
  rintro e w7 ⟨rfl, hb⟩
  rw [HON.out]
  have hcp7 : w7.cell? ⟨w.heap.size, 0, none⟩ = some (.int .i64 p) := by rw [hb.cell (p := ⟨w.heap.size, 0, none⟩) (by simp; omega), World.cell?_alloc_lt _ _ _ (by simp; omega)]; exact hcp6
  have h6' := ba_c HB6.out (Nat.le_refl _) (Obj.cells #[.int .i64 l0, .int .i64 l1, .int .i64 l2] 27)
  have HB7 := Lib.hid (h6'.trans (hb.mono h6'.size))
  clear hb h6' HB6
  have hq := HBB.out.symm
  cases on
  all_goals
    go_wp2_with fail
    go_ret
    exact ⟨rfl, HB7.out⟩

end Go.Proofs.Ytfdbkocpljiehaa
