/- Walks: counted. -/
import Derived.Test.YtfdbkocpljiehaaWj
import Derived.Test.YtfdbkocpljiehaaWo
import Derived.Laws.OwnMore
import Derived.Deep.AppendLies
set_option linter.unusedSimpArgs false
set_option linter.unusedVariables false
namespace Go.Proofs.Ytfdbkocpljiehaa
open Go.RowKit

/-- a gathered slice, its cells point by point -/
theorem Gat.open {P k : Nat} {w0 w : World} {v : Value} (h : Gat P k w0 w v) (hn : 0 < (allK P k).length) :
    ∃ g cap, v = .slice (some ⟨g, 0, none⟩) (allK P k).length cap ∧ w0.heap.size ≤ g ∧ g < w.heap.size ∧ (allK P k).length ≤ cap ∧
      ∀ i, i < (allK P k).length → w.cell? ⟨g, 3 * i, none⟩ = some (.int .i64 ((allK P k).getD i (0, 0, 0)).1) ∧ w.cell? ⟨g, 3 * i + 1, none⟩ = some (.int .i64 ((allK P k).getD i (0, 0, 0)).2.1) ∧
        w.cell? ⟨g, 3 * i + 2, none⟩ = some (.int .i64 ((allK P k).getD i (0, 0, 0)).2.2) := by
  obtain ⟨hr, hb⟩ := h
  rcases hr.2 with ⟨_, h0⟩ | ⟨g, cap, cur, rfl, h2, h3, h4, _⟩
  · omega
  · refine ⟨g, cap, rfl, h2, ?_, h4, ?_⟩
    · rcases Nat.lt_or_ge g w.heap.size with hx | hx
      · exact hx
      · rw [Array.getElem?_eq_none hx] at h3; cases h3
    · intro i hi
      have hf : ∀ (L : List (Int × Int × Int)) (i : Nat), i < L.length → (flat L)[3 * i]? = some (.int .i64 (L.getD i (0, 0, 0)).1) ∧ (flat L)[3 * i + 1]? = some (.int .i64 (L.getD i (0, 0, 0)).2.1) ∧ (flat L)[3 * i + 2]? = some (.int .i64 (L.getD i (0, 0, 0)).2.2) := by
        intro L
        induction L with
        | nil => intro i hi; simp at hi
        | cons x L ih =>
          intro i hi
          cases i with
          | zero => simp [flat, hv]
          | succ i =>
            have := ih i (by simpa using hi)
            have e : flat (x :: L) = hv x ++ flat L := by simp [flat]
            rw [e, show 3 * (i + 1) = 3 * i + 3 by omega]
            simp only [hv, List.cons_append, List.nil_append, List.getElem?_cons_succ, List.getD_cons_succ]
            exact this
      obtain ⟨e1, e2, e3⟩ := hf _ i hi
      have c1 := hr.cellAt (3 * i) (by omega)
      have c2 := hr.cellAt (3 * i + 1) (by omega)
      have c3 := hr.cellAt (3 * i + 2) (by omega)
      exact ⟨c1.trans e1, c2.trans e2, c3.trans e3⟩

theorem allK_2_8 : (allK 2 8).length = 7 ∧ (allK 2 8).getD 0 (0, 0, 0) = (0, 0, 1) := by decide +kernel

theorem order_back : bk (stp 2 0 1 0 0 0 1 1 1 0) 7 4 = true := by decide +kernel
theorem order_min : ∀ n, 1 ≤ n → n < 7 → bk (stp 2 0 1 0 0 0 1 1 1 0) n 4 = false := by
  intro n h1 h2
  have h : n = 1 ∨ n = 2 ∨ n = 3 ∨ n = 4 ∨ n = 5 ∨ n = 6 := by omega
  rcases h with rfl | rfl | rfl | rfl | rfl | rfl <;> decide +kernel

set_option maxRecDepth 100000 in
set_option maxHeartbeats 2000000 in
theorem counted14 (w : World) :
    Calls Try.prog 14 #[] w fun e w' => e = .returned (.bool true) ∧ Below w.heap.size w w' := by
  have hA := All23 2 (by decide)
  have HA := Lib.hid hA
  clear hA
  go_enter Try.func14, Try.ntmps14
  go_wp2_with fail
  refine (HA.out _).mono ?_
  rintro e w1 ⟨v, rfl, hg⟩
  obtain ⟨g, cap, rfl, hg1, hg2, hg3, hcell⟩ := hg.open (by rw [show 2 * 2 * 2 = 8 from rfl, allK_2_8.1]; omega)
  have h0 := hcell 0 (by rw [show 2 * 2 * 2 = 8 from rfl, allK_2_8.1]; omega)
  rw [show 2 * 2 * 2 = 8 from rfl, allK_2_8.2] at h0
  rw [show 2 * 2 * 2 = 8 from rfl, allK_2_8.1] at hg3 ⊢
  obtain ⟨c0, c1, c2⟩ := h0
  dsimp only at c0 c1 c2
  have c0 : w1.cell? ⟨g, 0, none⟩ = some (.int .i64 0) := c0
  have c1 : w1.cell? ⟨g, 1, none⟩ = some (.int .i64 0) := c1
  have c2 : w1.cell? ⟨g, 2, none⟩ = some (.int .i64 1) := c2
  have HB1 := Lib.hid hg.2
  clear hcell hg
  go_wp2_with fail
  refine (Join17_ok 3 1 0 0 0 (-1) 1 1 0 0 0 1 2 0 1 1 (by decide) (by decide) (by decide) (by decide) (by decide) (by decide) (by decide) _).mono ?_
  rintro e w2 ⟨rfl, hb2⟩
  have d0 : w2.cell? ⟨g, 0, none⟩ = some (.int .i64 0) := by rw [hb2.cell hg2]; exact c0
  have d1 : w2.cell? ⟨g, 1, none⟩ = some (.int .i64 0) := by rw [hb2.cell hg2]; exact c1
  have d2 : w2.cell? ⟨g, 2, none⟩ = some (.int .i64 1) := by rw [hb2.cell hg2]; exact c2
  have hs2 : g < w2.heap.size := Nat.lt_of_lt_of_le hg2 hb2.size
  have HB2 := Lib.hid (HB1.out.trans (hb2.mono HB1.out.size))
  clear c0 c1 c2 hb2
  go_wp2_with fail
  refine (Order28_ok 7 2 0 1 0 0 0 1 1 1 0 0 1 0 0 0 1 1 1 0 1 1 0 (by decide) (Lib.hid (by decide)) (Lib.hid (by decide)) (Lib.hid (by decide)) (Lib.hid (by decide)) (Lib.hid (by decide)) (Lib.hid (by decide)) (Lib.hid (by decide)) (Lib.hid (by decide)) (Lib.hid (by decide)) (by decide) (by decide) (by decide) (by decide) (by decide) (by decide) (by decide) (by decide) (by decide) (Lib.hid (by decide)) (Lib.hid (by decide)) (Lib.hid (by decide)) (by decide) (by decide) (by decide) (by decide) (by decide) (by decide) (Lib.hid order_back) (Lib.hid order_min) _).mono ?_
  rintro e w3 ⟨rfl, hb3⟩
  have e0 : w3.cell? ⟨g, 0, none⟩ = some (.int .i64 0) := by rw [hb3.cell (by simp; omega), World.cell?_alloc_lt _ _ _ hs2]; exact d0
  have e1 : w3.cell? ⟨g, 1, none⟩ = some (.int .i64 0) := by rw [hb3.cell (by simp; omega), World.cell?_alloc_lt _ _ _ hs2]; exact d1
  have e2 : w3.cell? ⟨g, 2, none⟩ = some (.int .i64 1) := by rw [hb3.cell (by simp; omega), World.cell?_alloc_lt _ _ _ hs2]; exact d2
  have j0 : w3.cell? ⟨w2.heap.size, 0, none⟩ = some (.int .i64 0) := by rw [hb3.cell (by simp)]; simp [go_sem]
  have j1 : w3.cell? ⟨w2.heap.size, 1, none⟩ = some (.int .i64 1) := by rw [hb3.cell (by simp)]; simp [go_sem]
  have j2 : w3.cell? ⟨w2.heap.size, 2, none⟩ = some (.int .i64 1) := by rw [hb3.cell (by simp)]; simp [go_sem]
  have HB3 := Lib.hid ((HB2.out.alloc HB2.out.size _).trans (hb3.mono (by have := HB2.out.size; simp; omega)))
  clear d0 d1 d2 hb3
  go_wp2
  go_ret
  exact ⟨rfl, HB3.out⟩

end Go.Proofs.Ytfdbkocpljiehaa
