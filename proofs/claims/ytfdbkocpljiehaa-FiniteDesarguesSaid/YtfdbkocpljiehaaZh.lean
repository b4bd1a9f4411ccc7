/- Walks: slices.Clone at triples; slices.Equal at two lists that differ; a row of triples that may be written. -/
import Derived.Test.YtfdbkocpljiehaaZa
import Derived.Lib.SliceRun
import Derived.Lib.Walk
set_option linter.unusedSimpArgs false
set_option linter.unusedVariables false
namespace Go.Proofs.Ytfdbkocpljiehaa
open Go.RowKit

/-- block g holds n triples that may be written -/
def RowsW (w : World) (g n : Nat) (pt : Nat → Int × Int × Int) : Prop :=
  ∀ j, j < n → (w.cell? ⟨g, 3 * j, none⟩ = some (.int .i64 (pt j).1) ∧ w.cell? ⟨g, 3 * j + 1, none⟩ = some (.int .i64 (pt j).2.1) ∧ w.cell? ⟨g, 3 * j + 2, none⟩ = some (.int .i64 (pt j).2.2)) ∧
    (w.frozen? ⟨g, 3 * j, none⟩ = false ∧ w.frozen? ⟨g, 3 * j + 1, none⟩ = false ∧ w.frozen? ⟨g, 3 * j + 2, none⟩ = false)
theorem RowsW.rows {w : World} {g n : Nat} {pt : Nat → Int × Int × Int} (h : RowsW w g n pt) : RowsAt w g n pt := fun i hi => (h i hi).1
theorem RowsW.below {w w1 : World} {g n B : Nat} {pt : Nat → Int × Int × Int} (h : RowsW w g n pt) (hb : Below B w w1) (hg : g < B) : RowsW w1 g n pt := by
  intro j hj
  obtain ⟨⟨h1, h2, h3⟩, h4, h5, h6⟩ := h j hj
  refine ⟨⟨?_, ?_, ?_⟩, ?_, ?_, ?_⟩
  · rw [hb.cell hg]; exact h1
  · rw [hb.cell hg]; exact h2
  · rw [hb.cell hg]; exact h3
  · rw [hb.frozen hg]; exact h4
  · rw [hb.frozen hg]; exact h5
  · rw [hb.frozen hg]; exact h6
theorem RowsW.congr {w : World} {g n : Nat} {pt pt' : Nat → Int × Int × Int} (h : RowsW w g n pt) (e : ∀ j, j < n → pt j = pt' j) : RowsW w g n pt' := by
  intro j hj
  rw [← e j hj]
  exact h j hj
theorem RowsW.set {w : World} {g n : Nat} {pt : Nat → Int × Int × Int} (h : RowsW w g n pt) (i : Nat) (hi : i < n) (a b c : Int) :
    RowsW (((w.setCell ⟨g, 3 * i, none⟩ (.int .i64 a)).setCell ⟨g, 3 * i + 1, none⟩ (.int .i64 b)).setCell ⟨g, 3 * i + 2, none⟩ (.int .i64 c)) g n (fun j => if j = i then (a, b, c) else pt j) := by
  intro j hj
  obtain ⟨⟨h1, h2, h3⟩, h4, h5, h6⟩ := h j hj
  by_cases e : j = i
  · subst e
    refine ⟨⟨?_, ?_, ?_⟩, ?_, ?_, ?_⟩ <;> simp [go_sem, h1, h2, h3, h4, h5, h6]
  · refine ⟨⟨?_, ?_, ?_⟩, ?_, ?_, ?_⟩
    · dsimp only; rw [if_neg e, World.cell?_setCell_other _ _ _ _ (by simp <;> omega), World.cell?_setCell_other _ _ _ _ (by simp <;> omega), World.cell?_setCell_other _ _ _ _ (by simp <;> omega)]; exact h1
    · dsimp only; rw [if_neg e, World.cell?_setCell_other _ _ _ _ (by simp <;> omega), World.cell?_setCell_other _ _ _ _ (by simp <;> omega), World.cell?_setCell_other _ _ _ _ (by simp <;> omega)]; exact h2
    · dsimp only; rw [if_neg e, World.cell?_setCell_other _ _ _ _ (by simp <;> omega), World.cell?_setCell_other _ _ _ _ (by simp <;> omega), World.cell?_setCell_other _ _ _ _ (by simp <;> omega)]; exact h3
    all_goals simp [go_sem, h4, h5, h6]

/-- an owned row of triples: its block, its cells -/
theorem owns_open {w : World} {base n : Nat} {v : Value} {L : List (Int × Int × Int)} (h : w.ownsRow base 27 3 v n (flat L)) (hL : L.length = n) (hn : 0 < n) :
    ∃ g cap, v = .slice (some ⟨g, 0, none⟩) n cap ∧ base ≤ g ∧ g < w.heap.size ∧ RowsW w g n (fun i => L.getD i (0, 0, 0)) := by
  rcases h.2 with ⟨_, h0⟩ | ⟨g, cap, cur, rfl, h2, h3, h4, _⟩
  · omega
  · refine ⟨g, cap, rfl, h2, ?_, ?_⟩
    · rcases Nat.lt_or_ge g w.heap.size with hx | hx
      · exact hx
      · rw [Array.getElem?_eq_none hx] at h3; cases h3
    · intro i hi
      obtain ⟨e1, e2, e3⟩ := flat_at L i (by omega)
      have c1 := h.cellAt (3 * i) (by omega)
      have c2 := h.cellAt (3 * i + 1) (by omega)
      have c3 := h.cellAt (3 * i + 2) (by omega)
      have fz : ∀ o, w.frozen? ⟨g, o, none⟩ = false := fun o => by simp [World.frozen?, h3]
      exact ⟨⟨c1.trans e1, c2.trans e2, c3.trans e3⟩, fz _, fz _, fz _⟩

theorem flat_cell {w : World} {g : Nat} {L : List (Int × Int × Int)} (h : RowsAt w g L.length (fun i => L.getD i (0, 0, 0))) : ∀ j u, (flat L)[j]? = some u → w.cell? ⟨g, 0 + j, none⟩ = some u := by
  intro j u hj
  have hlt := (List.getElem?_eq_some_iff.1 hj).1
  rw [flat_length] at hlt
  have hi : j / 3 < L.length := by omega
  obtain ⟨e1, e2, e3⟩ := flat_at L (j / 3) hi
  obtain ⟨c1, c2, c3⟩ := h (j / 3) hi
  rw [Nat.zero_add]
  have hh : j = 3 * (j / 3) ∨ j = 3 * (j / 3) + 1 ∨ j = 3 * (j / 3) + 2 := by omega
  rcases hh with hh | hh | hh
  · rw [hh] at hj ⊢; rw [e1] at hj; rw [← hj]; exact c1
  · rw [hh] at hj ⊢; rw [e2] at hj; rw [← hj]; exact c2
  · rw [hh] at hj ⊢; rw [e3] at hj; rw [← hj]; exact c3
theorem flat_one (L : List (Int × Int × Int)) : ∀ u ∈ flat L, u.oneCell' = true := by
  intro u hu
  simp only [flat, List.mem_flatMap, hv] at hu
  obtain ⟨x, _, hu⟩ := hu
  simp at hu
  rcases hu with rfl | rfl | rfl <;> rfl

set_option maxHeartbeats 2000000 in
set_option maxRecDepth 100000 in
theorem Clone31 (g cap n : Nat) (L : List (Int × Int × Int)) (hL : L.length = n) (hn : n ≤ 1000000) (hn0 : 0 < n) (w : World) (hg : g < w.heap.size) (hr : RowsAt w g n (fun i => L.getD i (0, 0, 0))) :
    Calls Try.prog 31 #[.slice (some ⟨g, 0, none⟩) n cap] w fun e w' => ∃ g' cap', e = .returned (.slice (some ⟨g', 0, none⟩) n cap') ∧ w.heap.size ≤ g' ∧ g' < w'.heap.size ∧ RowsW w' g' n (fun i => L.getD i (0, 0, 0)) ∧ Below w.heap.size w w' := by
  obtain ⟨i0, hi, hz0, hz1, hz2⟩ := info_parts info27
  have A := Lib.hid hr
  have HL := Lib.hid hL
  clear hr hL
  have q45 : ∀ (w : World) (a : Option Addr) (n c n' c' : Nat), (binOp .eql 45 (.slice a n c) (.slice none n' c')).run Try.prog w = .ok (.bool a.isNone) w := fun w a n c n' c' => Lib.run_eql_slice_nil w _ _ a n c n' c' Try.underlying45
  have u45 : ∀ w, Sem.run Try.prog (underlying 45) w = .ok (TypeDesc.slice 27) w := run_underlying Try.underlying45
  go_enter Try.func31, Try.ntmps31
  go_wp2_with (at_builtin; refine wpList_append_own _ rfl _ _ 45 rfl w.heap.size 27 i0 (.agg #[.int .i64 0, .int .i64 0, .int .i64 0]) 3 24 Try.underlying45 hi hz0 hz1 hz2 rfl (by decide) _ _ _ rfl (World.ownsRow_made w #[] 0 (Nat.le_refl _) (Nat.zero_le _) rfl) ⟨g, 0, none⟩ n cap (flat L) rfl ?qc1 ?qc2 ?qc3 ?qc4 ?qc5 ?qc6 ?_)
  case qc1 => rw [flat_length, HL.out]
  case qc2 =>
    intro j u hj
    rw [Addr.add_lit]
    have h1 := A.out
    rw [← HL.out] at h1
    rw [World.cell?_alloc_lt _ _ _ hg]
    exact flat_cell h1 j u hj
  case qc3 => exact flat_one L
  case qc4 => unfold maxLen; omega
  case qc5 => omega
  case qc6 => simp
  intro v' w1 hown hgrow hnil
  have hb : Below w.heap.size w w1 := ((Below.refl _ w).alloc (Nat.le_refl _) _).grown hgrow (by simp) (by intro k hk; simp [Value.ownBlock] at hk; omega)
  obtain ⟨g', cap', rfl, h1, h2, h3⟩ := owns_open (n := n) (by simpa using hown) HL.out hn0
  have H3 := Lib.hid h3
  have HB := Lib.hid hb
  clear hown hgrow hnil h3 hb
  go_wp2
  go_ret
  exact ⟨g', cap', rfl, h1, h2, H3.out, HB.out⟩

set_option maxRecDepth 100000 in
set_option maxHeartbeats 2000000 in
theorem Equal24_diff (b1 b2 c1 c2 len j : Nat) (f f' : Nat → Int × Int × Int) (hlen : len ≤ 1000000) (hj : j < len) (hd : eqT (f j) (f' j) = false) (w : World)
    (h1 : RowsAt w b1 len f) (h2 : RowsAt w b2 len f') :
    Calls Try.prog 24 #[.slice (some ⟨b1, 0, none⟩) len c1, .slice (some ⟨b2, 0, none⟩) len c2] w fun e w' => e = .returned (.bool false) ∧ OnlyDraws' w w' := by
  have H1 := Lib.hid h1
  have H2 := Lib.hid h2
  have HD := Lib.hid hd
  clear h1 h2 hd
  go_enter Try.func24, Try.ntmps24
  go_wp2
  go_loopw [13] (fun i wr => ∃ k : Nat, k ≤ j ∧ i = .int .i64 k ∧ ∃ n, wr = w.drewN n) (fun i _ => len - (intOf i).toNat)
  case atStart => exact ⟨0, by omega, rfl, 0, rfl⟩
  case round =>
    obtain ⟨k, hk, rfl, n, rfl⟩ := hrel
    have hlt : k < len := by omega
    obtain ⟨k1, k2, k3⟩ := H1.out k hlt
    obtain ⟨j1, j2, j3⟩ := H2.out k hlt
    have hkj : eqT (f k) (f' k) = true → k ≠ j := fun h e => by rw [e, HD.out] at h; cases h
    have l1 : (0 : Int) ≤ (k : Int) := by omega
    have l2 : (k : Int) < (len : Int) := by omega
    have el : k * 3 = 3 * k := by omega
    cases hq : eqT (f k) (f' k)
    · clear hkj
      generalize f k = X at *
      generalize f' k = Y at *
      obtain ⟨x0, x1, x2⟩ := X
      obtain ⟨y0, y1, y2⟩ := Y
      unfold eqT at hq
      dsimp only at k1 k2 k3 j1 j2 j3 hq
      go_wp2_with fail
      go_quiet (fail)
      go_wp2
      go_ret
      exact ⟨rfl, _, World.drewN_drewN _ _ _⟩
    · have hkj' := hkj hq
      clear hkj
      generalize f k = X at *
      generalize f' k = Y at *
      obtain ⟨x0, x1, x2⟩ := X
      obtain ⟨y0, y1, y2⟩ := Y
      unfold eqT at hq
      dsimp only at k1 k2 k3 j1 j2 j3 hq
      go_wp2_with fail
      go_quiet (fail)
      go_wp2
      exact ⟨⟨k + 1, by omega, by go_num, _, rfl⟩, by simp [intOf]; omega⟩

end Go.Proofs.Ytfdbkocpljiehaa
