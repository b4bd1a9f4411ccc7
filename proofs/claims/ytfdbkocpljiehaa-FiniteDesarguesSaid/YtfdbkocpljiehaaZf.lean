/- Walks: the law FiniteFano. -/
import Derived.Test.YtfdbkocpljiehaaZb
import Derived.Test.YtfdbkocpljiehaaMe
set_option linter.unusedSimpArgs false
set_option linter.unusedVariables false
namespace Go.Proofs.Ytfdbkocpljiehaa
open Go.RowKit

theorem Join17_is (p a0 a1 a2 b0 b1 b2 t0 t1 t2 : Int) (hp : isP p = true) (hj : JoinIs p (a0, a1, a2) (b0, b1, b2) (t0, t1, t2)) (w : World) :
    Calls Try.prog 17 #[.int .i64 p, .agg #[.int .i64 a0, .int .i64 a1, .int .i64 a2], .agg #[.int .i64 b0, .int .i64 b1, .int .i64 b2]] w fun e w' =>
      e = .returned (.tuple #[.agg #[.int .i64 t0, .int .i64 t1, .int .i64 t2], .int .i64 0]) ∧ Below w.heap.size w w' := by
  obtain ⟨⟨u0, u1, u2⟩, ⟨v0, v1, v2⟩, hu, hz, hv, hy, hw, hx⟩ := hj
  exact Join17_ok _ _ _ _ _ _ _ u0 u1 u2 v0 v1 v2 _ _ _ hp hu hz hv hy hw hx w

set_option maxRecDepth 100000 in
set_option maxHeartbeats 8000000 in
theorem Fano32 (i j k l Bp Bq : Nat) (pt : Nat → Int × Int × Int) (p a0 a1 a2 b0 b1 b2 c0 c1 c2 d0 d1 d2 e0 e1 e2 f0 f1 f2 t0 t1 t2 : Int) (hp : isP p = true) (hi : i < 4) (hj : j < 4) (hk : k < 4) (hl : l < 4)
    (hpi : pt i = (a0, a1, a2)) (hpj : pt j = (b0, b1, b2)) (hpk : pt k = (c0, c1, c2)) (hpl : pt l = (d0, d1, d2))
    (h1 : JoinIs p (a0, a1, a2) (b0, b1, b2) (e0, e1, e2)) (h2 : JoinIs p (c0, c1, c2) (d0, d1, d2) (f0, f1, f2)) (h3 : JoinIs p (e0, e1, e2) (f0, f1, f2) (t0, t1, t2)) (w : World)
    (hBp : Bp < w.heap.size) (hBq : Bq < w.heap.size) (hcp : w.cell? ⟨Bp, 0, none⟩ = some (.int .i64 p)) (hcq : AtIs w Bq pt) :
    Calls Try.prog 32 #[.int .i64 i, .int .i64 j, .int .i64 k, .int .i64 l, .pointer (some ⟨Bp, 0, none⟩), .pointer (some ⟨Bq, 0, none⟩)] w fun e w' =>
      e = .returned (.agg #[.int .i64 t0, .int .i64 t1, .int .i64 t2]) ∧ Below w.heap.size w w' := by
  have HP := Lib.hid hp
  have H1 := Lib.hid h1
  have H2 := Lib.hid h2
  have H3 := Lib.hid h3
  have HQ := Lib.hid hcq
  obtain ⟨⟨pa0, pa1, pa2⟩, _⟩ := hcq i hi
  obtain ⟨⟨pb0, pb1, pb2⟩, _⟩ := hcq j hj
  obtain ⟨⟨pc0, pc1, pc2⟩, _⟩ := hcq k hk
  obtain ⟨⟨pd0, pd1, pd2⟩, _⟩ := hcq l hl
  rw [hpi] at pa0 pa1 pa2
  rw [hpj] at pb0 pb1 pb2
  rw [hpk] at pc0 pc1 pc2
  rw [hpl] at pd0 pd1 pd2
  dsimp only at pa0 pa1 pa2 pb0 pb1 pb2 pc0 pc1 pc2 pd0 pd1 pd2
  clear hp h1 h2 h3 hcq hpi hpj hpk hpl
  have li : (0 : Int) ≤ (i : Int) := by omega
  have lj : (0 : Int) ≤ (j : Int) := by omega
  have lk : (0 : Int) ≤ (k : Int) := by omega
  have ll : (0 : Int) ≤ (l : Int) := by omega
  have mi : (i : Int) < 4 := by omega
  have mj : (j : Int) < 4 := by omega
  have mk : (k : Int) < 4 := by omega
  have ml : (l : Int) < 4 := by omega
  have ei : i * 3 = 3 * i := by omega
  have ej : j * 3 = 3 * j := by omega
  have ek : k * 3 = 3 * k := by omega
  have el : l * 3 = 3 * l := by omega
  go_enter Try.func32, Try.ntmps32
  go_upto_region 1 with fail
  have HZ0 := Lib.hid (Zc.new w 27)
  have HB0 := Lib.hid (ba_c (Below.refl w.heap.size w) (Nat.le_refl _) (Obj.cells #[.int .i64 0, .int .i64 0, .int .i64 0] 27))
  obtain ⟨W0, hW0⟩ : ∃ W, W = w.alloc (Obj.cells #[.int .i64 0, .int .i64 0, .int .i64 0] 27) := ⟨_, rfl⟩
  have hsz0 : w.heap.size < W0.heap.size := by rw [hW0]; simp
  have qp : W0.cell? ⟨Bp, 0, none⟩ = some (.int .i64 p) := by rw [hW0, World.cell?_alloc_lt _ _ _ hBp]; exact hcp
  have qa0 : W0.cell? ⟨Bq, 3 * i, none⟩ = some (.int .i64 a0) := by rw [hW0, World.cell?_alloc_lt _ _ _ hBq]; exact pa0
  have qa1 : W0.cell? ⟨Bq, 3 * i + 1, none⟩ = some (.int .i64 a1) := by rw [hW0, World.cell?_alloc_lt _ _ _ hBq]; exact pa1
  have qa2 : W0.cell? ⟨Bq, 3 * i + 2, none⟩ = some (.int .i64 a2) := by rw [hW0, World.cell?_alloc_lt _ _ _ hBq]; exact pa2
  have qb0 : W0.cell? ⟨Bq, 3 * j, none⟩ = some (.int .i64 b0) := by rw [hW0, World.cell?_alloc_lt _ _ _ hBq]; exact pb0
  have qb1 : W0.cell? ⟨Bq, 3 * j + 1, none⟩ = some (.int .i64 b1) := by rw [hW0, World.cell?_alloc_lt _ _ _ hBq]; exact pb1
  have qb2 : W0.cell? ⟨Bq, 3 * j + 2, none⟩ = some (.int .i64 b2) := by rw [hW0, World.cell?_alloc_lt _ _ _ hBq]; exact pb2
  have qc0 : W0.cell? ⟨Bq, 3 * k, none⟩ = some (.int .i64 c0) := by rw [hW0, World.cell?_alloc_lt _ _ _ hBq]; exact pc0
  have qc1 : W0.cell? ⟨Bq, 3 * k + 1, none⟩ = some (.int .i64 c1) := by rw [hW0, World.cell?_alloc_lt _ _ _ hBq]; exact pc1
  have qc2 : W0.cell? ⟨Bq, 3 * k + 2, none⟩ = some (.int .i64 c2) := by rw [hW0, World.cell?_alloc_lt _ _ _ hBq]; exact pc2
  have qd0 : W0.cell? ⟨Bq, 3 * l, none⟩ = some (.int .i64 d0) := by rw [hW0, World.cell?_alloc_lt _ _ _ hBq]; exact pd0
  have qd1 : W0.cell? ⟨Bq, 3 * l + 1, none⟩ = some (.int .i64 d1) := by rw [hW0, World.cell?_alloc_lt _ _ _ hBq]; exact pd1
  have qd2 : W0.cell? ⟨Bq, 3 * l + 2, none⟩ = some (.int .i64 d2) := by rw [hW0, World.cell?_alloc_lt _ _ _ hBq]; exact pd2
  have hBp0 : Bp < W0.heap.size := by omega
  have hBq0 : Bq < W0.heap.size := by omega
  rw [← hW0] at HZ0 HB0 ⊢
  clear hW0 pa0 pa1 pa2 pb0 pb1 pb2 pc0 pc1 pc2 pd0 pd1 pd2 hcp
  go_cut [11] (fun s wx => ∃ g, s = .pointer (some ⟨g, 0, none⟩) ∧ g < wx.heap.size ∧ wx.cell? ⟨g, 0, none⟩ = some (.int .i64 e0) ∧ wx.cell? ⟨g, 1, none⟩ = some (.int .i64 e1) ∧ wx.cell? ⟨g, 2, none⟩ = some (.int .i64 e2) ∧ Below W0.heap.size W0 wx)
  case first =>
    refine wp_region_T (Below (W0.heap.size) (W0)) 12 (by kernel_rfl) ?_ ?_
    · exact Below.drew (Below.refl _ _)
    intro HS
    refine wpT_takeP 1 (v := ?_) rfl (by kernel_rfl) (fun _ _ _ h => h) (by rfl) ?_ ?_ ?_
    rotate_left
    · (intro W; go_simp; first | done | with_reducible rfl)
    · (first | (intro _; with_reducible assumption) | (intro h0; cases h0))
    try simp only [Act.put, List.getElem_toArray, List.getElem_cons_zero, List.getElem_cons_succ, List.setIfInBounds_toArray, List.set_cons_zero, List.set_cons_succ]
    refine wpT_takeP 2 (v := ?_) rfl (by kernel_rfl) (fun _ _ _ h => h) (by rfl) ?_ ?_ ?_
    rotate_left
    · (intro W; go_simp; first | done | with_reducible rfl)
    · (first | (intro _; with_reducible assumption) | (intro h0; cases h0))
    try simp only [Act.put, List.getElem_toArray, List.getElem_cons_zero, List.getElem_cons_succ, List.setIfInBounds_toArray, List.set_cons_zero, List.set_cons_succ]
    refine wpT_takeP 4 (v := ?_) rfl (by kernel_rfl) (fun _ _ _ h => h) (by rfl) ?_ ?_ ?_
    rotate_left
    · (intro W; go_simp; first | done | with_reducible rfl)
    · (first | (intro _; with_reducible assumption) | (intro h0; cases h0))
    try simp only [Act.put, List.getElem_toArray, List.getElem_cons_zero, List.getElem_cons_succ, List.setIfInBounds_toArray, List.set_cons_zero, List.set_cons_succ]
    refine wpT_takeP 5 (v := ?_) rfl (by kernel_rfl) (fun _ _ _ h => h) (by rfl) ?_ ?_ ?_
    rotate_left
    · (intro W; go_simp; first | done | with_reducible rfl)
    · (first | (intro _; with_reducible assumption) | (intro h0; cases h0))
    try simp only [Act.put, List.getElem_toArray, List.getElem_cons_zero, List.getElem_cons_succ, List.setIfInBounds_toArray, List.set_cons_zero, List.set_cons_succ]
    refine wpT_take 0 30 (v := ?_) rfl (by kernel_rfl) (fun _ _ _ h => h) (by rfl) ?_ HS ?_
    rotate_left
    · (intro W hW; have hq0 := fun o => hW.cell (p := ⟨Bp, o, none⟩) (by simp <;> omega); have hq1 := fun o => hW.cell (p := ⟨Bq, o, none⟩) (by simp <;> omega); go_simp; first | done | with_reducible rfl)
    try simp only [Act.put, List.getElem_toArray, List.getElem_cons_zero, List.getElem_cons_succ, List.setIfInBounds_toArray, List.set_cons_zero, List.set_cons_succ]
    refine wpT_take 3 30 (v := ?_) rfl (by kernel_rfl) (fun _ _ _ h => h) (by rfl) ?_ HS ?_
    rotate_left
    · (intro W hW; have hq0 := fun o => hW.cell (p := ⟨Bp, o, none⟩) (by simp <;> omega); have hq1 := fun o => hW.cell (p := ⟨Bq, o, none⟩) (by simp <;> omega); go_simp; first | done | with_reducible rfl)
    try simp only [Act.put, List.getElem_toArray, List.getElem_cons_zero, List.getElem_cons_succ, List.setIfInBounds_toArray, List.set_cons_zero, List.set_cons_succ]
    refine wpT_take 6 30 (v := ?_) rfl (by kernel_rfl) (fun _ _ _ h => h) (by rfl) ?_ HS ?_
    rotate_left
    · (intro W hW; have hq0 := fun o => hW.cell (p := ⟨Bp, o, none⟩) (by simp <;> omega); have hq1 := fun o => hW.cell (p := ⟨Bq, o, none⟩) (by simp <;> omega); go_simp; first | done | with_reducible rfl)
    try simp only [Act.put, List.getElem_toArray, List.getElem_cons_zero, List.getElem_cons_succ, List.setIfInBounds_toArray, List.set_cons_zero, List.set_cons_succ]
    refine wpT_two 7 11 (by kernel_rfl) rfl rfl (fun K hK => ?_) (fun K hK => ?_)
    · skip
      go_simp
      refine (Join17_is _ _ _ _ _ _ _ _ _ _ HP.out H1.out _).mono ?_
      rintro e v1 ⟨rfl, hb⟩
      have HS := Below.trans HS (hb.mono HS.size)
      have HSV := HS
      clear hb
      refine hK.out _ _ ?_ ?_
      · (first | (intro _; with_reducible assumption) | (intro h0; cases h0))
      clear hK K
      try simp only [Act.put, List.getElem_toArray, List.getElem_cons_zero, List.getElem_cons_succ, List.setIfInBounds_toArray, List.set_cons_zero, List.set_cons_succ]
      refine wpT_takeP 8 (v := ?_) rfl (by kernel_rfl) (fun _ _ _ h => h) (by rfl) ?_ ?_ ?_
      rotate_left
      · (intro W; go_simp; first | done | with_reducible rfl)
      · (first | (intro _; with_reducible assumption) | (intro h0; cases h0))
      try simp only [Act.put, List.getElem_toArray, List.getElem_cons_zero, List.getElem_cons_succ, List.setIfInBounds_toArray, List.set_cons_zero, List.set_cons_succ]
      refine wpT_takeP 9 (v := ?_) rfl (by kernel_rfl) (fun _ _ _ h => h) (by rfl) ?_ ?_ ?_
      rotate_left
      · (intro W; go_simp; first | done | with_reducible rfl)
      · (first | (intro _; with_reducible assumption) | (intro h0; cases h0))
      try simp only [Act.put, List.getElem_toArray, List.getElem_cons_zero, List.getElem_cons_succ, List.setIfInBounds_toArray, List.set_cons_zero, List.set_cons_succ]
      refine wpT_takeP 10 (v := ?_) rfl (by kernel_rfl) (fun _ _ _ h => h) (by rfl) ?_ ?_ ?_
      rotate_left
      · (intro W; go_simp; first | done | with_reducible rfl)
      · (first | (intro _; with_reducible assumption) | (intro h0; cases h0))
      try simp only [Act.put, List.getElem_toArray, List.getElem_cons_zero, List.getElem_cons_succ, List.setIfInBounds_toArray, List.set_cons_zero, List.set_cons_succ]
      refine wpT_one 11 (by kernel_rfl) rfl (fun K hK => ?_)
      go_simp
      have HZ : Zc (v1.alloc (Obj.cells #[.int .i64 0, .int .i64 0, .int .i64 0] 27)) v1.heap.size := Zc.new (v1) 27
      have HS := ba_c HS (Nat.le_refl _) (Obj.cells #[.int .i64 0, .int .i64 0, .int .i64 0] 27)
      refine hK.out _ _ ?_ ?_
      · (intro _; with_reducible exact HS)
      clear hK K
      try simp only [Act.put, List.getElem_toArray, List.getElem_cons_zero, List.getElem_cons_succ, List.setIfInBounds_toArray, List.set_cons_zero, List.set_cons_succ]
      obtain ⟨z0, ⟨z1, z2, z3⟩, z4, z5, z6⟩ := HZ
      refine wpT_one 12 (by kernel_rfl) rfl (fun K hK => ?_)
      go_simp
      refine hK.out _ _ ?_ ?_
      · (first | (intro _; with_reducible assumption) | (intro h0; cases h0; done) | (intro _; simp [go_sem]))
      clear hK K
      try simp only [Act.put, List.getElem_toArray, List.getElem_cons_zero, List.getElem_cons_succ, List.setIfInBounds_toArray, List.set_cons_zero, List.set_cons_succ]
      refine wpT_one 13 (by kernel_rfl) rfl (fun K hK => ?_)
      go_simp
      refine hK.out _ _ ?_ ?_
      · (first | (intro _; with_reducible assumption) | (intro h0; cases h0; done) | (intro _; simp [go_sem]))
      clear hK K
      try simp only [Act.put, List.getElem_toArray, List.getElem_cons_zero, List.getElem_cons_succ, List.setIfInBounds_toArray, List.set_cons_zero, List.set_cons_succ]
      refine wpT_done (by kernel_rfl) ?_ _
      go_wp2_with fail
      go_meet
      refine ⟨v1.heap.size, rfl, ?_, ?_, ?_, ?_, ?_⟩
      · first | (simp [go_sem]; done) | (simpa using z0)
      · simp [go_sem, z1, z2, z3]
      · simp [go_sem, z1, z2, z3]
      · simp [go_sem, z1, z2, z3]
      · (have hsz1 : W0.heap.size ≤ v1.heap.size := HSV.size); go_grown
    · skip
      go_simp
      have HZ : Zc (W0.alloc (Obj.cells #[.int .i64 0, .int .i64 0, .int .i64 0] 27)).drew W0.heap.size := Zc.new (W0) 27
      have HS : Below (W0.heap.size) (W0) (W0.alloc (Obj.cells #[.int .i64 0, .int .i64 0, .int .i64 0] 27)).drew := Below.drew (ba_c (Below.refl _ _) (Nat.le_refl _) _)
      refine hK.out _ _ ?_ ?_
      · (intro _; with_reducible exact HS)
      clear hK K
      try simp only [Act.put, List.getElem_toArray, List.getElem_cons_zero, List.getElem_cons_succ, List.setIfInBounds_toArray, List.set_cons_zero, List.set_cons_succ]
      refine wpT_one 7 (by kernel_rfl) rfl (fun K hK => ?_)
      go_simp
      refine (Join17_is _ _ _ _ _ _ _ _ _ _ HP.out H1.out _).mono ?_
      rintro e v1 ⟨rfl, hb⟩
      have HZ := Zc.below HZ hb HZ.1
      have HS := Below.trans HS (hb.mono HS.size)
      have HSV := HS
      clear hb
      refine hK.out _ _ ?_ ?_
      · (first | (intro _; with_reducible assumption) | (intro h0; cases h0))
      clear hK K
      try simp only [Act.put, List.getElem_toArray, List.getElem_cons_zero, List.getElem_cons_succ, List.setIfInBounds_toArray, List.set_cons_zero, List.set_cons_succ]
      refine wpT_takeP 8 (v := ?_) rfl (by kernel_rfl) (fun _ _ _ h => h) (by rfl) ?_ ?_ ?_
      rotate_left
      · (intro W; go_simp; first | done | with_reducible rfl)
      · (first | (intro _; with_reducible assumption) | (intro h0; cases h0))
      try simp only [Act.put, List.getElem_toArray, List.getElem_cons_zero, List.getElem_cons_succ, List.setIfInBounds_toArray, List.set_cons_zero, List.set_cons_succ]
      refine wpT_takeP 9 (v := ?_) rfl (by kernel_rfl) (fun _ _ _ h => h) (by rfl) ?_ ?_ ?_
      rotate_left
      · (intro W; go_simp; first | done | with_reducible rfl)
      · (first | (intro _; with_reducible assumption) | (intro h0; cases h0))
      try simp only [Act.put, List.getElem_toArray, List.getElem_cons_zero, List.getElem_cons_succ, List.setIfInBounds_toArray, List.set_cons_zero, List.set_cons_succ]
      refine wpT_takeP 10 (v := ?_) rfl (by kernel_rfl) (fun _ _ _ h => h) (by rfl) ?_ ?_ ?_
      rotate_left
      · (intro W; go_simp; first | done | with_reducible rfl)
      · (first | (intro _; with_reducible assumption) | (intro h0; cases h0))
      try simp only [Act.put, List.getElem_toArray, List.getElem_cons_zero, List.getElem_cons_succ, List.setIfInBounds_toArray, List.set_cons_zero, List.set_cons_succ]
      obtain ⟨z0, ⟨z1, z2, z3⟩, z4, z5, z6⟩ := HZ
      refine wpT_one 12 (by kernel_rfl) rfl (fun K hK => ?_)
      go_simp
      refine hK.out _ _ ?_ ?_
      · (first | (intro _; with_reducible assumption) | (intro h0; cases h0; done) | (intro _; simp [go_sem]))
      clear hK K
      try simp only [Act.put, List.getElem_toArray, List.getElem_cons_zero, List.getElem_cons_succ, List.setIfInBounds_toArray, List.set_cons_zero, List.set_cons_succ]
      refine wpT_one 13 (by kernel_rfl) rfl (fun K hK => ?_)
      go_simp
      refine hK.out _ _ ?_ ?_
      · (first | (intro _; with_reducible assumption) | (intro h0; cases h0; done) | (intro _; simp [go_sem]))
      clear hK K
      try simp only [Act.put, List.getElem_toArray, List.getElem_cons_zero, List.getElem_cons_succ, List.setIfInBounds_toArray, List.set_cons_zero, List.set_cons_succ]
      refine wpT_done (by kernel_rfl) ?_ _
      go_wp2_with fail
      go_meet
      refine ⟨W0.heap.size, rfl, ?_, ?_, ?_, ?_, ?_⟩
      · first | (simp [go_sem]; done) | (simpa using z0)
      · simp [go_sem, z1, z2, z3]
      · simp [go_sem, z1, z2, z3]
      · simp [go_sem, z1, z2, z3]
      · (have hsz1 : W0.heap.size ≤ v1.heap.size := HSV.size); go_grown
  case rest =>
    obtain ⟨g1, rfl, hg1, y0, y1, y2, hb1⟩ := hcut
    obtain ⟨W1, rfl⟩ : ∃ wo : World, wo = wc := ⟨_, rfl⟩
    have rp : W1.cell? ⟨Bp, 0, none⟩ = some (.int .i64 p) := by rw [hb1.cell hBp0]; exact qp
    have rc0 : W1.cell? ⟨Bq, 3 * k, none⟩ = some (.int .i64 c0) := by rw [hb1.cell hBq0]; exact qc0
    have rc1 : W1.cell? ⟨Bq, 3 * k + 1, none⟩ = some (.int .i64 c1) := by rw [hb1.cell hBq0]; exact qc1
    have rc2 : W1.cell? ⟨Bq, 3 * k + 2, none⟩ = some (.int .i64 c2) := by rw [hb1.cell hBq0]; exact qc2
    have rd0 : W1.cell? ⟨Bq, 3 * l, none⟩ = some (.int .i64 d0) := by rw [hb1.cell hBq0]; exact qd0
    have rd1 : W1.cell? ⟨Bq, 3 * l + 1, none⟩ = some (.int .i64 d1) := by rw [hb1.cell hBq0]; exact qd1
    have rd2 : W1.cell? ⟨Bq, 3 * l + 2, none⟩ = some (.int .i64 d2) := by rw [hb1.cell hBq0]; exact qd2
    have HZ1 := Lib.hid (HZ0.out.below hb1 hsz0)
    have HB1 := Lib.hid (HB0.out.trans (hb1.mono HB0.out.size))
    have hsz1 : W0.heap.size ≤ W1.heap.size := hb1.size
    have hBp1 : Bp < W1.heap.size := by omega
    have hBq1 : Bq < W1.heap.size := by omega
    clear hb1 HZ0 HB0 qp qa0 qa1 qa2 qb0 qb1 qb2 qc0 qc1 qc2 qd0 qd1 qd2
    go_upto_region 2 with fail
    go_cut [13] (fun s wx => ∃ g, s = .pointer (some ⟨g, 0, none⟩) ∧ g < wx.heap.size ∧ wx.cell? ⟨g, 0, none⟩ = some (.int .i64 f0) ∧ wx.cell? ⟨g, 1, none⟩ = some (.int .i64 f1) ∧ wx.cell? ⟨g, 2, none⟩ = some (.int .i64 f2) ∧ Below W1.heap.size W1 wx)
    case first =>
      refine wp_region_T (Below (W1.heap.size) (W1)) 12 (by kernel_rfl) ?_ ?_
      · exact Below.drew (Below.refl _ _)
      intro HS
      refine wpT_takeP 1 (v := ?_) rfl (by kernel_rfl) (fun _ _ _ h => h) (by rfl) ?_ ?_ ?_
      rotate_left
      · (intro W; go_simp; first | done | with_reducible rfl)
      · (first | (intro _; with_reducible assumption) | (intro h0; cases h0))
      try simp only [Act.put, List.getElem_toArray, List.getElem_cons_zero, List.getElem_cons_succ, List.setIfInBounds_toArray, List.set_cons_zero, List.set_cons_succ]
      refine wpT_takeP 2 (v := ?_) rfl (by kernel_rfl) (fun _ _ _ h => h) (by rfl) ?_ ?_ ?_
      rotate_left
      · (intro W; go_simp; first | done | with_reducible rfl)
      · (first | (intro _; with_reducible assumption) | (intro h0; cases h0))
      try simp only [Act.put, List.getElem_toArray, List.getElem_cons_zero, List.getElem_cons_succ, List.setIfInBounds_toArray, List.set_cons_zero, List.set_cons_succ]
      refine wpT_takeP 4 (v := ?_) rfl (by kernel_rfl) (fun _ _ _ h => h) (by rfl) ?_ ?_ ?_
      rotate_left
      · (intro W; go_simp; first | done | with_reducible rfl)
      · (first | (intro _; with_reducible assumption) | (intro h0; cases h0))
      try simp only [Act.put, List.getElem_toArray, List.getElem_cons_zero, List.getElem_cons_succ, List.setIfInBounds_toArray, List.set_cons_zero, List.set_cons_succ]
      refine wpT_takeP 5 (v := ?_) rfl (by kernel_rfl) (fun _ _ _ h => h) (by rfl) ?_ ?_ ?_
      rotate_left
      · (intro W; go_simp; first | done | with_reducible rfl)
      · (first | (intro _; with_reducible assumption) | (intro h0; cases h0))
      try simp only [Act.put, List.getElem_toArray, List.getElem_cons_zero, List.getElem_cons_succ, List.setIfInBounds_toArray, List.set_cons_zero, List.set_cons_succ]
      refine wpT_take 0 30 (v := ?_) rfl (by kernel_rfl) (fun _ _ _ h => h) (by rfl) ?_ HS ?_
      rotate_left
      · (intro W hW; have hq0 := fun o => hW.cell (p := ⟨Bp, o, none⟩) (by simp <;> omega); have hq1 := fun o => hW.cell (p := ⟨Bq, o, none⟩) (by simp <;> omega); go_simp; first | done | with_reducible rfl)
      try simp only [Act.put, List.getElem_toArray, List.getElem_cons_zero, List.getElem_cons_succ, List.setIfInBounds_toArray, List.set_cons_zero, List.set_cons_succ]
      refine wpT_take 3 30 (v := ?_) rfl (by kernel_rfl) (fun _ _ _ h => h) (by rfl) ?_ HS ?_
      rotate_left
      · (intro W hW; have hq0 := fun o => hW.cell (p := ⟨Bp, o, none⟩) (by simp <;> omega); have hq1 := fun o => hW.cell (p := ⟨Bq, o, none⟩) (by simp <;> omega); go_simp; first | done | with_reducible rfl)
      try simp only [Act.put, List.getElem_toArray, List.getElem_cons_zero, List.getElem_cons_succ, List.setIfInBounds_toArray, List.set_cons_zero, List.set_cons_succ]
      refine wpT_take 6 30 (v := ?_) rfl (by kernel_rfl) (fun _ _ _ h => h) (by rfl) ?_ HS ?_
      rotate_left
      · (intro W hW; have hq0 := fun o => hW.cell (p := ⟨Bp, o, none⟩) (by simp <;> omega); have hq1 := fun o => hW.cell (p := ⟨Bq, o, none⟩) (by simp <;> omega); go_simp; first | done | with_reducible rfl)
      try simp only [Act.put, List.getElem_toArray, List.getElem_cons_zero, List.getElem_cons_succ, List.setIfInBounds_toArray, List.set_cons_zero, List.set_cons_succ]
      refine wpT_two 7 11 (by kernel_rfl) rfl rfl (fun K hK => ?_) (fun K hK => ?_)
      · skip
        go_simp
        refine (Join17_is _ _ _ _ _ _ _ _ _ _ HP.out H2.out _).mono ?_
        rintro e v1 ⟨rfl, hb⟩
        have HS := Below.trans HS (hb.mono HS.size)
        have HSV := HS
        clear hb
        refine hK.out _ _ ?_ ?_
        · (first | (intro _; with_reducible assumption) | (intro h0; cases h0))
        clear hK K
        try simp only [Act.put, List.getElem_toArray, List.getElem_cons_zero, List.getElem_cons_succ, List.setIfInBounds_toArray, List.set_cons_zero, List.set_cons_succ]
        refine wpT_takeP 8 (v := ?_) rfl (by kernel_rfl) (fun _ _ _ h => h) (by rfl) ?_ ?_ ?_
        rotate_left
        · (intro W; go_simp; first | done | with_reducible rfl)
        · (first | (intro _; with_reducible assumption) | (intro h0; cases h0))
        try simp only [Act.put, List.getElem_toArray, List.getElem_cons_zero, List.getElem_cons_succ, List.setIfInBounds_toArray, List.set_cons_zero, List.set_cons_succ]
        refine wpT_takeP 9 (v := ?_) rfl (by kernel_rfl) (fun _ _ _ h => h) (by rfl) ?_ ?_ ?_
        rotate_left
        · (intro W; go_simp; first | done | with_reducible rfl)
        · (first | (intro _; with_reducible assumption) | (intro h0; cases h0))
        try simp only [Act.put, List.getElem_toArray, List.getElem_cons_zero, List.getElem_cons_succ, List.setIfInBounds_toArray, List.set_cons_zero, List.set_cons_succ]
        refine wpT_takeP 10 (v := ?_) rfl (by kernel_rfl) (fun _ _ _ h => h) (by rfl) ?_ ?_ ?_
        rotate_left
        · (intro W; go_simp; first | done | with_reducible rfl)
        · (first | (intro _; with_reducible assumption) | (intro h0; cases h0))
        try simp only [Act.put, List.getElem_toArray, List.getElem_cons_zero, List.getElem_cons_succ, List.setIfInBounds_toArray, List.set_cons_zero, List.set_cons_succ]
        refine wpT_one 11 (by kernel_rfl) rfl (fun K hK => ?_)
        go_simp
        have HZ : Zc (v1.alloc (Obj.cells #[.int .i64 0, .int .i64 0, .int .i64 0] 27)) v1.heap.size := Zc.new (v1) 27
        have HS := ba_c HS (Nat.le_refl _) (Obj.cells #[.int .i64 0, .int .i64 0, .int .i64 0] 27)
        refine hK.out _ _ ?_ ?_
        · (intro _; with_reducible exact HS)
        clear hK K
        try simp only [Act.put, List.getElem_toArray, List.getElem_cons_zero, List.getElem_cons_succ, List.setIfInBounds_toArray, List.set_cons_zero, List.set_cons_succ]
        obtain ⟨z0, ⟨z1, z2, z3⟩, z4, z5, z6⟩ := HZ
        refine wpT_one 12 (by kernel_rfl) rfl (fun K hK => ?_)
        go_simp
        refine hK.out _ _ ?_ ?_
        · (first | (intro _; with_reducible assumption) | (intro h0; cases h0; done) | (intro _; simp [go_sem]))
        clear hK K
        try simp only [Act.put, List.getElem_toArray, List.getElem_cons_zero, List.getElem_cons_succ, List.setIfInBounds_toArray, List.set_cons_zero, List.set_cons_succ]
        refine wpT_one 13 (by kernel_rfl) rfl (fun K hK => ?_)
        go_simp
        refine hK.out _ _ ?_ ?_
        · (first | (intro _; with_reducible assumption) | (intro h0; cases h0; done) | (intro _; simp [go_sem]))
        clear hK K
        try simp only [Act.put, List.getElem_toArray, List.getElem_cons_zero, List.getElem_cons_succ, List.setIfInBounds_toArray, List.set_cons_zero, List.set_cons_succ]
        refine wpT_done (by kernel_rfl) ?_ _
        go_wp2_with fail
        go_meet
        refine ⟨v1.heap.size, rfl, ?_, ?_, ?_, ?_, ?_⟩
        · first | (simp [go_sem]; done) | (simpa using z0)
        · simp [go_sem, z1, z2, z3]
        · simp [go_sem, z1, z2, z3]
        · simp [go_sem, z1, z2, z3]
        · (have hsz1 : W1.heap.size ≤ v1.heap.size := HSV.size); go_grown
      · skip
        go_simp
        have HZ : Zc (W1.alloc (Obj.cells #[.int .i64 0, .int .i64 0, .int .i64 0] 27)).drew W1.heap.size := Zc.new (W1) 27
        have HS : Below (W1.heap.size) (W1) (W1.alloc (Obj.cells #[.int .i64 0, .int .i64 0, .int .i64 0] 27)).drew := Below.drew (ba_c (Below.refl _ _) (Nat.le_refl _) _)
        refine hK.out _ _ ?_ ?_
        · (intro _; with_reducible exact HS)
        clear hK K
        try simp only [Act.put, List.getElem_toArray, List.getElem_cons_zero, List.getElem_cons_succ, List.setIfInBounds_toArray, List.set_cons_zero, List.set_cons_succ]
        refine wpT_one 7 (by kernel_rfl) rfl (fun K hK => ?_)
        go_simp
        refine (Join17_is _ _ _ _ _ _ _ _ _ _ HP.out H2.out _).mono ?_
        rintro e v1 ⟨rfl, hb⟩
        have HZ := Zc.below HZ hb HZ.1
        have HS := Below.trans HS (hb.mono HS.size)
        have HSV := HS
        clear hb
        refine hK.out _ _ ?_ ?_
        · (first | (intro _; with_reducible assumption) | (intro h0; cases h0))
        clear hK K
        try simp only [Act.put, List.getElem_toArray, List.getElem_cons_zero, List.getElem_cons_succ, List.setIfInBounds_toArray, List.set_cons_zero, List.set_cons_succ]
        refine wpT_takeP 8 (v := ?_) rfl (by kernel_rfl) (fun _ _ _ h => h) (by rfl) ?_ ?_ ?_
        rotate_left
        · (intro W; go_simp; first | done | with_reducible rfl)
        · (first | (intro _; with_reducible assumption) | (intro h0; cases h0))
        try simp only [Act.put, List.getElem_toArray, List.getElem_cons_zero, List.getElem_cons_succ, List.setIfInBounds_toArray, List.set_cons_zero, List.set_cons_succ]
        refine wpT_takeP 9 (v := ?_) rfl (by kernel_rfl) (fun _ _ _ h => h) (by rfl) ?_ ?_ ?_
        rotate_left
        · (intro W; go_simp; first | done | with_reducible rfl)
        · (first | (intro _; with_reducible assumption) | (intro h0; cases h0))
        try simp only [Act.put, List.getElem_toArray, List.getElem_cons_zero, List.getElem_cons_succ, List.setIfInBounds_toArray, List.set_cons_zero, List.set_cons_succ]
        refine wpT_takeP 10 (v := ?_) rfl (by kernel_rfl) (fun _ _ _ h => h) (by rfl) ?_ ?_ ?_
        rotate_left
        · (intro W; go_simp; first | done | with_reducible rfl)
        · (first | (intro _; with_reducible assumption) | (intro h0; cases h0))
        try simp only [Act.put, List.getElem_toArray, List.getElem_cons_zero, List.getElem_cons_succ, List.setIfInBounds_toArray, List.set_cons_zero, List.set_cons_succ]
        obtain ⟨z0, ⟨z1, z2, z3⟩, z4, z5, z6⟩ := HZ
        refine wpT_one 12 (by kernel_rfl) rfl (fun K hK => ?_)
        go_simp
        refine hK.out _ _ ?_ ?_
        · (first | (intro _; with_reducible assumption) | (intro h0; cases h0; done) | (intro _; simp [go_sem]))
        clear hK K
        try simp only [Act.put, List.getElem_toArray, List.getElem_cons_zero, List.getElem_cons_succ, List.setIfInBounds_toArray, List.set_cons_zero, List.set_cons_succ]
        refine wpT_one 13 (by kernel_rfl) rfl (fun K hK => ?_)
        go_simp
        refine hK.out _ _ ?_ ?_
        · (first | (intro _; with_reducible assumption) | (intro h0; cases h0; done) | (intro _; simp [go_sem]))
        clear hK K
        try simp only [Act.put, List.getElem_toArray, List.getElem_cons_zero, List.getElem_cons_succ, List.setIfInBounds_toArray, List.set_cons_zero, List.set_cons_succ]
        refine wpT_done (by kernel_rfl) ?_ _
        go_wp2_with fail
        go_meet
        refine ⟨W1.heap.size, rfl, ?_, ?_, ?_, ?_, ?_⟩
        · first | (simp [go_sem]; done) | (simpa using z0)
        · simp [go_sem, z1, z2, z3]
        · simp [go_sem, z1, z2, z3]
        · simp [go_sem, z1, z2, z3]
        · (have hsz1 : W1.heap.size ≤ v1.heap.size := HSV.size); go_grown
    case rest =>
      obtain ⟨g2, rfl, hg2, x0, x1, x2, hb2⟩ := hcut
      obtain ⟨W2, rfl⟩ : ∃ wo : World, wo = wc := ⟨_, rfl⟩
      have sp : W2.cell? ⟨Bp, 0, none⟩ = some (.int .i64 p) := by rw [hb2.cell hBp1]; exact rp
      have s0 : W2.cell? ⟨g1, 0, none⟩ = some (.int .i64 e0) := by rw [hb2.cell hg1]; exact y0
      have s1 : W2.cell? ⟨g1, 1, none⟩ = some (.int .i64 e1) := by rw [hb2.cell hg1]; exact y1
      have s2 : W2.cell? ⟨g1, 2, none⟩ = some (.int .i64 e2) := by rw [hb2.cell hg1]; exact y2
      have HZ2 := Lib.hid (HZ1.out.below hb2 (by omega))
      have HB2 := Lib.hid (HB1.out.trans (hb2.mono HB1.out.size))
      clear hb2 HZ1 HB1 rp y0 y1 y2 rc0 rc1 rc2 rd0 rd1 rd2
      go_wp2_with fail
      refine (Join17_is _ _ _ _ _ _ _ _ _ _ HP.out H3.out _).mono ?_
      rintro e w3 ⟨rfl, hb3⟩
      have hz3 := HZ2.out.below hb3 HZ2.out.1
      have hB := Below.trans HB2.out (hb3.mono HB2.out.size)
      clear hb3
      obtain ⟨z0, ⟨z1, z2, z3⟩, z4, z5, z6⟩ := hz3
      go_wp2
      refine bodyPost_ret (v := .agg #[.int .i64 t0, .int .i64 t1, .int .i64 t2]) (by simp [results, Try.results32, go_sem, z0, z1, z2, z3, z4, z5, z6, Nat.ne_of_lt z0]) rfl ⟨rfl, ?_⟩
      go_grown

end Go.Proofs.Ytfdbkocpljiehaa
