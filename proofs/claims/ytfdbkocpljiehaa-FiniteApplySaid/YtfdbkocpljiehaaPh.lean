/- Proved: compasslaw.FiniteApply returns true at every integer, every map and every point, and leaves its arguments as they were. No condition. -/
import Derived.Test.YtfdbkocpljiehaaPz
import Derived.Test.YtfdbkocpljiehaaZj
set_option linter.unusedVariables false
set_option linter.unusedSimpArgs false
namespace Go.Proofs.Ytfdbkocpljiehaa.PFiniteApply
open Go.ChangeShapes Go.WideShapes Go.ChangeAt Go.RowKit

theorem whole (p a0 a1 a2 a3 a4 a5 a6 a7 a8 x y z : Int) (w : World) :
    Calls Try.prog 8 #[.int .i64 p, .agg #[.int .i64 a0, .int .i64 a1, .int .i64 a2, .int .i64 a3, .int .i64 a4, .int .i64 a5, .int .i64 a6, .int .i64 a7, .int .i64 a8], .agg #[.int .i64 x, .int .i64 y, .int .i64 z]] w fun e w' => e = .returned (.bool true) ∧ Below w.heap.size w w' := by
  cases hp : isP p
  · exact FiniteApply8_bad p a0 a1 a2 a3 a4 a5 a6 a7 a8 x y z hp w
  · cases hd : gdB p a0 a1 a2 a3 a4 a5 a6 a7 a8
    · exact FiniteApply8_w p a0 a1 a2 a3 a4 a5 a6 a7 a8 x y z _ hp hd rfl w
    · obtain ⟨P, rfl, hP2, hP0⟩ := toF hp
      haveI : NeZero P := ⟨hP0⟩
      obtain ⟨h, h'⟩ := isP_bd hp
      have hn := allK_len hp
      have hPP : P * P ≤ 13 * 13 := Nat.mul_le_mul (by omega) (by omega)
      have hD := dd_of (n := P) hd
      obtain ⟨N, hN1, hN2, hb, hmin⟩ := order_ex hP2 hp hD
      have hall := all_back hp hD hb
      have hnot : ∀ k, 1 ≤ k → k < N → _ := fun k h1 h2 => not_back hp (hmin k h1 h2)
      rw [hn] at hall
      have hnot' : ∀ k, 1 ≤ k → k < N → ∃ i, i < P * P + P + 1 ∧ eqT (itr (sT P a0 a1 a2 a3 a4 a5 a6 a7 a8) k ((allK P (P * P * P)).getD i (0, 0, 0))) ((allK P (P * P * P)).getD i (0, 0, 0)) = false := fun k h1 h2 => by
        have := hnot k h1 h2
        rw [hn] at this
        exact this
      cases hz : zz P x y z
      · obtain ⟨⟨t0, t1, t2⟩, ht⟩ : ∃ t, sT P a0 a1 a2 a3 a4 a5 a6 a7 a8 (x, y, z) = t := ⟨_, rfl⟩
        exact FiniteApply8_ok P a0 a1 a2 a3 a4 a5 a6 a7 a8 x y z t0 t1 t2 N _ hp hd hN1 hN2 hb hmin hn (by omega) (by omega) hall hnot' hz ht w
      · exact FiniteApply8_h P a0 a1 a2 a3 a4 a5 a6 a7 a8 x y z N _ hp hd hN1 hN2 hb hmin hn (by omega) (by omega) hall hnot' hz w

theorem walk (p : Int) (l : List Int) (hl : l.length = 9) (m : List Int) (hm : m.length = 3) (w : World) :
    Calls Try.prog 8 #[.int .i64 p, .agg (l.map (Value.int .i64)).toArray, .agg (m.map (Value.int .i64)).toArray] w fun e w' => e = .returned (.bool true) ∧ Below w.heap.size w w' := by
  match l, hl, m, hm with
  | [a0, a1, a2, a3, a4, a5, a6, a7, a8], _, [x, y, z], _ => exact whole p a0 a1 a2 a3 a4 a5 a6 a7 a8 x y z w

set_option maxRecDepth 100000 in
theorem lifted (os : Os) (started : os.Started) (H : Type) (enc : TypeId × Value → H) :
    ReturnsInHanded {} Try.checked os 8 .any (Rows.finiteApplySpec.pre6 enc Try.prog Try.f8 Rows.finiteApplyRow.domain false) (Rows.finiteApplySpec.post enc Try.prog Try.f8 false true false false) := by
  refine returnsInHanded_of_change (C := Try.checked) Try.own0 started (by kernel_rfl) Try.func8
    (ChangeSpec.witness6 (enc := enc) (C := Try.checked) false ⟨#[], #[.int .i64 0, .agg #[.int .i64 0, .int .i64 0, .int .i64 0, .int .i64 0, .int .i64 0, .int .i64 0, .int .i64 0, .int .i64 0, .int .i64 0], .agg #[.int .i64 0, .int .i64 0, .int .i64 0]], []⟩ 8 (by kernel_rfl) (by kernel_rfl) (by kernel_rfl) (by kernel_rfl)) ?_
  intro W base args ds gs before hval0 hW hcnd _
  have hval : ∀ (j : Nat) t v, Try.f8.params[j]? = some t → args[j]? = some v → Value.okWide Try.prog W .any base t v := hval0
  have hW' := hW
  obtain ⟨p, q, hA0, hV, rfl, hfz, hnd⟩ := hW
  have hA : DataW.TrodAll enc Try.prog W 0 (fun _ => true) true Try.f8.params.toList args.toList ds p := hA0
  rw [Try.params8] at hA hval
  obtain ⟨v0, vs0, d0, ds0, p0, q0, hargs, rfl, rfl, h0, r0⟩ := trodAll_cons hA
  obtain ⟨v1, vs1, d1, ds1, p1, q1, rfl, rfl, rfl, h1, r1⟩ := trodAll_cons r0
  obtain ⟨v2, vs2, d2, ds2, p2, q2, rfl, rfl, rfl, h2, r2⟩ := trodAll_cons r1
  obtain ⟨rfl, rfl, rfl⟩ := trodAll_nil r2
  obtain rfl : args = #[v0, v1, v2] := by cases args; simp_all
  obtain ⟨rfl, rfl⟩ := trodVars_none hV
  have k0 := h0
  have lt0 : ∀ x ∈ p0, x.block < W.heap.size := by obtain ⟨m, hm⟩ := k0; exact DataW.trod_lt m _ _ _ hm
  obtain ⟨a0, rfl, rfl, rfl, w0⟩ := open_int Try.underlying3 (hval 0 3 v0 rfl rfl) h0
  have k1 := h1
  have lt1 : ∀ x ∈ p1, x.block < W.heap.size := by obtain ⟨m, hm⟩ := k1; exact DataW.trod_lt m _ _ _ hm
  obtain ⟨z1, hz1, rfl⟩ := open_flat Try.underlying29 Try.cells29 (hval 1 29 v1 rfl rfl) h1
  have k2 := h2
  have lt2 : ∀ x ∈ p2, x.block < W.heap.size := by obtain ⟨m, hm⟩ := k2; exact DataW.trod_lt m _ _ _ hm
  obtain ⟨z2, hz2, rfl⟩ := open_flat Try.underlying27 Try.cells27 (hval 2 27 v2 rfl rfl) h2
  clear hA0 hval0
  refine (walk a0 z1 hz1 z2 hz2 W).mono fun e W' ⟨he, bel⟩ => ?_
  subst he
  exact ⟨_, rfl, _, _, _, [], _, [], hW', trodAll_mk1 (shut_bool Try.underlying4 _), (trodAll_cons_mk (Below.trod Try.laid0 (by kernel_rfl) (of_decide_eq_true (by kernel_rfl)) k0 bel lt0) (trodAll_cons_mk (Below.trod Try.laid0 (by kernel_rfl) (of_decide_eq_true (by kernel_rfl)) k1 bel lt1) (trodAll_cons_mk (Below.trod Try.laid0 (by kernel_rfl) (of_decide_eq_true (by kernel_rfl)) k2 bel lt2) trodAll_mk0))), rfl, bel.frame _, fun h => by cases h⟩

theorem over : Rows.finiteApplyRow.holds Try.pinned (OpenSpec.ofChange Rows.finiteApplySpec) :=
  OpenClaim.holds_of_wide 8 Try.f8 rfl rfl rfl rfl rfl rfl rfl ⟨rfl, rfl, rfl, rfl, rfl⟩ rfl rfl rfl rfl rfl (by kernel_rfl) Try.func8 (by kernel_rfl)
    (of_decide_eq_true (by kernel_rfl)) (by unfold Func.isWrapper; first | (rw [if_pos (by decide +kernel)]; kernel_rfl) | (rw [if_neg (by decide +kernel)]; exact ⟨rfl, rfl⟩))
    (fun os started H enc _ => lifted os started H enc)
end Go.Proofs.Ytfdbkocpljiehaa.PFiniteApply

namespace Go.Proofs.Ytfdbkocpljiehaa
theorem finiteApply_holds : Rows.FiniteApplySaid := PFiniteApply.over
#print axioms finiteApply_holds
end Go.Proofs.Ytfdbkocpljiehaa
