/- Proved: compasslaw.FinitePlain returns true at every integer and every two triples, and leaves its arguments as they were. No condition. -/
import Derived.Test.YtfdbkocpljiehaaPz
import Derived.Test.YtfdbkocpljiehaaWu
import Derived.Test.YtfdbkocpljiehaaMb
set_option linter.unusedVariables false
set_option linter.unusedSimpArgs false
namespace Go.Proofs.Ytfdbkocpljiehaa.PFinitePlain
open Go.ChangeShapes Go.WideShapes Go.ChangeAt Go.RowKit

/-- the law's walk, all cases together: the plain law decides which case it is -/
theorem whole (p a b c x y z : Int) (w : World) :
    Calls Try.prog 5 #[.int .i64 p, .agg #[.int .i64 a, .int .i64 b, .int .i64 c], .agg #[.int .i64 x, .int .i64 y, .int .i64 z]] w fun e w' => e = .returned (.bool true) ∧ Below w.heap.size w w' := by
  cases hp : isP p
  · exact FinitePlain5_bad p a b c x y z hp w
  · obtain ⟨⟨u0, u1, u2⟩, hu⟩ : ∃ u, pl p a b c = u := ⟨_, rfl⟩
    obtain ⟨⟨v0, v1, v2⟩, hv⟩ : ∃ v, pl p x y z = v := ⟨_, rfl⟩
    cases hz : zz p a b c
    · cases hy : zz p x y z
      · obtain ⟨⟨t0, t1, t2⟩, ht⟩ : ∃ t, pl p (u1 * v2 - u2 * v1) (u2 * v0 - u0 * v2) (u0 * v1 - u1 * v0) = t := ⟨_, rfl⟩
        have hf := free_iff hp hu hz hv hy
        have hd := dot_same hp hu hz hv hy
        cases hq : (u0 == v0 && (u1 == v1 && u2 == v2))
        · rw [hq] at hf
          obtain ⟨hN, h1, h2⟩ := join_law hp hu hz hv hy ht hf
          exact FinitePlain5_ok p a b c x y z u0 u1 u2 v0 v1 v2 t0 t1 t2 _ _ hp hu hz hv hy ht hf rfl rfl hd hq (nm_pl hp hN) (nm_nz (isP_bd hp).1 hN) h1 h2 w
        · rw [hq] at hf
          exact FinitePlain5_free p a b c x y z u0 u1 u2 v0 v1 v2 t0 t1 t2 _ _ hp hu hz hv hy ht hf rfl rfl hd hq w
      · exact FinitePlain5_fb p a b c x y z u0 u1 u2 v0 v1 v2 hp hu hz hv hy w
    · exact FinitePlain5_fa p a b c x y z u0 u1 u2 v0 v1 v2 _ hp hu hz hv rfl w

theorem walk (p : Int) (l m : List Int) (hl : l.length = 3) (hm : m.length = 3) (w : World) :
    Calls Try.prog 5 #[.int .i64 p, .agg (l.map (Value.int .i64)).toArray, .agg (m.map (Value.int .i64)).toArray] w fun e w' => e = .returned (.bool true) ∧ Below w.heap.size w w' := by
  match l, hl, m, hm with
  | [a, b, c], _, [x, y, z], _ => exact whole p a b c x y z w

set_option maxRecDepth 100000 in
theorem lifted (os : Os) (started : os.Started) (H : Type) (enc : TypeId × Value → H) :
    ReturnsInHanded {} Try.checked os 5 .any (Rows.finitePlainSpec.pre6 enc Try.prog Try.f5 Rows.finitePlainRow.domain false) (Rows.finitePlainSpec.post enc Try.prog Try.f5 false true false false) := by
  refine returnsInHanded_of_change (C := Try.checked) Try.own0 started (by kernel_rfl) Try.func5
    (ChangeSpec.witness6 (enc := enc) (C := Try.checked) false ⟨#[], #[.int .i64 0, .agg #[.int .i64 0, .int .i64 0, .int .i64 0], .agg #[.int .i64 0, .int .i64 0, .int .i64 0]], []⟩ 8 (by kernel_rfl) (by kernel_rfl) (by kernel_rfl) (by kernel_rfl)) ?_
  intro W base args ds gs before hval0 hW hcnd _
  have hval : ∀ (j : Nat) t v, Try.f5.params[j]? = some t → args[j]? = some v → Value.okWide Try.prog W .any base t v := hval0
  have hW' := hW
  obtain ⟨p, q, hA0, hV, rfl, hfz, hnd⟩ := hW
  have hA : DataW.TrodAll enc Try.prog W 0 (fun _ => true) true Try.f5.params.toList args.toList ds p := hA0
  rw [Try.params5] at hA hval
  obtain ⟨v0, vs0, d0, ds0, p0, q0, hargs, rfl, rfl, h0, r0⟩ := trodAll_cons hA
  obtain ⟨v1, vs1, d1, ds1, p1, q1, rfl, rfl, rfl, h1, r1⟩ := trodAll_cons r0
  obtain ⟨v2, vs2, d2, ds2, p2, q2, rfl, rfl, rfl, h2, r2⟩ := trodAll_cons r1
  obtain ⟨rfl, rfl, rfl⟩ := trodAll_nil r2
  obtain rfl : args = #[v0, v1, v2] := by cases args; simp_all
  obtain ⟨rfl, rfl⟩ := trodVars_none hV
  have k0 := h0
  have lt0 : ∀ x ∈ p0, x.block < W.heap.size := by obtain ⟨m, hm⟩ := k0; exact DataW.trod_lt m _ _ _ hm
  obtain ⟨a0, rfl, rfl, rfl, w0⟩ := open_int Try.underlying3 (hval 0 3 v0 rfl rfl) h0
  have k1 := h1
  have lt1 : ∀ x ∈ p1, x.block < W.heap.size := by obtain ⟨m, hm⟩ := k1; exact DataW.trod_lt m _ _ _ hm
  obtain ⟨z1, hz1, rfl⟩ := open_flat Try.underlying27 Try.cells27 (hval 1 27 v1 rfl rfl) h1
  have k2 := h2
  have lt2 : ∀ x ∈ p2, x.block < W.heap.size := by obtain ⟨m, hm⟩ := k2; exact DataW.trod_lt m _ _ _ hm
  obtain ⟨z2, hz2, rfl⟩ := open_flat Try.underlying27 Try.cells27 (hval 2 27 v2 rfl rfl) h2
  clear hA0 hval0
  refine (walk a0 z1 z2 hz1 hz2 W).mono fun e W' ⟨he, bel⟩ => ?_
  subst he
  exact ⟨_, rfl, _, _, _, [], _, [], hW', trodAll_mk1 (shut_bool Try.underlying4 _), (trodAll_cons_mk (Below.trod Try.laid0 (by kernel_rfl) (of_decide_eq_true (by kernel_rfl)) k0 bel lt0) (trodAll_cons_mk (Below.trod Try.laid0 (by kernel_rfl) (of_decide_eq_true (by kernel_rfl)) k1 bel lt1) (trodAll_cons_mk (Below.trod Try.laid0 (by kernel_rfl) (of_decide_eq_true (by kernel_rfl)) k2 bel lt2) trodAll_mk0))), rfl, bel.frame _, fun h => by cases h⟩

theorem over : Rows.finitePlainRow.holds Try.pinned (OpenSpec.ofChange Rows.finitePlainSpec) :=
  OpenClaim.holds_of_wide 5 Try.f5 rfl rfl rfl rfl rfl rfl rfl ⟨rfl, rfl, rfl, rfl, rfl⟩ rfl rfl rfl rfl rfl (by kernel_rfl) Try.func5 (by kernel_rfl)
    (of_decide_eq_true (by kernel_rfl)) (by unfold Func.isWrapper; first | (rw [if_pos (by decide +kernel)]; kernel_rfl) | (rw [if_neg (by decide +kernel)]; exact ⟨rfl, rfl⟩))
    (fun os started H enc _ => lifted os started H enc)
end Go.Proofs.Ytfdbkocpljiehaa.PFinitePlain

namespace Go.Proofs.Ytfdbkocpljiehaa
theorem finitePlain_holds : Rows.FinitePlainSaid := PFinitePlain.over
#print axioms finitePlain_holds
end Go.Proofs.Ytfdbkocpljiehaa
