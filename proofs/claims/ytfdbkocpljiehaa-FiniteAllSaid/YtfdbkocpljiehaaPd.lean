/- Proved: compasslaw.FiniteAll returns true at every integer and every triple, and leaves its arguments as they were. No condition. -/
import Derived.Test.YtfdbkocpljiehaaPz
import Derived.Test.YtfdbkocpljiehaaWy
import Derived.Test.YtfdbkocpljiehaaMd
set_option linter.unusedVariables false
set_option linter.unusedSimpArgs false
namespace Go.Proofs.Ytfdbkocpljiehaa.PFiniteAll
open Go.ChangeShapes Go.WideShapes Go.ChangeAt Go.RowKit

theorem whole (p a b c : Int) (w : World) :
    Calls Try.prog 6 #[.int .i64 p, .agg #[.int .i64 a, .int .i64 b, .int .i64 c]] w fun e w' => e = .returned (.bool true) ∧ Below w.heap.size w w' := by
  cases hp : isP p
  · exact FiniteAll6_bad p a b c hp w
  · obtain ⟨P, rfl, hP2, _⟩ := toF hp
    obtain ⟨⟨u0, u1, u2⟩, hu⟩ : ∃ u, pl P a b c = u := ⟨_, rfl⟩
    have hn := allK_len hp
    have hP := isP_cases hp
    have hPP : P * P ≤ 13 * 13 := Nat.mul_le_mul (by omega) (by omega)
    have hnp : (((P * P + P + 1 : Nat) : Int) != (P : Int) * P + P + 1) = false := by simp
    cases hz : zz P a b c
    · exact FiniteAll6_ok P _ a b c u0 u1 u2 hp hn (by omega) (by omega) hnp hu hz (allK_at hn) (cnt P u0 u1 u2) rfl (cnt_le P u0 u1 u2) (cnt_succ P _ u0 u1 u2 hn) (cnt_all hp hn hz hu) w
    · exact FiniteAll6_flat P _ a b c u0 u1 u2 hp hn (by omega) (by omega) hnp hu hz w

theorem walk (p : Int) (l : List Int) (hl : l.length = 3) (w : World) :
    Calls Try.prog 6 #[.int .i64 p, .agg (l.map (Value.int .i64)).toArray] w fun e w' => e = .returned (.bool true) ∧ Below w.heap.size w w' := by
  match l, hl with
  | [a, b, c], _ => exact whole p a b c w

set_option maxRecDepth 100000 in
theorem lifted (os : Os) (started : os.Started) (H : Type) (enc : TypeId × Value → H) :
    ReturnsInHanded {} Try.checked os 6 .any (Rows.finiteAllSpec.pre6 enc Try.prog Try.f6 Rows.finiteAllRow.domain false) (Rows.finiteAllSpec.post enc Try.prog Try.f6 false true false false) := by
  refine returnsInHanded_of_change (C := Try.checked) Try.own0 started (by kernel_rfl) Try.func6
    (ChangeSpec.witness6 (enc := enc) (C := Try.checked) false ⟨#[], #[.int .i64 0, .agg #[.int .i64 0, .int .i64 0, .int .i64 0]], []⟩ 8 (by kernel_rfl) (by kernel_rfl) (by kernel_rfl) (by kernel_rfl)) ?_
  intro W base args ds gs before hval0 hW hcnd _
  have hval : ∀ (j : Nat) t v, Try.f6.params[j]? = some t → args[j]? = some v → Value.okWide Try.prog W .any base t v := hval0
  have hW' := hW
  obtain ⟨p, q, hA0, hV, rfl, hfz, hnd⟩ := hW
  have hA : DataW.TrodAll enc Try.prog W 0 (fun _ => true) true Try.f6.params.toList args.toList ds p := hA0
  rw [Try.params6] at hA hval
  obtain ⟨v0, vs0, d0, ds0, p0, q0, hargs, rfl, rfl, h0, r0⟩ := trodAll_cons hA
  obtain ⟨v1, vs1, d1, ds1, p1, q1, rfl, rfl, rfl, h1, r1⟩ := trodAll_cons r0
  obtain ⟨rfl, rfl, rfl⟩ := trodAll_nil r1
  obtain rfl : args = #[v0, v1] := by cases args; simp_all
  obtain ⟨rfl, rfl⟩ := trodVars_none hV
  have k0 := h0
  have lt0 : ∀ x ∈ p0, x.block < W.heap.size := by obtain ⟨m, hm⟩ := k0; exact DataW.trod_lt m _ _ _ hm
  obtain ⟨a0, rfl, rfl, rfl, w0⟩ := open_int Try.underlying3 (hval 0 3 v0 rfl rfl) h0
  have k1 := h1
  have lt1 : ∀ x ∈ p1, x.block < W.heap.size := by obtain ⟨m, hm⟩ := k1; exact DataW.trod_lt m _ _ _ hm
  obtain ⟨z1, hz1, rfl⟩ := open_flat Try.underlying27 Try.cells27 (hval 1 27 v1 rfl rfl) h1
  clear hA0 hval0
  refine (walk a0 z1 hz1 W).mono fun e W' ⟨he, bel⟩ => ?_
  subst he
  exact ⟨_, rfl, _, _, _, [], _, [], hW', trodAll_mk1 (shut_bool Try.underlying4 _), (trodAll_cons_mk (Below.trod Try.laid0 (by kernel_rfl) (of_decide_eq_true (by kernel_rfl)) k0 bel lt0) (trodAll_cons_mk (Below.trod Try.laid0 (by kernel_rfl) (of_decide_eq_true (by kernel_rfl)) k1 bel lt1) trodAll_mk0)), rfl, bel.frame _, fun h => by cases h⟩

theorem over : Rows.finiteAllRow.holds Try.pinned (OpenSpec.ofChange Rows.finiteAllSpec) :=
  OpenClaim.holds_of_wide 6 Try.f6 rfl rfl rfl rfl rfl rfl rfl ⟨rfl, rfl, rfl, rfl, rfl⟩ rfl rfl rfl rfl rfl (by kernel_rfl) Try.func6 (by kernel_rfl)
    (of_decide_eq_true (by kernel_rfl)) (by unfold Func.isWrapper; first | (rw [if_pos (by decide +kernel)]; kernel_rfl) | (rw [if_neg (by decide +kernel)]; exact ⟨rfl, rfl⟩))
    (fun os started H enc _ => lifted os started H enc)
end Go.Proofs.Ytfdbkocpljiehaa.PFiniteAll

namespace Go.Proofs.Ytfdbkocpljiehaa
theorem finiteAll_holds : Rows.FiniteAllSaid := PFiniteAll.over
#print axioms finiteAll_holds
end Go.Proofs.Ytfdbkocpljiehaa
