/- Proved: compasslaw.FiniteFano returns true at every integer and every four points, and leaves its arguments as they were. No condition. -/
import Derived.Test.YtfdbkocpljiehaaPz
import Derived.Test.YtfdbkocpljiehaaZg
set_option linter.unusedVariables false
set_option linter.unusedSimpArgs false
namespace Go.Proofs.Ytfdbkocpljiehaa.PFiniteFano
open Go.ChangeShapes Go.WideShapes Go.ChangeAt Go.RowKit

theorem whole (p q0 q1 q2 q3 q4 q5 q6 q7 q8 q9 q10 q11 : Int) (w : World) :
    Calls Try.prog 9 #[.int .i64 p, .agg #[.int .i64 q0, .int .i64 q1, .int .i64 q2, .int .i64 q3, .int .i64 q4, .int .i64 q5, .int .i64 q6, .int .i64 q7, .int .i64 q8, .int .i64 q9, .int .i64 q10, .int .i64 q11]] w fun e w' => e = .returned (.bool true) ∧ Below w.heap.size w w' := by
  cases hp : isP p
  · exact FiniteFano9_bad p q0 q1 q2 q3 q4 q5 q6 q7 q8 q9 q10 q11 hp w
  · cases hE : (errA p (ptF q0 q1 q2 q3 q4 q5 q6 q7 q8 q9 q10 q11) 4 == 0)
    · exact FiniteFano9_err p q0 q1 q2 q3 q4 q5 q6 q7 q8 q9 q10 q11 _ hp rfl hE w
    · have hE0 : errA p (ptF q0 q1 q2 q3 q4 q5 q6 q7 q8 q9 q10 q11) 4 = 0 := by simpa using hE
      cases hB : arcB p (xT p (ptF q0 q1 q2 q3 q4 q5 q6 q7 q8 q9 q10 q11)) 4
      · exact FiniteFano9_no p q0 q1 q2 q3 q4 q5 q6 q7 q8 q9 q10 q11 hp hE0 hB w
      · exact FiniteFano9_ok p q0 q1 q2 q3 q4 q5 q6 q7 q8 q9 q10 q11 hp hE0 hB w

theorem walk (p : Int) (l : List Int) (hl : l.length = 3 * 4) (w : World) :
    Calls Try.prog 9 #[.int .i64 p, .agg (l.map (Value.int .i64)).toArray] w fun e w' => e = .returned (.bool true) ∧ Below w.heap.size w w' := by
  match l, hl with
  | [q0, q1, q2, q3, q4, q5, q6, q7, q8, q9, q10, q11], _ => exact whole p q0 q1 q2 q3 q4 q5 q6 q7 q8 q9 q10 q11 w

set_option maxRecDepth 100000 in
theorem lifted (os : Os) (started : os.Started) (H : Type) (enc : TypeId × Value → H) :
    ReturnsInHanded {} Try.checked os 9 .any (Rows.finiteFanoSpec.pre6 enc Try.prog Try.f9 Rows.finiteFanoRow.domain false) (Rows.finiteFanoSpec.post enc Try.prog Try.f9 false true false false) := by
  refine returnsInHanded_of_change (C := Try.checked) Try.own0 started (by kernel_rfl) Try.func9
    (ChangeSpec.witness6 (enc := enc) (C := Try.checked) false ⟨#[], #[.int .i64 0, .agg #[.int .i64 0, .int .i64 0, .int .i64 0, .int .i64 0, .int .i64 0, .int .i64 0, .int .i64 0, .int .i64 0, .int .i64 0, .int .i64 0, .int .i64 0, .int .i64 0]], []⟩ 8 (by kernel_rfl) (by kernel_rfl) (by kernel_rfl) (by kernel_rfl)) ?_
  intro W base args ds gs before hval0 hW hcnd _
  have hval : ∀ (j : Nat) t v, Try.f9.params[j]? = some t → args[j]? = some v → Value.okWide Try.prog W .any base t v := hval0
  have hW' := hW
  obtain ⟨p, q, hA0, hV, rfl, hfz, hnd⟩ := hW
  have hA : DataW.TrodAll enc Try.prog W 0 (fun _ => true) true Try.f9.params.toList args.toList ds p := hA0
  rw [Try.params9] at hA hval
  obtain ⟨v0, vs0, d0, ds0, p0, q0, hargs, rfl, rfl, h0, r0⟩ := trodAll_cons hA
  obtain ⟨v1, vs1, d1, ds1, p1, q1, rfl, rfl, rfl, h1, r1⟩ := trodAll_cons r0
  obtain ⟨rfl, rfl, rfl⟩ := trodAll_nil r1
  obtain rfl : args = #[v0, v1] := by cases args; simp_all
  obtain ⟨rfl, rfl⟩ := trodVars_none hV
  have k0 := h0
  have lt0 : ∀ x ∈ p0, x.block < W.heap.size := by obtain ⟨m, hm⟩ := k0; exact DataW.trod_lt m _ _ _ hm
  obtain ⟨a0, rfl, rfl, rfl, w0⟩ := open_int Try.underlying3 (hval 0 3 v0 rfl rfl) h0
  have k1 := h1
  have lt1 : ∀ x ∈ p1, x.block < W.heap.size := by obtain ⟨m, hm⟩ := k1; exact DataW.trod_lt m _ _ _ hm
  obtain ⟨z1, hz1, rfl⟩ := open_deep Try.underlying61 Try.cells61 (hval 1 61 v1 rfl rfl) h1
  clear hA0 hval0
  refine (walk a0 z1 hz1 W).mono fun e W' ⟨he, bel⟩ => ?_
  subst he
  exact ⟨_, rfl, _, _, _, [], _, [], hW', trodAll_mk1 (shut_bool Try.underlying4 _), (trodAll_cons_mk (Below.trod Try.laid0 (by kernel_rfl) (of_decide_eq_true (by kernel_rfl)) k0 bel lt0) (trodAll_cons_mk (Below.trod Try.laid0 (by kernel_rfl) (of_decide_eq_true (by kernel_rfl)) k1 bel lt1) trodAll_mk0)), rfl, bel.frame _, fun h => by cases h⟩

theorem over : Rows.finiteFanoRow.holds Try.pinned (OpenSpec.ofChange Rows.finiteFanoSpec) :=
  OpenClaim.holds_of_wide 9 Try.f9 rfl rfl rfl rfl rfl rfl rfl ⟨rfl, rfl, rfl, rfl, rfl⟩ rfl rfl rfl rfl rfl (by kernel_rfl) Try.func9 (by kernel_rfl)
    (of_decide_eq_true (by kernel_rfl)) (by unfold Func.isWrapper; first | (rw [if_pos (by decide +kernel)]; kernel_rfl) | (rw [if_neg (by decide +kernel)]; exact ⟨rfl, rfl⟩))
    (fun os started H enc _ => lifted os started H enc)
end Go.Proofs.Ytfdbkocpljiehaa.PFiniteFano

namespace Go.Proofs.Ytfdbkocpljiehaa
theorem finiteFano_holds : Rows.FiniteFanoSaid := PFiniteFano.over
#print axioms finiteFano_holds
end Go.Proofs.Ytfdbkocpljiehaa
