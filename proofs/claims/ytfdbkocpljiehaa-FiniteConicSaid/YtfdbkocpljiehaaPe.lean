/- Proved: compasslaw.FiniteConic returns true at every integer and every six numbers, and leaves its arguments as they were. No condition. -/
import Derived.Test.YtfdbkocpljiehaaPz
import Derived.Test.YtfdbkocpljiehaaXc
import Derived.Test.YtfdbkocpljiehaaMd
set_option linter.unusedVariables false
set_option linter.unusedSimpArgs false
namespace Go.Proofs.Ytfdbkocpljiehaa.PFiniteConic
open Go.ChangeShapes Go.WideShapes Go.ChangeAt Go.RowKit

theorem allK_bd {P n : Nat} (h : 2 ≤ (P : Int)) (h' : (P : Int) ≤ 13) (hn : (allK P (P * P * P)).length = n) (i : Nat) (hi : i < n) :
    (0 ≤ ((allK P (P * P * P)).getD i (0, 0, 0)).1 ∧ ((allK P (P * P * P)).getD i (0, 0, 0)).1 ≤ 12) ∧ (0 ≤ ((allK P (P * P * P)).getD i (0, 0, 0)).2.1 ∧ ((allK P (P * P * P)).getD i (0, 0, 0)).2.1 ≤ 12) ∧ (0 ≤ ((allK P (P * P * P)).getD i (0, 0, 0)).2.2 ∧ ((allK P (P * P * P)).getD i (0, 0, 0)).2.2 ≤ 12) := by
  have h1 := (allK_at hn i hi).1
  have h2 := pl_bd P ((allK P (P * P * P)).getD i (0, 0, 0)).1 ((allK P (P * P * P)).getD i (0, 0, 0)).2.1 ((allK P (P * P * P)).getD i (0, 0, 0)).2.2 h h'
  rw [h1] at h2
  exact h2

theorem whole (p k0 k1 k2 k3 k4 k5 : Int) (w : World) :
    Calls Try.prog 10 #[.int .i64 p, .agg #[.int .i64 k0, .int .i64 k1, .int .i64 k2, .int .i64 k3, .int .i64 k4, .int .i64 k5]] w fun e w' => e = .returned (.bool true) ∧ Below w.heap.size w w' := by
  cases hp : isP p
  · exact FiniteConic10_bad p k0 k1 k2 k3 k4 k5 hp w
  · obtain ⟨P, rfl, hP2, _⟩ := toF hp
    obtain ⟨h, h'⟩ := isP_bd hp
    have hn := allK_len hp
    have hPP : P * P ≤ 13 * 13 := Nat.mul_le_mul (by omega) (by omega)
    have hK : ∀ j, j < 6 → six6 k0 k1 k2 k3 k4 k5 j % (P : Int) = six6 (k0 % P) (k1 % P) (k2 % P) (k3 % P) (k4 % P) (k5 % P) j := by
      intro j hj
      have hh : j = 0 ∨ j = 1 ∨ j = 2 ∨ j = 3 ∨ j = 4 ∨ j = 5 := by omega
      rcases hh with rfl | rfl | rfl | rfl | rfl | rfl <;> rfl
    cases hs : some6 P (six6 k0 k1 k2 k3 k4 k5) 6
    · exact FiniteConic10_flat P _ k0 k1 k2 k3 k4 k5 _ _ _ _ _ _ hp hn (by omega) (by omega) (em12 _ _ h h') (em12 _ _ h h') (em12 _ _ h h') (em12 _ _ h h') (em12 _ _ h h') (em12 _ _ h h') (Lib.hid hK) (Lib.hid (allK_bd h h' hn)) hs w
    · exact FiniteConic10_ok P _ k0 k1 k2 k3 k4 k5 _ _ _ _ _ _ hp hn (by omega) (by omega) (em12 _ _ h h') (em12 _ _ h h') (em12 _ _ h h') (em12 _ _ h h') (em12 _ _ h h') (em12 _ _ h h') (Lib.hid hK) (Lib.hid (allK_bd h h' hn)) hs w

theorem walk (p : Int) (l : List Int) (hl : l.length = 6) (w : World) :
    Calls Try.prog 10 #[.int .i64 p, .agg (l.map (Value.int .i64)).toArray] w fun e w' => e = .returned (.bool true) ∧ Below w.heap.size w w' := by
  match l, hl with
  | [k0, k1, k2, k3, k4, k5], _ => exact whole p k0 k1 k2 k3 k4 k5 w

set_option maxRecDepth 100000 in
theorem lifted (os : Os) (started : os.Started) (H : Type) (enc : TypeId × Value → H) :
    ReturnsInHanded {} Try.checked os 10 .any (Rows.finiteConicSpec.pre6 enc Try.prog Try.f10 Rows.finiteConicRow.domain false) (Rows.finiteConicSpec.post enc Try.prog Try.f10 false true false false) := by
  refine returnsInHanded_of_change (C := Try.checked) Try.own0 started (by kernel_rfl) Try.func10
    (ChangeSpec.witness6 (enc := enc) (C := Try.checked) false ⟨#[], #[.int .i64 0, .agg #[.int .i64 0, .int .i64 0, .int .i64 0, .int .i64 0, .int .i64 0, .int .i64 0]], []⟩ 8 (by kernel_rfl) (by kernel_rfl) (by kernel_rfl) (by kernel_rfl)) ?_
  intro W base args ds gs before hval0 hW hcnd _
  have hval : ∀ (j : Nat) t v, Try.f10.params[j]? = some t → args[j]? = some v → Value.okWide Try.prog W .any base t v := hval0
  have hW' := hW
  obtain ⟨p, q, hA0, hV, rfl, hfz, hnd⟩ := hW
  have hA : DataW.TrodAll enc Try.prog W 0 (fun _ => true) true Try.f10.params.toList args.toList ds p := hA0
  rw [Try.params10] at hA hval
  obtain ⟨v0, vs0, d0, ds0, p0, q0, hargs, rfl, rfl, h0, r0⟩ := trodAll_cons hA
  obtain ⟨v1, vs1, d1, ds1, p1, q1, rfl, rfl, rfl, h1, r1⟩ := trodAll_cons r0
  obtain ⟨rfl, rfl, rfl⟩ := trodAll_nil r1
  obtain rfl : args = #[v0, v1] := by cases args; simp_all
  obtain ⟨rfl, rfl⟩ := trodVars_none hV
  have k0 := h0
  have lt0 : ∀ x ∈ p0, x.block < W.heap.size := by obtain ⟨m, hm⟩ := k0; exact DataW.trod_lt m _ _ _ hm
  obtain ⟨a0, rfl, rfl, rfl, w0⟩ := open_int Try.underlying3 (hval 0 3 v0 rfl rfl) h0
  have k1 := h1
  have lt1 : ∀ x ∈ p1, x.block < W.heap.size := by obtain ⟨m, hm⟩ := k1; exact DataW.trod_lt m _ _ _ hm
  obtain ⟨z1, hz1, rfl⟩ := open_flat Try.underlying64 Try.cells64 (hval 1 64 v1 rfl rfl) h1
  clear hA0 hval0
  refine (walk a0 z1 hz1 W).mono fun e W' ⟨he, bel⟩ => ?_
  subst he
  exact ⟨_, rfl, _, _, _, [], _, [], hW', trodAll_mk1 (shut_bool Try.underlying4 _), (trodAll_cons_mk (Below.trod Try.laid0 (by kernel_rfl) (of_decide_eq_true (by kernel_rfl)) k0 bel lt0) (trodAll_cons_mk (Below.trod Try.laid0 (by kernel_rfl) (of_decide_eq_true (by kernel_rfl)) k1 bel lt1) trodAll_mk0)), rfl, bel.frame _, fun h => by cases h⟩

theorem over : Rows.finiteConicRow.holds Try.pinned (OpenSpec.ofChange Rows.finiteConicSpec) :=
  OpenClaim.holds_of_wide 10 Try.f10 rfl rfl rfl rfl rfl rfl rfl ⟨rfl, rfl, rfl, rfl, rfl⟩ rfl rfl rfl rfl rfl (by kernel_rfl) Try.func10 (by kernel_rfl)
    (of_decide_eq_true (by kernel_rfl)) (by unfold Func.isWrapper; first | (rw [if_pos (by decide +kernel)]; kernel_rfl) | (rw [if_neg (by decide +kernel)]; exact ⟨rfl, rfl⟩))
    (fun os started H enc _ => lifted os started H enc)
end Go.Proofs.Ytfdbkocpljiehaa.PFiniteConic

namespace Go.Proofs.Ytfdbkocpljiehaa
theorem finiteConic_holds : Rows.FiniteConicSaid := PFiniteConic.over
#print axioms finiteConic_holds
end Go.Proofs.Ytfdbkocpljiehaa
