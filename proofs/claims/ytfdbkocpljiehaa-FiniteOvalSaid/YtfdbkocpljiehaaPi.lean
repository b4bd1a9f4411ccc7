/- Proved: compasslaw.FiniteOval returns true at every integer and every map, and leaves its arguments as they were. No condition. -/
import Derived.Test.YtfdbkocpljiehaaPz
import Derived.Test.YtfdbkocpljiehaaZk
set_option linter.unusedVariables false
set_option linter.unusedSimpArgs false
namespace Go.Proofs.Ytfdbkocpljiehaa.PFiniteOval
open Go.ChangeShapes Go.WideShapes Go.ChangeAt Go.RowKit

theorem allK_bd {P n : Nat} (h : 2 ≤ (P : Int)) (h' : (P : Int) ≤ 13) (hn : (allK P (P * P * P)).length = n) (i : Nat) (hi : i < n) :
    (0 ≤ ((allK P (P * P * P)).getD i (0, 0, 0)).1 ∧ ((allK P (P * P * P)).getD i (0, 0, 0)).1 ≤ 12) ∧ (0 ≤ ((allK P (P * P * P)).getD i (0, 0, 0)).2.1 ∧ ((allK P (P * P * P)).getD i (0, 0, 0)).2.1 ≤ 12) ∧ (0 ≤ ((allK P (P * P * P)).getD i (0, 0, 0)).2.2 ∧ ((allK P (P * P * P)).getD i (0, 0, 0)).2.2 ≤ 12) := by
  have h1 := (allK_at hn i hi).1
  have h2 := pl_bd P ((allK P (P * P * P)).getD i (0, 0, 0)).1 ((allK P (P * P * P)).getD i (0, 0, 0)).2.1 ((allK P (P * P * P)).getD i (0, 0, 0)).2.2 h h'
  rw [h1] at h2
  exact h2

theorem whole (p a0 a1 a2 a3 a4 a5 a6 a7 a8 : Int) (w : World) :
    Calls Try.prog 11 #[.int .i64 p, .agg #[.int .i64 a0, .int .i64 a1, .int .i64 a2, .int .i64 a3, .int .i64 a4, .int .i64 a5, .int .i64 a6, .int .i64 a7, .int .i64 a8]] w fun e w' => e = .returned (.bool true) ∧ Below w.heap.size w w' := by
  cases hp : isP p
  · exact FiniteOval11_bad p a0 a1 a2 a3 a4 a5 a6 a7 a8 hp w
  · cases hd : gdB p a0 a1 a2 a3 a4 a5 a6 a7 a8
    · exact FiniteOval11_no p a0 a1 a2 a3 a4 a5 a6 a7 a8 hp hd w
    · obtain ⟨P, rfl, hP2, hP0⟩ := toF hp
      haveI : NeZero P := ⟨hP0⟩
      obtain ⟨h, h'⟩ := isP_bd hp
      have hn := allK_len hp
      have hPP : P * P ≤ 13 * 13 := Nat.mul_le_mul (by omega) (by omega)
      have hD := dd_of (n := P) hd
      obtain ⟨N, hN1, hN2, hb, hmin⟩ := order_ex hP2 hp hD
      obtain ⟨hlen, hE, hB⟩ := oval_at hp
      have e1 : (1 : Int) % (P : Int) = 1 := Int.emod_eq_of_lt (by omega) (by omega)
      have e2 : (-1 : Int) % (P : Int) = (P : Int) - 1 := by
        rw [show (-1 : Int) = ((P : Int) - 1) + (P : Int) * (-1) by omega, Int.add_mul_emod_self_left, Int.emod_eq_of_lt (by omega) (by omega)]
      have hK : ∀ j, j < 6 → six6 0 (-1) 0 0 1 0 j % (P : Int) = six6 0 ((P : Int) - 1) 0 0 1 0 j := by
        intro j hj
        have hh : j = 0 ∨ j = 1 ∨ j = 2 ∨ j = 3 ∨ j = 4 ∨ j = 5 := by omega
        rcases hh with rfl | rfl | rfl | rfl | rfl | rfl <;> simp [six6, e1, e2]
      have hs : some6 P (six6 0 (-1) 0 0 1 0) 6 = true := List.any_eq_true.2 ⟨4, List.mem_range.2 (by omega), by
        show ((1 : Int) % (P : Int) != 0) = true
        rw [e1]; decide⟩
      have hf : ∀ i, i < P + 1 → Nm P ((ovL P).getD i (0, 0, 0)) := fun i hi => oval_nm hp (by omega)
      obtain ⟨hE', hB'⟩ := arc_map hp hD (f := fun i => (ovL P).getD i (0, 0, 0)) (g := fun i => sT P a0 a1 a2 a3 a4 a5 a6 a7 a8 ((ovL P).getD i (0, 0, 0))) hf (fun i _ => rfl) hE hB
      exact FiniteOval11_go P a0 a1 a2 a3 a4 a5 a6 a7 a8 N _ (P + 1) (fun i => (ovL P).getD i (0, 0, 0)) (fun i => sT P a0 a1 a2 a3 a4 a5 a6 a7 a8 ((ovL P).getD i (0, 0, 0))) hp hd hN1 hN2 hb hmin hn (by omega) (by omega) (allK_bd h h' hn) hK hs hlen rfl (fun i => rfl) (fun i => rfl) (fun i hi => nm_nz h (hf i hi)) hE hB hE' hB' w

theorem walk (p : Int) (l : List Int) (hl : l.length = 9) (w : World) :
    Calls Try.prog 11 #[.int .i64 p, .agg (l.map (Value.int .i64)).toArray] w fun e w' => e = .returned (.bool true) ∧ Below w.heap.size w w' := by
  match l, hl with
  | [a0, a1, a2, a3, a4, a5, a6, a7, a8], _ => exact whole p a0 a1 a2 a3 a4 a5 a6 a7 a8 w

set_option maxRecDepth 100000 in
theorem lifted (os : Os) (started : os.Started) (H : Type) (enc : TypeId × Value → H) :
    ReturnsInHanded {} Try.checked os 11 .any (Rows.finiteOvalSpec.pre6 enc Try.prog Try.f11 Rows.finiteOvalRow.domain false) (Rows.finiteOvalSpec.post enc Try.prog Try.f11 false true false false) := by
  refine returnsInHanded_of_change (C := Try.checked) Try.own0 started (by kernel_rfl) Try.func11
    (ChangeSpec.witness6 (enc := enc) (C := Try.checked) false ⟨#[], #[.int .i64 0, .agg #[.int .i64 0, .int .i64 0, .int .i64 0, .int .i64 0, .int .i64 0, .int .i64 0, .int .i64 0, .int .i64 0, .int .i64 0]], []⟩ 8 (by kernel_rfl) (by kernel_rfl) (by kernel_rfl) (by kernel_rfl)) ?_
  intro W base args ds gs before hval0 hW hcnd _
  have hval : ∀ (j : Nat) t v, Try.f11.params[j]? = some t → args[j]? = some v → Value.okWide Try.prog W .any base t v := hval0
  have hW' := hW
  obtain ⟨p, q, hA0, hV, rfl, hfz, hnd⟩ := hW
  have hA : DataW.TrodAll enc Try.prog W 0 (fun _ => true) true Try.f11.params.toList args.toList ds p := hA0
  rw [Try.params11] at hA hval
  obtain ⟨v0, vs0, d0, ds0, p0, q0, hargs, rfl, rfl, h0, r0⟩ := trodAll_cons hA
  obtain ⟨v1, vs1, d1, ds1, p1, q1, rfl, rfl, rfl, h1, r1⟩ := trodAll_cons r0
  obtain ⟨rfl, rfl, rfl⟩ := trodAll_nil r1
  obtain rfl : args = #[v0, v1] := by cases args; simp_all
  obtain ⟨rfl, rfl⟩ := trodVars_none hV
  have k0 := h0
  have lt0 : ∀ x ∈ p0, x.block < W.heap.size := by obtain ⟨m, hm⟩ := k0; exact DataW.trod_lt m _ _ _ hm
  obtain ⟨a0, rfl, rfl, rfl, w0⟩ := open_int Try.underlying3 (hval 0 3 v0 rfl rfl) h0
  have k1 := h1
  have lt1 : ∀ x ∈ p1, x.block < W.heap.size := by obtain ⟨m, hm⟩ := k1; exact DataW.trod_lt m _ _ _ hm
  obtain ⟨z1, hz1, rfl⟩ := open_flat Try.underlying29 Try.cells29 (hval 1 29 v1 rfl rfl) h1
  clear hA0 hval0
  refine (walk a0 z1 hz1 W).mono fun e W' ⟨he, bel⟩ => ?_
  subst he
  exact ⟨_, rfl, _, _, _, [], _, [], hW', trodAll_mk1 (shut_bool Try.underlying4 _), (trodAll_cons_mk (Below.trod Try.laid0 (by kernel_rfl) (of_decide_eq_true (by kernel_rfl)) k0 bel lt0) (trodAll_cons_mk (Below.trod Try.laid0 (by kernel_rfl) (of_decide_eq_true (by kernel_rfl)) k1 bel lt1) trodAll_mk0)), rfl, bel.frame _, fun h => by cases h⟩

theorem over : Rows.finiteOvalRow.holds Try.pinned (OpenSpec.ofChange Rows.finiteOvalSpec) :=
  OpenClaim.holds_of_wide 11 Try.f11 rfl rfl rfl rfl rfl rfl rfl ⟨rfl, rfl, rfl, rfl, rfl⟩ rfl rfl rfl rfl rfl (by kernel_rfl) Try.func11 (by kernel_rfl)
    (of_decide_eq_true (by kernel_rfl)) (by unfold Func.isWrapper; first | (rw [if_pos (by decide +kernel)]; kernel_rfl) | (rw [if_neg (by decide +kernel)]; exact ⟨rfl, rfl⟩))
    (fun os started H enc _ => lifted os started H enc)
end Go.Proofs.Ytfdbkocpljiehaa.PFiniteOval

namespace Go.Proofs.Ytfdbkocpljiehaa
theorem finiteOval_holds : Rows.FiniteOvalSaid := PFiniteOval.over
#print axioms finiteOval_holds
end Go.Proofs.Ytfdbkocpljiehaa
