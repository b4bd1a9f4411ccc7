/- Two operations may come up in a region that draws its order; a new block of three zeros. -/
import Derived.Test.YtfdbkocpljiehaaWt
import Derived.Test.YtfdbkocpljiehaaWc
set_option linter.unusedSimpArgs false
set_option linter.unusedVariables false
namespace Go.Proofs.Ytfdbkocpljiehaa
open Go.RowKit

section
open Go
variable {P : Program} {ops : Array Oper} {Q : Exit → Act → World → Prop} {md : Region.Mode} {S : World → Prop} {k : Nat}
/-- two operations may come up -/
theorem wpT_two (i j : Nat) {oi oj : Oper} {fuel : Nat} {listed : Array Bool} {a : Act} {w : World} (hr : Region.ready md ops listed = [i, j]) (hoi : ops[i]? = some oi) (hoj : ops[j]? = some oj)
    (h1 : ∀ K : Act → World → Prop, Shut' (∀ a w, ((listed.setIfInBounds i true).getD k true = false → S w) → wpT P md ops Q S k fuel (listed.setIfInBounds i true) a w → K a w) →
      if Region.wanted oi (yielded ops a.tmps) = true then Oper.wp P oi a w K Q else K (a.put oi.dst undef) w)
    (h2 : ∀ K : Act → World → Prop, Shut' (∀ a w, ((listed.setIfInBounds j true).getD k true = false → S w) → wpT P md ops Q S k fuel (listed.setIfInBounds j true) a w → K a w) →
      if Region.wanted oj (yielded ops a.tmps) = true then Oper.wp P oj a w K Q else K (a.put oj.dst undef) w) : wpT P md ops Q S k (fuel + 1) listed a w := by
  refine ⟨fun h0 => (by rw [h0] at hr; cases hr), fun x hx => ?_⟩
  rw [hr] at hx
  rcases List.mem_cons.1 hx with rfl | hx
  · exact wpOp_step hoi (fun K hK => h1 K (fun a w hS hW => hK a w ⟨hS, hW⟩))
  · obtain rfl : x = j := by simpa using hx
    exact wpOp_step hoj (fun K hK => h2 K (fun a w hS hW => hK a w ⟨hS, hW⟩))
end

/-- a new block of three zeros that may be written -/
def Zc (w : World) (g : Nat) : Prop := g < w.heap.size ∧ (w.cell? ⟨g, 0, none⟩ = some (.int .i64 0) ∧ w.cell? ⟨g, 1, none⟩ = some (.int .i64 0) ∧ w.cell? ⟨g, 2, none⟩ = some (.int .i64 0)) ∧
  (w.frozen? ⟨g, 0, none⟩ = false ∧ w.frozen? ⟨g, 1, none⟩ = false ∧ w.frozen? ⟨g, 2, none⟩ = false)
theorem Zc.new (w : World) (t : TypeId) : Zc (w.alloc (Obj.cells #[.int .i64 0, .int .i64 0, .int .i64 0] t)) w.heap.size := by
  refine ⟨by simp [go_sem], ⟨?_, ?_, ?_⟩, ?_, ?_, ?_⟩ <;> simp [go_sem]
theorem Zc.below {w w' : World} {g B : Nat} (h : Zc w g) (hb : Below B w w') (hg : g < B) : Zc w' g := by
  obtain ⟨h0, ⟨h1, h2, h3⟩, h4, h5, h6⟩ := h
  refine ⟨Nat.lt_of_lt_of_le h0 hb.size, ⟨?_, ?_, ?_⟩, ?_, ?_, ?_⟩
  · rw [hb.cell hg]; exact h1
  · rw [hb.cell hg]; exact h2
  · rw [hb.cell hg]; exact h3
  · rw [hb.frozen hg]; exact h4
  · rw [hb.frozen hg]; exact h5
  · rw [hb.frozen hg]; exact h6

end Go.Proofs.Ytfdbkocpljiehaa
