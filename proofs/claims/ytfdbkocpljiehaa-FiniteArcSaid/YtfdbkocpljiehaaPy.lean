/- Opening a slice of triples that is handed in: its cells. -/
import Derived.Test.YtfdbkocpljiehaaPz
import Derived.Test.YtfdbkocpljiehaaZa
set_option linter.unusedVariables false
set_option linter.unusedSimpArgs false
namespace Go.Proofs.Ytfdbkocpljiehaa
open Go.ChangeShapes Go.WideShapes Go.ChangeAt Go.RowKit

theorem cell_spot {w : World} {a : Addr} {v : Value} (h : w.cell? a = some v) : a.spot = none ∧ a.block < w.heap.size := by
  unfold World.cell? at h
  cases hb : w.heap[a.block]? with
  | none => rw [hb] at h; cases h
  | some o =>
    have hlt := (Array.getElem?_eq_some_iff.1 hb).1
    refine ⟨?_, hlt⟩
    rw [hb] at h
    cases o with
    | cells c e l =>
      dsimp only at h
      cases hs : a.spot with
      | none => rfl
      | some x => rw [hs] at h; simp at h
    | _ => cases h

section
variable {H : Type} {enc : TypeId × Value → H} {w : World} {base : Nat} {spare : Nat → Bool} {held : Bool}
theorem open_rows {a : Option Addr} {len cap : Nat} {d : DataW H} {p : List MemPlace} (h : DataW.Trod enc Try.prog w base spare held 45 (.slice a len cap) d p) : ∃ f, InS w a len f := by
  obtain ⟨fuel, hf⟩ := h
  have hf' : DataW.trod enc Try.prog w base spare held fuel 45 [.slice a len cap] = some (d, p) := by simpa [Value.cells] using hf
  rcases DataW.trod_slice Try.underlying45 hf' with ⟨h1, _⟩ | ⟨a', len', cap', elems, rest, n, _, h1, _, hbase, _, _, hlen, hel, _⟩
  · simp at h1
    obtain ⟨_, rfl, _⟩ := h1
    exact ⟨fun _ => (0, 0, 0), fun i hi => by omega⟩
  · simp at h1
    obtain ⟨rfl, rfl, rfl⟩ := h1
    have key : ∀ i, ∃ t : Int × Int × Int, i < len → ∃ b o, (some a' : Option Addr) = some ⟨b, o, none⟩ ∧ b < w.heap.size ∧ w.cell? ⟨b, o + 3 * i, none⟩ = some (.int .i64 t.1) ∧ w.cell? ⟨b, o + 3 * i + 1, none⟩ = some (.int .i64 t.2.1) ∧ w.cell? ⟨b, o + 3 * i + 2, none⟩ = some (.int .i64 t.2.2) := by
      intro i
      by_cases hi : i < len
      · have h2 := hel i hi
        rw [Try.cells27, List.getElem?_eq_getElem (by omega)] at h2
        obtain ⟨cs, hc, ht⟩ := Option.bind_eq_some_iff.1 h2
        obtain ⟨_, hl, hcell⟩ := World.cells?_some hc
        obtain ⟨x0, e0⟩ := ints_flat Try.underlying27 ht 0 (by omega)
        obtain ⟨x1, e1⟩ := ints_flat Try.underlying27 ht 1 (by omega)
        obtain ⟨x2, e2⟩ := ints_flat Try.underlying27 ht 2 (by omega)
        have c0 := (hcell 0 (by omega)).trans e0
        have c1 := (hcell 1 (by omega)).trans e1
        have c2 := (hcell 2 (by omega)).trans e2
        have hs : a'.spot = none := by
          by_cases hi0 : i = 0
          · subst hi0
            have := (cell_spot c0).1
            simpa [Addr.add] using this
          · have h3 := hel 0 (by omega)
            rw [Try.cells27, List.getElem?_eq_getElem (by omega)] at h3
            obtain ⟨cs', hc', ht'⟩ := Option.bind_eq_some_iff.1 h3
            obtain ⟨_, hl', hcell'⟩ := World.cells?_some hc'
            obtain ⟨x0', e0'⟩ := ints_flat Try.underlying27 ht' 0 (by omega)
            have := (cell_spot ((hcell' 0 (by omega)).trans e0')).1
            simpa [Addr.add] using this
        obtain ⟨b, o, s⟩ := a'
        dsimp only at hs
        subst hs
        have ad : ∀ j, ((⟨b, o, none⟩ : Addr).add (i * 3)).add j = ⟨b, o + 3 * i + j, none⟩ := fun j => by
          unfold Addr.add
          by_cases h0 : i * 3 = 0 <;> by_cases hj : j = 0 <;> simp [h0, hj] <;> omega
        rw [ad] at c0 c1 c2
        have hb := (cell_spot c0).2
        exact ⟨(x0, x1, x2), fun _ => ⟨b, o, rfl, hb, c0, c1, c2⟩⟩
      · exact ⟨(0, 0, 0), fun h => absurd h hi⟩
    obtain ⟨f, hf⟩ := Classical.skolem.1 key
    exact ⟨f, fun i hi => hf i hi⟩
end
end Go.Proofs.Ytfdbkocpljiehaa
