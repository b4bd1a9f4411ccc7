/- Opening arrays of integers that are handed in by value; the law's frame. -/
import Derived.Test.YtfdbkocpljiehaaRows
import Derived.ProofKit
import Derived.OpenShut
import Derived.ChangeOld
set_option linter.unusedVariables false
set_option linter.unusedSimpArgs false
namespace Go.Proofs.Ytfdbkocpljiehaa
open Go.ChangeShapes Go.WideShapes Go.ChangeAt Go.RowKit

theorem Try.own0 : ownKnob Try.prog.godebug = none := by kernel_rfl
theorem Try.laid0 : laidOutB Try.prog = true := by kernel_rfl
theorem Try.cells3 : Try.prog.cellsOf 3 = 1 := by kernel_rfl
theorem Try.cells27 : Try.prog.cellsOf 27 = 3 := by kernel_rfl
theorem Try.cells28 : Try.prog.cellsOf 28 = 9 := by kernel_rfl
theorem Try.cells29 : Try.prog.cellsOf 29 = 9 := by kernel_rfl
theorem Try.cells61 : Try.prog.cellsOf 61 = 12 := by kernel_rfl
theorem Try.cells64 : Try.prog.cellsOf 64 = 6 := by kernel_rfl

section
variable {H : Type} {enc : TypeId × Value → H} {w : World} {base : Nat} {spare : Nat → Bool} {held : Bool}

def IntAt (l : List Value) (i : Nat) : Prop := ∃ x : Int, l[i]? = some (.int .i64 x)

theorem ints_flat {T n : Nat} {fuel : Nat} {l : List Value} {x : DataW H × List MemPlace} (ht : Try.prog.underlying T = some (.array n 3)) (h : DataW.trod enc Try.prog w base spare held fuel T l = some x) :
    ∀ i, i < n → IntAt l i := by
  intro i hi
  obtain ⟨xs, m, _, _, _, hlen, hel⟩ := DataW.trod_array ht h
  have h1 := hel i hi
  rw [Try.cells3, Nat.mul_one, List.getElem?_eq_getElem (by omega)] at h1
  obtain ⟨a, ha, _, _⟩ := DataW.trod_int Try.underlying3 h1
  refine ⟨a, ?_⟩
  have h2 := congrArg (fun l => l[0]?) ha
  simpa [List.getElem?_take, List.getElem?_drop] using h2

theorem ints_deep {T n : Nat} {fuel : Nat} {l : List Value} {x : DataW H × List MemPlace} (ht : Try.prog.underlying T = some (.array n 27)) (h : DataW.trod enc Try.prog w base spare held fuel T l = some x) :
    ∀ i j, i < n → j < 3 → IntAt l (3 * i + j) := by
  intro i j hi hj
  obtain ⟨xs, m, _, _, _, hlen, hel⟩ := DataW.trod_array ht h
  have h1 := hel i hi
  rw [Try.cells27, List.getElem?_eq_getElem (by omega)] at h1
  obtain ⟨a, ha⟩ := ints_flat Try.underlying27 h1 j hj
  refine ⟨a, ?_⟩
  rw [List.getElem?_take, if_pos hj, List.getElem?_drop] at ha
  rw [Nat.mul_comm 3 i]; exact ha

theorem ints_list : ∀ {n : Nat} {l : List Value}, l.length = n → (∀ i, i < n → IntAt l i) → ∃ zs : List Int, zs.length = n ∧ l = zs.map (Value.int .i64)
  | 0, [], _, _ => ⟨[], rfl, rfl⟩
  | n + 1, v :: l, hl, h => by
    obtain ⟨a, ha⟩ := h 0 (by omega)
    obtain ⟨zs, hz, e⟩ := ints_list (n := n) (l := l) (by simpa using hl) (fun i hi => by
      obtain ⟨x, hx⟩ := h (i + 1) (by omega)
      exact ⟨x, by simpa using hx⟩)
    simp at ha
    exact ⟨a :: zs, by simp [hz], by rw [ha, e]; rfl⟩

theorem agg_of {r : Reach} {b0 T n : Nat} {e : TypeId} {v : Value} (ht : Try.prog.underlying T = some (.array n e)) (hv : Value.okWide Try.prog w r b0 T v) : ∃ cs : Array Value, v = .agg cs ∧ cs.size = Try.prog.cellsOf T := by
  unfold Value.okWide at hv
  rw [ht] at hv
  obtain ⟨cs, h1, h2, _⟩ := hv
  exact ⟨cs, h1, h2⟩

theorem open_flat {r : Reach} {b0 T n : Nat} {v : Value} {d : DataW H} {p : List MemPlace} (ht : Try.prog.underlying T = some (.array n 3)) (hC : Try.prog.cellsOf T = n) (hv : Value.okWide Try.prog w r b0 T v)
    (h : DataW.Trod enc Try.prog w base spare held T v d p) : ∃ zs : List Int, zs.length = n ∧ v = .agg (zs.map (Value.int .i64)).toArray := by
  obtain ⟨cs, rfl, hsz⟩ := agg_of ht hv
  obtain ⟨fuel, hf⟩ := h
  obtain ⟨zs, hz, e⟩ := ints_list (l := cs.toList) (n := n) (by simp; omega) (ints_flat ht (by simpa [Value.cells] using hf))
  exact ⟨zs, hz, by rw [← e]⟩
theorem open_deep {r : Reach} {b0 T n : Nat} {v : Value} {d : DataW H} {p : List MemPlace} (ht : Try.prog.underlying T = some (.array n 27)) (hC : Try.prog.cellsOf T = 3 * n) (hv : Value.okWide Try.prog w r b0 T v)
    (h : DataW.Trod enc Try.prog w base spare held T v d p) : ∃ zs : List Int, zs.length = 3 * n ∧ v = .agg (zs.map (Value.int .i64)).toArray := by
  obtain ⟨cs, rfl, hsz⟩ := agg_of ht hv
  obtain ⟨fuel, hf⟩ := h
  have hd := ints_deep ht (l := cs.toList) (by simpa [Value.cells] using hf)
  obtain ⟨zs, hz, e⟩ := ints_list (l := cs.toList) (n := 3 * n) (by simp; omega) (fun i hi => by
    have := hd (i / 3) (i % 3) (by omega) (by omega)
    rwa [Nat.div_add_mod] at this)
  exact ⟨zs, hz, by rw [← e]⟩
end
end Go.Proofs.Ytfdbkocpljiehaa
