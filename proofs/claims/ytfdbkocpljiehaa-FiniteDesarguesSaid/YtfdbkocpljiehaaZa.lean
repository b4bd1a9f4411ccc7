/- Slices of triples anywhere in memory; slices.Contains on them. -/
import Derived.Test.YtfdbkocpljiehaaXa
set_option linter.unusedSimpArgs false
set_option linter.unusedVariables false
namespace Go.Proofs.Ytfdbkocpljiehaa
open Go.RowKit

/-- a slice with the address a holds n triples -/
def InS (w : World) (a : Option Addr) (n : Nat) (f : Nat → Int × Int × Int) : Prop :=
  ∀ i, i < n → ∃ b o, a = some ⟨b, o, none⟩ ∧ b < w.heap.size ∧ w.cell? ⟨b, o + 3 * i, none⟩ = some (.int .i64 (f i).1) ∧ w.cell? ⟨b, o + 3 * i + 1, none⟩ = some (.int .i64 (f i).2.1) ∧ w.cell? ⟨b, o + 3 * i + 2, none⟩ = some (.int .i64 (f i).2.2)
theorem InS.below {w w1 : World} {a : Option Addr} {n : Nat} {f : Nat → Int × Int × Int} (h : InS w a n f) (hb : Below w.heap.size w w1) : InS w1 a n f := by
  intro i hi
  obtain ⟨b, o, h0, h1, h2, h3, h4⟩ := h i hi
  exact ⟨b, o, h0, Nat.lt_of_lt_of_le h1 hb.size, by rw [hb.cell h1]; exact h2, by rw [hb.cell h1]; exact h3, by rw [hb.cell h1]; exact h4⟩
theorem InS.of_gath {L : List (Int × Int × Int)} {w0 w : World} {v : Value} (h : Gath L w0 w v) : ∃ a cap, v = .slice a L.length cap ∧ InS w a L.length (fun i => L.getD i (0, 0, 0)) := by
  rcases h.open with ⟨rfl, rfl⟩ | ⟨g, cap, rfl, _, hg, _, r⟩
  · exact ⟨none, 0, rfl, fun i hi => by simp at hi⟩
  · refine ⟨_, cap, rfl, fun i hi => ?_⟩
    obtain ⟨c0, c1, c2⟩ := r i hi
    exact ⟨g, 0, rfl, hg, by rw [Nat.zero_add]; exact c0, by rw [Nat.zero_add]; exact c1, by rw [Nat.zero_add]; exact c2⟩

/-- equality as the code asks for it -/
def eqT (a b : Int × Int × Int) : Bool := a.1 == b.1 && (a.2.1 == b.2.1 && a.2.2 == b.2.2)
theorem eqT_iff (a b : Int × Int × Int) : eqT a b = true ↔ a = b := by
  obtain ⟨a0, a1, a2⟩ := a
  obtain ⟨b0, b1, b2⟩ := b
  simp [eqT]

set_option maxRecDepth 100000 in
set_option maxHeartbeats 2000000 in
theorem Index41_no (a : Option Addr) (n cap : Nat) (f : Nat → Int × Int × Int) (y0 y1 y2 : Int) (hn : n ≤ 1000000) (w : World) (hin : InS w a n f) (hno : ∀ i, i < n → eqT (y0, y1, y2) (f i) = false) :
    Calls Try.prog 41 #[.slice a n cap, .agg #[.int .i64 y0, .int .i64 y1, .int .i64 y2]] w fun e w' => e = .returned (.int .i64 (-1)) ∧ Below w.heap.size w w' := by
  have HI := Lib.hid hin
  have HN := Lib.hid hno
  clear hin hno
  go_enter Try.func41, Try.ntmps41
  go_wp2
  go_loopw [8] (fun i wr => ∃ k : Nat, k ≤ n ∧ i = .int .i64 k ∧ ∃ d, wr = (w.alloc (Obj.cells #[.int .i64 y0, .int .i64 y1, .int .i64 y2] 27)).drewN d) (fun i _ => n - (intOf i).toNat)
  case atStart => exact ⟨0, by omega, rfl, 0, rfl⟩
  case round =>
    obtain ⟨k, hk, rfl, d, rfl⟩ := hrel
    by_cases hlt : k < n
    · obtain ⟨b, o, rfl, hb, k0, k1, k2⟩ := HI.out k hlt
      have hq := HN.out k hlt
      generalize f k = X at k0 k1 k2 hq
      obtain ⟨x0, x1, x2⟩ := X
      unfold eqT at hq
      dsimp only at k0 k1 k2 hq
      have l1 : (0 : Int) ≤ (k : Int) := by omega
      have l2 : (k : Int) < (n : Int) := by omega
      have el : k * 3 = 3 * k := by omega
      go_wp2_with fail
      go_quiet (fail)
      go_wp2
      exact ⟨⟨k + 1, by omega, by go_num, _, rfl⟩, by simp [intOf]; omega⟩
    · go_wp2
      go_ret
      exact ⟨rfl, dr_o (ba_c (Below.refl _ _) (Nat.le_refl _) _) _⟩

set_option maxRecDepth 100000 in
set_option maxHeartbeats 2000000 in
theorem Index41_yes (a : Option Addr) (n cap j : Nat) (f : Nat → Int × Int × Int) (y0 y1 y2 : Int) (hn : n ≤ 1000000) (w : World) (hin : InS w a n f) (hj : j < n) (hyes : eqT (y0, y1, y2) (f j) = true) :
    Calls Try.prog 41 #[.slice a n cap, .agg #[.int .i64 y0, .int .i64 y1, .int .i64 y2]] w fun e w' => ∃ r : Nat, e = .returned (.int .i64 r) ∧ Below w.heap.size w w' := by
  have HI := Lib.hid hin
  have HY := Lib.hid hyes
  clear hin hyes
  go_enter Try.func41, Try.ntmps41
  go_wp2
  go_loopw [8] (fun i wr => ∃ k : Nat, k ≤ j ∧ i = .int .i64 k ∧ ∃ d, wr = (w.alloc (Obj.cells #[.int .i64 y0, .int .i64 y1, .int .i64 y2] 27)).drewN d) (fun i _ => n - (intOf i).toNat)
  case atStart => exact ⟨0, by omega, rfl, 0, rfl⟩
  case round =>
    obtain ⟨k, hk, rfl, d, rfl⟩ := hrel
    have hlt : k < n := by omega
    obtain ⟨b, o, rfl, hb, k0, k1, k2⟩ := HI.out k hlt
    have hkj : eqT (y0, y1, y2) (f k) = false → k ≠ j := fun h e => by rw [e, HY.out] at h; cases h
    cases hq : eqT (y0, y1, y2) (f k)
    all_goals
      try have hkj' := hkj hq
      clear hkj
      generalize f k = X at k0 k1 k2 hq
      obtain ⟨x0, x1, x2⟩ := X
      unfold eqT at hq
      dsimp only at k0 k1 k2 hq
      have l1 : (0 : Int) ≤ (k : Int) := by omega
      have l2 : (k : Int) < (n : Int) := by omega
      have el : k * 3 = 3 * k := by omega
      go_wp2_with fail
      go_quiet (fail)
      go_wp2
    · exact ⟨⟨k + 1, by omega, by go_num, _, rfl⟩, by simp [intOf]; omega⟩
    · go_ret
      exact ⟨k, rfl, dr_o (dr_o (ba_c (Below.refl _ _) (Nat.le_refl _) _) _) _⟩

/-- is y among the first n? -/
def hasT (f : Nat → Int × Int × Int) (y : Int × Int × Int) (n : Nat) : Bool := (List.range n).any fun j => eqT y (f j)

set_option maxRecDepth 100000 in
set_option maxHeartbeats 2000000 in
theorem Contains27 (a : Option Addr) (n cap : Nat) (f : Nat → Int × Int × Int) (y0 y1 y2 : Int) (hn : n ≤ 1000000) (w : World) (hin : InS w a n f) :
    Calls Try.prog 27 #[.slice a n cap, .agg #[.int .i64 y0, .int .i64 y1, .int .i64 y2]] w fun e w' => e = .returned (.bool (hasT f (y0, y1, y2) n)) ∧ Below w.heap.size w w' := by
  cases hh : hasT f (y0, y1, y2) n
  · have hno : ∀ i, i < n → eqT (y0, y1, y2) (f i) = false := fun i hi => by
      have := List.any_eq_false.1 hh i (List.mem_range.2 hi)
      simpa using this
    have HI := Lib.hid (hin.below (ba_c (Below.refl _ w) (Nat.le_refl _) (Obj.cells #[.int .i64 y0, .int .i64 y1, .int .i64 y2] 27)))
    have HN := Lib.hid hno
    clear hin hno hh
    go_enter Try.func27, Try.ntmps27
    go_wp2_with fail
    refine (Index41_no _ _ _ f _ _ _ hn _ HI.out HN.out).mono ?_
    rintro e w1 ⟨rfl, hb⟩
    have HB1 := Lib.hid (Below.trans (ba_c (Below.refl w.heap.size w) (Nat.le_refl _) _) (hb.mono (by simp)))
    clear hb
    go_wp2
    go_ret
    exact ⟨rfl, HB1.out⟩
  · obtain ⟨j, hj, hyes⟩ := List.any_eq_true.1 hh
    have hj := List.mem_range.1 hj
    have HI := Lib.hid (hin.below (ba_c (Below.refl _ w) (Nat.le_refl _) (Obj.cells #[.int .i64 y0, .int .i64 y1, .int .i64 y2] 27)))
    have HY := Lib.hid hyes
    clear hin hyes hh
    go_enter Try.func27, Try.ntmps27
    go_wp2_with fail
    refine (Index41_yes _ _ _ j f _ _ _ hn _ HI.out hj HY.out).mono ?_
    rintro e w1 ⟨r, rfl, hb⟩
    have HB1 := Lib.hid (Below.trans (ba_c (Below.refl w.heap.size w) (Nat.le_refl _) _) (hb.mono (by simp)))
    clear hb
    go_wp2
    go_ret
    exact ⟨rfl, HB1.out⟩

end Go.Proofs.Ytfdbkocpljiehaa
