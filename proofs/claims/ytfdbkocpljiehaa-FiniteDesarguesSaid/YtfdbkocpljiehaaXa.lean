/- Gathered slices in general; slices.Equal on two of them; six numbers in a block. -/
import Derived.Test.YtfdbkocpljiehaaWx
set_option linter.unusedSimpArgs false
set_option linter.unusedVariables false
namespace Go.Proofs.Ytfdbkocpljiehaa
open Go.RowKit

/-- a slice that the call has gathered: it holds the triples L -/
def Gath (L : List (Int × Int × Int)) (w0 w : World) (v : Value) : Prop := w.ownsRow w0.heap.size 27 3 v L.length (flat L) ∧ Below w0.heap.size w0 w

theorem flat_at : ∀ (L : List (Int × Int × Int)) (i : Nat), i < L.length → (flat L)[3 * i]? = some (.int .i64 (L.getD i (0, 0, 0)).1) ∧ (flat L)[3 * i + 1]? = some (.int .i64 (L.getD i (0, 0, 0)).2.1) ∧ (flat L)[3 * i + 2]? = some (.int .i64 (L.getD i (0, 0, 0)).2.2)
  | [], i, hi => by simp at hi
  | x :: L, 0, _ => by simp [flat, hv]
  | x :: L, i + 1, hi => by
    have := flat_at L i (by simpa using hi)
    have e : flat (x :: L) = hv x ++ flat L := by simp [flat]
    rw [e, show 3 * (i + 1) = 3 * i + 3 by omega]
    simp only [hv, List.cons_append, List.nil_append, List.getElem?_cons_succ, List.getD_cons_succ]
    exact this

theorem Gath.open {L : List (Int × Int × Int)} {w0 w : World} {v : Value} (h : Gath L w0 w v) :
    (v = .slice none 0 0 ∧ L = []) ∨ ∃ g cap, v = .slice (some ⟨g, 0, none⟩) L.length cap ∧ w0.heap.size ≤ g ∧ g < w.heap.size ∧ L.length ≤ cap ∧ RowsAt w g L.length (fun i => L.getD i (0, 0, 0)) := by
  obtain ⟨hr, hb⟩ := h
  rcases hr.2 with ⟨h1, h0⟩ | ⟨g, cap, cur, rfl, h2, h3, h4, _⟩
  · exact .inl ⟨h1, List.eq_nil_of_length_eq_zero h0⟩
  · refine .inr ⟨g, cap, rfl, h2, ?_, h4, ?_⟩
    · rcases Nat.lt_or_ge g w.heap.size with hx | hx
      · exact hx
      · rw [Array.getElem?_eq_none hx] at h3; cases h3
    · intro i hi
      obtain ⟨e1, e2, e3⟩ := flat_at L i hi
      have c1 := hr.cellAt (3 * i) (by omega)
      have c2 := hr.cellAt (3 * i + 1) (by omega)
      have c3 := hr.cellAt (3 * i + 2) (by omega)
      exact ⟨c1.trans e1, c2.trans e2, c3.trans e3⟩

theorem gath_nil (w : World) : Gath [] w w (.slice none 0 0) := ⟨by simpa [flat] using World.ownsRow_nil _ _ _ _, Below.refl _ _⟩
theorem gath_skip {L : List (Int × Int × Int)} {w0 w w1 : World} {v : Value} (h : Gath L w0 w v) (hb : Below w.heap.size w w1) : Gath L w0 w1 v :=
  ⟨ownsRow_below h.1 hb, h.2.trans (hb.mono h.2.size)⟩
theorem gath_keep {L : List (Int × Int × Int)} {x : Int × Int × Int} {w0 w w2 : World} {v v' : Value} (h : Gath L w0 w v)
    (hown : w2.ownsRow w0.heap.size 27 3 v' (L.length + 1) (flat L ++ hv x)) (hg : w.grownBy w2 v.ownBlock) : Gath (L ++ [x]) w0 w2 v' := by
  refine ⟨?_, ?_⟩
  · rw [flat_snoc, List.length_append]; exact hown
  · refine h.2.grown hg h.2.size ?_
    intro k hk
    rcases h.1.2 with ⟨rfl, _⟩ | ⟨g, cap, cur, rfl, hbase, _⟩
    · cases hk
    · simp [Value.ownBlock] at hk; omega

set_option maxRecDepth 100000 in
set_option maxHeartbeats 2000000 in
theorem Equal24_empty (a1 a2 : Option Addr) (c1 c2 : Nat) (w : World) :
    Calls Try.prog 24 #[.slice a1 0 c1, .slice a2 0 c2] w fun e w' => e = .returned (.bool true) ∧ OnlyDraws' w w' := by
  go_enter Try.func24, Try.ntmps24
  go_wp2
  refine wp_loop_rounds 1 ?_
  rw [rounds_succ]
  go_wp2
  go_ret
  exact ⟨rfl, 0, rfl⟩

/-- two gathered slices of the same triples are equal -/
theorem Equal24_gath {L : List (Int × Int × Int)} {v1 v2 : Value} {w0 w0' w w1 w2 : World} (h1 : Gath L w0 w1 v1) (h2 : Gath L w0' w2 v2) (b1 : Below w1.heap.size w1 w) (b2 : Below w2.heap.size w2 w) (hL : L.length ≤ 1000000) :
    Calls Try.prog 24 #[v1, v2] w fun e w' => e = .returned (.bool true) ∧ OnlyDraws' w w' := by
  rcases h1.open with ⟨rfl, rfl⟩ | ⟨g1, cap1, rfl, _, hg1, _, r1⟩
  · rcases h2.open with ⟨rfl, _⟩ | ⟨g2, cap2, rfl, _, hg2, _, r2⟩
    · exact Equal24_empty none none 0 0 w
    · exact Equal24_empty none _ 0 _ w
  · rcases h2.open with ⟨rfl, rfl⟩ | ⟨g2, cap2, rfl, _, hg2, _, r2⟩
    · exact Equal24_empty _ none _ 0 w
    · exact Equal24_same g1 g2 cap1 cap2 L.length (fun i => L.getD i (0, 0, 0)) hL w (r1.below b1 hg1) (r2.below b2 hg2)

/-- block g holds six numbers, not frozen -/
def SixAt (w : World) (g : Nat) (f : Nat → Int) : Prop := ∀ j, j < 6 → w.cell? ⟨g, j, none⟩ = some (.int .i64 (f j)) ∧ w.frozen? ⟨g, j, none⟩ = false
theorem SixAt.below {w w1 : World} {g B : Nat} {f : Nat → Int} (h : SixAt w g f) (hb : Below B w w1) (hg : g < B) : SixAt w1 g f := by
  intro j hj
  obtain ⟨h1, h2⟩ := h j hj
  exact ⟨by rw [hb.cell hg]; exact h1, by rw [hb.frozen hg]; exact h2⟩
theorem SixAt.set {w : World} {g : Nat} {f : Nat → Int} (h : SixAt w g f) (i : Nat) (hi : i < 6) (a : Int) : SixAt (w.setCell ⟨g, i, none⟩ (.int .i64 a)) g (fun j => if j = i then a else f j) := by
  intro j hj
  obtain ⟨h1, h2⟩ := h j hj
  by_cases e : j = i
  · subst e; refine ⟨?_, ?_⟩ <;> simp [go_sem, h1, h2]
  · refine ⟨?_, ?_⟩
    · dsimp only; rw [if_neg e, World.cell?_setCell_other _ _ _ _ (by simp <;> omega)]; exact h1
    · simp [go_sem, h2]
theorem SixAt.congr {w : World} {g : Nat} {f f' : Nat → Int} (h : SixAt w g f) (e : ∀ j, j < 6 → f j = f' j) : SixAt w g f' := by
  intro j hj; rw [← e j hj]; exact h j hj
/-- the first i numbers of six taken modulo p -/
def modto (p : Int) (f : Nat → Int) (i j : Nat) : Int := if j < i then f j % p else f j
/-- is one of the first i numbers other than 0 modulo p? -/
def some6 (p : Int) (f : Nat → Int) (i : Nat) : Bool := (List.range i).any fun j => f j % p != 0
theorem some6_succ (p : Int) (f : Nat → Int) (i : Nat) : some6 p f (i + 1) = (some6 p f i || f i % p != 0) := by
  unfold some6; rw [List.range_succ, List.any_append]; simp
theorem modto_set (p : Int) (f : Nat → Int) (i : Nat) : ∀ j, j < 6 → (if j = i then f i % p else modto p f i j) = modto p f (i + 1) j := by
  intro j _
  unfold modto
  by_cases e : j = i
  · subst e; rw [if_pos rfl, if_pos (by omega)]
  · rw [if_neg e]
    by_cases e2 : j < i
    · rw [if_pos e2, if_pos (by omega)]
    · rw [if_neg e2, if_neg (by omega)]
def six6 (k0 k1 k2 k3 k4 k5 : Int) (j : Nat) : Int := [k0, k1, k2, k3, k4, k5].getD j 0
end Go.Proofs.Ytfdbkocpljiehaa
