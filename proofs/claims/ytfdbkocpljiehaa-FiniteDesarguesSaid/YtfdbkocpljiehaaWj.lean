/- Walks: finite.All. -/
import Derived.Test.YtfdbkocpljiehaaWf
import Derived.Test.YtfdbkocpljiehaaWq
set_option linter.unusedSimpArgs false
set_option linter.unusedVariables false
namespace Go.Proofs.Ytfdbkocpljiehaa
open Go.RowKit

/-- number m of all triples below P, rising -/
def trip (P m : Nat) : Int × Int × Int := (((m / (P * P) : Nat) : Int), ((m / P % P : Nat) : Int), ((m % P : Nat) : Int))
/-- is a triple its own plain form? -/
def nrm (p : Int) (h : Int × Int × Int) : Bool := !zz p h.1 h.2.1 h.2.2 && pl p h.1 h.2.1 h.2.2 == h
/-- those among the first k triples that are plain -/
def allK (P k : Nat) : List (Int × Int × Int) := ((List.range k).map (trip P)).filter (nrm P)
def hv (h : Int × Int × Int) : List Value := [.int .i64 h.1, .int .i64 h.2.1, .int .i64 h.2.2]
def flat (l : List (Int × Int × Int)) : List Value := l.flatMap hv
theorem flat_length (l : List (Int × Int × Int)) : (flat l).length = l.length * 3 := by
  induction l with
  | nil => rfl
  | cons h l ih => simp [flat, hv] at *; omega
theorem flat_snoc (l : List (Int × Int × Int)) (h : Int × Int × Int) : flat (l ++ [h]) = flat l ++ hv h := by simp [flat]
theorem allK_succ (P k : Nat) : allK P (k + 1) = if nrm P (trip P k) then allK P k ++ [trip P k] else allK P k := by
  unfold allK
  rw [List.range_succ, List.map_append, List.filter_append]
  by_cases h : nrm P (trip P k) <;> simp [h]
theorem allK_le (P k : Nat) : (allK P k).length ≤ k := by
  unfold allK
  have := List.length_filter_le (nrm P) ((List.range k).map (trip P))
  simpa using this
theorem trip_at (P a b c : Nat) (ha : a < P) (hb : b < P) (hc : c < P) : trip P ((a * P + b) * P + c) = ((a : Int), (b : Int), (c : Int)) := by
  have hP : 0 < P := by omega
  have h1 : ((a * P + b) * P + c) / P = a * P + b := by
    rw [Nat.mul_comm, Nat.mul_add_div hP, Nat.div_eq_of_lt hc]; omega
  have h2 : ((a * P + b) * P + c) % P = c := by rw [Nat.mul_comm, Nat.mul_add_mod, Nat.mod_eq_of_lt hc]
  have h3 : ((a * P + b) * P + c) / (P * P) = a := by
    rw [← Nat.div_div_eq_div_mul, h1, Nat.mul_comm, Nat.mul_add_div hP, Nat.div_eq_of_lt hb]; omega
  have h4 : (a * P + b) % P = b := by rw [Nat.mul_comm, Nat.mul_add_mod, Nat.mod_eq_of_lt hb]
  unfold trip
  rw [h1, h2, h3, h4]

theorem ownsRow_below {w w1 : World} {base : Nat} {e : TypeId} {size : Nat} {v : Value} {n : Nat} {xs : List Value} (h : w.ownsRow base e size v n xs) (hb : Below w.heap.size w w1) :
    w1.ownsRow base e size v n xs := by
  refine ⟨h.1, h.2.imp id ?_⟩
  rintro ⟨g, cap, cur, h1, h2, h3, h4⟩
  refine ⟨g, cap, cur, h1, h2, ?_, h4⟩
  rw [← h3]
  exact hb.block g (by
    rcases Nat.lt_or_ge g w.heap.size with h | h
    · exact h
    · rw [Array.getElem?_eq_none h] at h3; cases h3)

theorem info27 : (Try.prog.info? 27).map (fun i => (i.zero, i.size, i.bytes)) = some (some (.agg #[.int .i64 0, .int .i64 0, .int .i64 0]), 3, 24) := by kernel_rfl

/-- what holds of 'out' when k triples have been looked at -/
def Gat (P k : Nat) (w0 w : World) (v : Value) : Prop := w.ownsRow w0.heap.size 27 3 v (allK P k).length (flat (allK P k)) ∧ Below w0.heap.size w0 w

theorem ownsRow_alloc {w : World} {base : Nat} {e : TypeId} {size : Nat} {v : Value} {n : Nat} {xs : List Value} (h : w.ownsRow base e size v n xs) (o : Obj) :
    (w.alloc o).ownsRow base e size v n xs := ownsRow_below h ((Below.refl _ _).alloc (Nat.le_refl _) _)
theorem gat_skip {P k : Nat} {w0 w w1 : World} {v : Value} (h : Gat P k w0 w v) (hb : Below w.heap.size w w1) (hn : nrm P (trip P k) = false) (o : Obj) : Gat P (k + 1) w0 (w1.alloc o) v := by
  refine ⟨?_, (h.2.trans (hb.mono h.2.size)).alloc (Nat.le_trans h.2.size hb.size) _⟩
  rw [allK_succ, hn]
  exact ownsRow_alloc (ownsRow_below h.1 hb) _
theorem nrm_ne {p a b c u0 u1 u2 : Int} (hu : pl p a b c = (u0, u1, u2)) (hq : (u0 == a && (u1 == b && u2 == c)) = false) : nrm p (a, b, c) = false := by
  unfold nrm
  rw [hu]
  simp at hq ⊢
  intro _ h1 h2
  exact hq h1 h2

theorem trip_lt {P a b c : Nat} (ha : a < P) (hb : b < P) (hc : c < P) (hP : P ≤ 13) : (a * P + b) * P + c ≤ 2196 := by
  have h1 : a * P ≤ 12 * 13 := Nat.mul_le_mul (by omega) hP
  have h2 : (a * P + b) * P ≤ 168 * 13 := Nat.mul_le_mul (by omega) hP
  omega
theorem gat_keep {P k : Nat} {w0 w w1 w2 : World} {v v' : Value} {o1 o2 : Obj} (h : Gat P k w0 w v) (hb : Below w.heap.size w w1) (hn : nrm P (trip P k) = true)
    (hown : w2.ownsRow w0.heap.size 27 3 v' ((allK P k).length + 1) (flat (allK P k) ++ hv (trip P k))) (hg : ((w1.alloc o1).alloc o2).grownBy w2 v.ownBlock) : Gat P (k + 1) w0 w2 v' := by
  refine ⟨?_, ?_⟩
  · rw [allK_succ, hn, if_pos rfl, flat_snoc, List.length_append]
    exact hown
  · have h1 : w0.heap.size ≤ w1.heap.size := Nat.le_trans h.2.size hb.size
    refine (((h.2.trans (hb.mono h.2.size)).alloc h1 _).alloc (by simp; omega) _).grown hg (by simp; omega) ?_
    intro k hk
    rcases h.1.2 with ⟨rfl, _⟩ | ⟨g, cap, cur, rfl, hbase, _⟩
    · cases hk
    · simp [Value.ownBlock] at hk; omega
theorem nrm_eq {p a b c u0 u1 u2 : Int} (hu : pl p a b c = (u0, u1, u2)) (hz : zz p a b c = false) (hq : (u0 == a && (u1 == b && u2 == c)) = true) : nrm p (a, b, c) = true := by
  unfold nrm
  simp at hq
  obtain ⟨rfl, rfl, rfl⟩ := hq
  simp [hu, hz]
theorem eq_of_q {a b c u0 u1 u2 : Int} (hq : (u0 == a && (u1 == b && u2 == c)) = true) : (u0, u1, u2) = (a, b, c) := by
  simp at hq
  obtain ⟨rfl, rfl, rfl⟩ := hq
  rfl

set_option maxRecDepth 100000 in
set_option maxHeartbeats 4000000 in
theorem All23 (P : Nat) (hp : isP P = true) (w : World) :
    Calls Try.prog 23 #[.int .i64 P] w fun e w' =>
      ∃ v, e = .returned (.tuple #[v, .int .i64 0]) ∧ Gat P (P * P * P) w w' v := by
  obtain ⟨h, h'⟩ := isP_bd hp
  have HP := Lib.hid hp
  clear hp
  obtain ⟨i0, hi, hz0, hz1, hz2⟩ := info_parts info27
  go_enter Try.func23, Try.ntmps23
  go_wp2_with (go_at_call 35; refine (prime35_yes _ HP.out _).mono ?_; rintro e w' ⟨rfl, rfl⟩)
  go_loopw [4, 14] (fun v i wr => ∃ a : Nat, a ≤ P ∧ i = .int .i64 a ∧ Gat P (a * P * P) w wr v) (fun _ i _ => P - (intOf i).toNat)
  case atStart => exact ⟨0, by omega, rfl, by simpa [allK, flat] using World.ownsRow_nil _ _ _ _, Below.refl _ _⟩
  case round =>
    obtain ⟨a, ha, rfl, hg⟩ := hrel
    obtain ⟨wa, rfl⟩ : ∃ wo : World, wo = wr := ⟨_, rfl⟩
    by_cases hlt : a < P
    · go_wp2_with fail
      go_loopw [4, 18] (fun v i wr => ∃ b : Nat, b ≤ P ∧ i = .int .i64 b ∧ Gat P ((a * P + b) * P) w wr v) (fun _ i _ => P - (intOf i).toNat)
      case atStart => exact ⟨0, by omega, rfl, hg⟩
      case round =>
        clear hg
        obtain ⟨b, hb, rfl, hg⟩ := hrel
        obtain ⟨wb, rfl⟩ : ∃ wo : World, wo = wr := ⟨_, rfl⟩
        by_cases hltb : b < P
        · go_wp2_with fail
          go_loopw [4, 22] (fun v i wr => ∃ c : Nat, c ≤ P ∧ i = .int .i64 c ∧ Gat P ((a * P + b) * P + c) w wr v) (fun _ i _ => P - (intOf i).toNat)
          case atStart => exact ⟨0, by omega, rfl, hg⟩
          case round =>
            clear hg
            obtain ⟨c, hc, rfl, hg⟩ := hrel
            obtain ⟨wc, rfl⟩ : ∃ wo : World, wo = wr := ⟨_, rfl⟩
            by_cases hltc : c < P
            · obtain ⟨⟨u0, u1, u2⟩, hu⟩ : ∃ u, pl P a b c = u := ⟨_, rfl⟩
              have HU := Lib.hid hu
              clear hu
              cases hz : zz P a b c
              · have HZ := Lib.hid hz
                clear hz
                by_cases hq : (u0 == (a : Int) && (u1 == (b : Int) && u2 == (c : Int))) = true
                · have HQ := Lib.hid hq
                  go_wp2_with fail
                  refine (plain36e _ _ _ _ _ _ _ _ HU.out HZ.out h h' _).mono ?_
                  rintro e w1 ⟨rfl, hb1⟩
                  have HB1 := Lib.hid hb1
                  have HO := Lib.hid (fun o1 o2 => ownsRow_alloc (ownsRow_alloc (ownsRow_below hg.1 hb1) o1) o2)
                  have hsz : w.heap.size ≤ w1.heap.size := Nat.le_trans hg.2.size hb1.size
                  have hlen := allK_le P ((a * P + b) * P + c)
                  have hlen2 := trip_lt hlt hltb hltc (by omega)
                  have HG := Lib.hid hg
                  clear hb1 hg
                  go_wp2_with (at_builtin; refine wpList_append_own _ rfl _ _ 45 rfl w.heap.size 27 i0 (.agg #[.int .i64 0, .int .i64 0, .int .i64 0]) 3 24 Try.underlying45 hi hz0 hz1 hz2 rfl (by decide) _ _ _ rfl (HO.out _ _) ⟨w1.heap.size + 1, 0, none⟩ 1 1 (hv (u0, u1, u2)) rfl rfl ?c1 ?c2 ?c3 ?c4 ?c5 ?_)
                  case c1 =>
                    intro j u hj
                    match j, hj with
                    | 0, hj => simp [hv] at hj; subst hj; simp [go_sem, Addr.add]
                    | 1, hj => simp [hv] at hj; subst hj; simp [go_sem, Addr.add]
                    | 2, hj => simp [hv] at hj; subst hj; simp [go_sem, Addr.add]
                  case c2 => intro u hu; simp [hv] at hu; rcases hu with rfl | rfl | rfl <;> rfl
                  case c3 => unfold maxLen; omega
                  case c4 => omega
                  case c5 => simp; omega
                  intro v' w2 hown' hgrow _
                  have HN := Lib.hid hown'
                  have HW := Lib.hid hgrow
                  clear hown' hgrow
                  go_wp2
                  refine ⟨⟨c + 1, by omega, by go_num, ?_⟩, by simp [intOf]; omega⟩
                  refine gat_keep (k := (a * P + b) * P + c) HG.out HB1.out ?_ ?_ HW.out
                  · rw [trip_at P a b c hlt hltb hltc]; exact nrm_eq HU.out HZ.out HQ.out
                  · rw [trip_at P a b c hlt hltb hltc, ← eq_of_q HQ.out]; exact HN.out
                · have hq : (u0 == (a : Int) && (u1 == (b : Int) && u2 == (c : Int))) = false := by simpa using hq
                  have HQ := Lib.hid hq
                  go_wp2_with fail
                  refine (plain36e _ _ _ _ _ _ _ _ HU.out HZ.out h h' _).mono ?_
                  rintro e w1 ⟨rfl, hb1⟩
                  have HB1 := Lib.hid hb1
                  clear hb1
                  go_wp2_with fail
                  refine ⟨⟨c + 1, by omega, by go_num, ?_⟩, by simp [intOf]; omega⟩
                  refine gat_skip hg HB1.out ?_ _
                  rw [trip_at P a b c hlt hltb hltc]
                  exact nrm_ne HU.out HQ.out
              · have HZ := Lib.hid hz
                clear hz
                go_wp2_with fail
                refine (plain36e _ _ _ _ _ _ _ _ HU.out HZ.out h h' _).mono ?_
                rintro e w1 ⟨rfl, hb1⟩
                have HB1 := Lib.hid hb1
                clear hb1
                go_wp2_with fail
                refine ⟨⟨c + 1, by omega, by go_num, ?_⟩, by simp [intOf]; omega⟩
                refine gat_skip hg HB1.out ?_ _
                rw [trip_at P a b c hlt hltb hltc]
                simp [nrm, HZ.out]
            · go_wp2
              have hcp : c = P := by omega
              rw [hcp] at hg
              exact ⟨⟨b + 1, by omega, by go_num, by rw [show (a * P + (b + 1)) * P = (a * P + b) * P + P by rw [← Nat.add_assoc, Nat.add_mul (a * P + b) 1 P, Nat.one_mul]]; exact hg⟩, by simp [intOf]; omega⟩
        · go_wp2
          have hbp : b = P := by omega
          rw [hbp] at hg
          exact ⟨⟨a + 1, by omega, by go_num, by rw [show (a + 1) * P * P = (a * P + P) * P by rw [Nat.add_mul a 1 P, Nat.one_mul]]; exact hg⟩, by simp [intOf]; omega⟩
    · go_wp2
      have hap : a = P := by omega
      rw [hap] at hg
      go_ret2
      exact ⟨_, rfl, hg⟩

end Go.Proofs.Ytfdbkocpljiehaa
