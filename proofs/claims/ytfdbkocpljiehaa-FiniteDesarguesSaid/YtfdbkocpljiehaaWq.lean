/- Laws: equality of two values of type [3]int. -/
import Derived.Test.YtfdbkocpljiehaaWc
import Derived.Laws.StructEq
namespace Go.Proofs.Ytfdbkocpljiehaa
open Go.RowKit
theorem pt0 (a b c : Int) (w : World) : (part 3 #[.int .i64 a, .int .i64 b, .int .i64 c] 0).run Try.prog w = .ok (.int .i64 a) w := by kernel_rfl
theorem pt1 (a b c : Int) (w : World) : (part 3 #[.int .i64 a, .int .i64 b, .int .i64 c] 1).run Try.prog w = .ok (.int .i64 b) w := by kernel_rfl
theorem pt2 (a b c : Int) (w : World) : (part 3 #[.int .i64 a, .int .i64 b, .int .i64 c] 2).run Try.prog w = .ok (.int .i64 c) w := by kernel_rfl
theorem sz3 (w : World) : (sizeOf 3).run Try.prog w = .ok 1 w := by kernel_rfl
theorem eqd (d : Nat) (a b c x y z : Int) (w : World) (he : ∀ a x, (Op.equalIn d 3 (.int .i64 a) (.int .i64 x)).run Try.prog w = .ok (a == x) w) :
    (Op.equalIn (d + 1) 27 (.agg #[.int .i64 a, .int .i64 b, .int .i64 c]) (.agg #[.int .i64 x, .int .i64 y, .int .i64 z])).run Try.prog w = .ok (a == x && (b == y && c == z)) w := by
  have hu := run_underlying (P := Try.prog) (w := w) Try.underlying27
  simp only [Op.equalIn, Sem.run_bind, hu, Result.andThen_ok, sz3]
  simp [List.range'_succ, Std.Legacy.Range.forIn_eq_forIn_range', pt0, pt1, pt2, he]
  by_cases h1 : a = x <;> by_cases h2 : b = y <;> by_cases h3 : c = z <;> simp [h1, h2, h3]
@[go_sem] theorem eq27 (a b c x y z : Int) (w : World) :
    (Op.equalIn 10000 27 (.agg #[.int .i64 a, .int .i64 b, .int .i64 c]) (.agg #[.int .i64 x, .int .i64 y, .int .i64 z])).run Try.prog w = .ok (a == x && (b == y && c == z)) w :=
  eqd 9999 a b c x y z w fun a x => run_equalIn_int (P := Try.prog) w 9998 3 .i64 .i64 a x Try.underlying3
end Go.Proofs.Ytfdbkocpljiehaa
