/-
  No cell of these rows narrows 'for every input' (looked for: loops, veiled, ifaces, maps, wideKeys, modest, calm, conditions, laid).
  DERIVED. THE GIVEN ROWS OF THIS SEAT. 9 by the template 'for every input the law returns true; each argument reads behind the call as it read before'; 0 by the template 'total and deterministic' (their statements: YtfdbkocpljiehaaTotals.lean).
  GIVEN WITH THE SEED: the statements are not yours to turn. If you find one false, say at which input.
  Laid BY PROGRAM, IN A SANDBOX (cutbox-rows.mjs): the forced cells as the released guide's own fill.sh prints them over the translation a7c600e3a87f1759… (all of the seat's roots in one cut). By AI agents, Wed Nov 11 2026. No macro, syntax, notation, axiom, sorry.
-/
import Derived.Test.YtfdbkocpljiehaaChecked
import GoSem.Claim
import GoSem.ClaimJoined
import GoSem.ClaimMapViews
import Derived.JoinedTies
import Derived.KernelRfl
namespace Go.Proofs.Ytfdbkocpljiehaa
/- THE CELL 'sum', in the pinned program and in every row, IS THE sha256 OF THE DUMP (.gsa) THAT YtfdbkocpljiehaaProg.lean LOADS. Nothing in Lean hashes anything: it is a label: what it is worth is what the hold of that sum in a sandbox is worth. -/
noncomputable def Try.pinned : Pinned := { name := "ytfdbkocpljiehaa", sum := "a7c600e3a87f17592857be9fa48d4f89a697719124acaf6f6faa4c1d437c80bd", checked := Try.checked }
namespace Rows
def none {H : Type} : Left H := { results := [], args := [] }

/-- 'compasslaw.Names': WHATEVER THE INPUT: true; the input reads as it did. -/
def namesSpec : ChangeSpec := { name := "names", fn := fun _ => fun
  | [] => { results := [.lit (.bool true)], args := [] }
  | _ => none }
def namesRow : OpenClaim := { program := "ytfdbkocpljiehaa", sum := "a7c600e3a87f17592857be9fa48d4f89a697719124acaf6f6faa4c1d437c80bd", func := "compass/compasslaw.Names", spec := "names", apart := false }
def NamesSaid : Prop := namesRow.holds Try.pinned (OpenSpec.ofChange namesSpec)

/-- ITS FALSE NEIGHBOUR: 'it returns false'. Refute it at one input. -/
def namesWrong : ChangeSpec := { name := "names", fn := fun _ => fun
  | [] => { results := [.lit (.bool false)], args := [] }
  | _ => none }
def NamesWrongFalsely : Prop := namesRow.holds Try.pinned (OpenSpec.ofChange namesWrong)

/-- 'compasslaw.FiniteDesargues': WHATEVER THE INPUT: true; the input reads as it did. -/
def finiteDesarguesSpec : ChangeSpec := { name := "finiteDesargues", fn := fun _ => fun
  | [d1, d2, d3, d4, d5] => { results := [.lit (.bool true)], args := [d1, d2, d3, d4, d5] }
  | _ => none }
def finiteDesarguesRow : OpenClaim := { program := "ytfdbkocpljiehaa", sum := "a7c600e3a87f17592857be9fa48d4f89a697719124acaf6f6faa4c1d437c80bd", func := "compass/compasslaw.FiniteDesargues", spec := "finiteDesargues", apart := false }
def FiniteDesarguesSaid : Prop := finiteDesarguesRow.holds Try.pinned (OpenSpec.ofChange finiteDesarguesSpec)

/-- ITS FALSE NEIGHBOUR: 'it returns false'. Refute it at one input. -/
def finiteDesarguesWrong : ChangeSpec := { name := "finiteDesargues", fn := fun _ => fun
  | [d1, d2, d3, d4, d5] => { results := [.lit (.bool false)], args := [d1, d2, d3, d4, d5] }
  | _ => none }
def FiniteDesarguesWrongFalsely : Prop := finiteDesarguesRow.holds Try.pinned (OpenSpec.ofChange finiteDesarguesWrong)

/-- 'compasslaw.FinitePlain': WHATEVER THE INPUT: true; the input reads as it did. -/
def finitePlainSpec : ChangeSpec := { name := "finitePlain", fn := fun _ => fun
  | [d1, d2, d3] => { results := [.lit (.bool true)], args := [d1, d2, d3] }
  | _ => none }
def finitePlainRow : OpenClaim := { program := "ytfdbkocpljiehaa", sum := "a7c600e3a87f17592857be9fa48d4f89a697719124acaf6f6faa4c1d437c80bd", func := "compass/compasslaw.FinitePlain", spec := "finitePlain", apart := false }
def FinitePlainSaid : Prop := finitePlainRow.holds Try.pinned (OpenSpec.ofChange finitePlainSpec)

/-- ITS FALSE NEIGHBOUR: 'it returns false'. Refute it at one input. -/
def finitePlainWrong : ChangeSpec := { name := "finitePlain", fn := fun _ => fun
  | [d1, d2, d3] => { results := [.lit (.bool false)], args := [d1, d2, d3] }
  | _ => none }
def FinitePlainWrongFalsely : Prop := finitePlainRow.holds Try.pinned (OpenSpec.ofChange finitePlainWrong)

/-- 'compasslaw.FiniteAll': WHATEVER THE INPUT: true; the input reads as it did. -/
def finiteAllSpec : ChangeSpec := { name := "finiteAll", fn := fun _ => fun
  | [d1, d2] => { results := [.lit (.bool true)], args := [d1, d2] }
  | _ => none }
def finiteAllRow : OpenClaim := { program := "ytfdbkocpljiehaa", sum := "a7c600e3a87f17592857be9fa48d4f89a697719124acaf6f6faa4c1d437c80bd", func := "compass/compasslaw.FiniteAll", spec := "finiteAll", apart := false }
def FiniteAllSaid : Prop := finiteAllRow.holds Try.pinned (OpenSpec.ofChange finiteAllSpec)

/-- ITS FALSE NEIGHBOUR: 'it returns false'. Refute it at one input. -/
def finiteAllWrong : ChangeSpec := { name := "finiteAll", fn := fun _ => fun
  | [d1, d2] => { results := [.lit (.bool false)], args := [d1, d2] }
  | _ => none }
def FiniteAllWrongFalsely : Prop := finiteAllRow.holds Try.pinned (OpenSpec.ofChange finiteAllWrong)

/-- 'compasslaw.FiniteArc': WHATEVER THE INPUT: true; the input reads as it did. -/
def finiteArcSpec : ChangeSpec := { name := "finiteArc", fn := fun _ => fun
  | [d1, d2] => { results := [.lit (.bool true)], args := [d1, d2] }
  | _ => none }
def finiteArcRow : OpenClaim := { program := "ytfdbkocpljiehaa", sum := "a7c600e3a87f17592857be9fa48d4f89a697719124acaf6f6faa4c1d437c80bd", func := "compass/compasslaw.FiniteArc", spec := "finiteArc", apart := false }
def FiniteArcSaid : Prop := finiteArcRow.holds Try.pinned (OpenSpec.ofChange finiteArcSpec)

/-- ITS FALSE NEIGHBOUR: 'it returns false'. Refute it at one input. -/
def finiteArcWrong : ChangeSpec := { name := "finiteArc", fn := fun _ => fun
  | [d1, d2] => { results := [.lit (.bool false)], args := [d1, d2] }
  | _ => none }
def FiniteArcWrongFalsely : Prop := finiteArcRow.holds Try.pinned (OpenSpec.ofChange finiteArcWrong)

/-- 'compasslaw.FiniteApply': WHATEVER THE INPUT: true; the input reads as it did. -/
def finiteApplySpec : ChangeSpec := { name := "finiteApply", fn := fun _ => fun
  | [d1, d2, d3] => { results := [.lit (.bool true)], args := [d1, d2, d3] }
  | _ => none }
def finiteApplyRow : OpenClaim := { program := "ytfdbkocpljiehaa", sum := "a7c600e3a87f17592857be9fa48d4f89a697719124acaf6f6faa4c1d437c80bd", func := "compass/compasslaw.FiniteApply", spec := "finiteApply", apart := false }
def FiniteApplySaid : Prop := finiteApplyRow.holds Try.pinned (OpenSpec.ofChange finiteApplySpec)

/-- ITS FALSE NEIGHBOUR: 'it returns false'. Refute it at one input. -/
def finiteApplyWrong : ChangeSpec := { name := "finiteApply", fn := fun _ => fun
  | [d1, d2, d3] => { results := [.lit (.bool false)], args := [d1, d2, d3] }
  | _ => none }
def FiniteApplyWrongFalsely : Prop := finiteApplyRow.holds Try.pinned (OpenSpec.ofChange finiteApplyWrong)

/-- 'compasslaw.FiniteFano': WHATEVER THE INPUT: true; the input reads as it did. -/
def finiteFanoSpec : ChangeSpec := { name := "finiteFano", fn := fun _ => fun
  | [d1, d2] => { results := [.lit (.bool true)], args := [d1, d2] }
  | _ => none }
def finiteFanoRow : OpenClaim := { program := "ytfdbkocpljiehaa", sum := "a7c600e3a87f17592857be9fa48d4f89a697719124acaf6f6faa4c1d437c80bd", func := "compass/compasslaw.FiniteFano", spec := "finiteFano", unfollowed := true, recurses := true, apart := false }
def FiniteFanoSaid : Prop := finiteFanoRow.holds Try.pinned (OpenSpec.ofChange finiteFanoSpec)

/-- ITS FALSE NEIGHBOUR: 'it returns false'. Refute it at one input. -/
def finiteFanoWrong : ChangeSpec := { name := "finiteFano", fn := fun _ => fun
  | [d1, d2] => { results := [.lit (.bool false)], args := [d1, d2] }
  | _ => none }
def FiniteFanoWrongFalsely : Prop := finiteFanoRow.holds Try.pinned (OpenSpec.ofChange finiteFanoWrong)

/-- 'compasslaw.FiniteConic': WHATEVER THE INPUT: true; the input reads as it did. -/
def finiteConicSpec : ChangeSpec := { name := "finiteConic", fn := fun _ => fun
  | [d1, d2] => { results := [.lit (.bool true)], args := [d1, d2] }
  | _ => none }
def finiteConicRow : OpenClaim := { program := "ytfdbkocpljiehaa", sum := "a7c600e3a87f17592857be9fa48d4f89a697719124acaf6f6faa4c1d437c80bd", func := "compass/compasslaw.FiniteConic", spec := "finiteConic", apart := false }
def FiniteConicSaid : Prop := finiteConicRow.holds Try.pinned (OpenSpec.ofChange finiteConicSpec)

/-- ITS FALSE NEIGHBOUR: 'it returns false'. Refute it at one input. -/
def finiteConicWrong : ChangeSpec := { name := "finiteConic", fn := fun _ => fun
  | [d1, d2] => { results := [.lit (.bool false)], args := [d1, d2] }
  | _ => none }
def FiniteConicWrongFalsely : Prop := finiteConicRow.holds Try.pinned (OpenSpec.ofChange finiteConicWrong)

/-- 'compasslaw.FiniteOval': WHATEVER THE INPUT: true; the input reads as it did. -/
def finiteOvalSpec : ChangeSpec := { name := "finiteOval", fn := fun _ => fun
  | [d1, d2] => { results := [.lit (.bool true)], args := [d1, d2] }
  | _ => none }
def finiteOvalRow : OpenClaim := { program := "ytfdbkocpljiehaa", sum := "a7c600e3a87f17592857be9fa48d4f89a697719124acaf6f6faa4c1d437c80bd", func := "compass/compasslaw.FiniteOval", spec := "finiteOval", apart := false }
def FiniteOvalSaid : Prop := finiteOvalRow.holds Try.pinned (OpenSpec.ofChange finiteOvalSpec)

/-- ITS FALSE NEIGHBOUR: 'it returns false'. Refute it at one input. -/
def finiteOvalWrong : ChangeSpec := { name := "finiteOval", fn := fun _ => fun
  | [d1, d2] => { results := [.lit (.bool false)], args := [d1, d2] }
  | _ => none }
def FiniteOvalWrongFalsely : Prop := finiteOvalRow.holds Try.pinned (OpenSpec.ofChange finiteOvalWrong)

/- THE SECOND FORM. 'bulk': how many values and letters a reading holds, each counted each time it is reached (what is shared counts as often as it is met; a slice's spare places count too). A statement '..UptoSaid' is the law's where the arguments, and the package variables that the reading takes, are together of bulk at most 1048576: NARROWER than '..Said'. Prove '..Said' where nothing that the law and all that it calls make is longer than what came in: it says more and counts as full. Else prove '..UptoSaid'. A law counts once. -/
mutual
def uptoBulk {H : Type} : DataW H → Nat
  | .lit (.string bytes) => bytes.length + 1
  | .lit _ => 1
  | .nil => 1
  | .ptr d => uptoBulk d + 1
  | .slice elems spare => uptoBulkAll elems + uptoBulkAll spare + 1
  | .agg parts => uptoBulkAll parts + 1
  | .iface _ d => uptoBulk d + 1
  | .map entries => uptoBulkEntries entries + 1
  | .held _ => 1
def uptoBulkAll {H : Type} : List (DataW H) → Nat
  | [] => 0
  | d :: r => uptoBulk d + uptoBulkAll r
def uptoBulkEntries {H : Type} : List (Lit × DataW H) → Nat
  | [] => 0
  | x :: r => uptoBulkEntry x + uptoBulkEntries r
def uptoBulkEntry {H : Type} : Lit × DataW H → Nat
  | (.string bytes, d) => bytes.length + uptoBulk d + 1
  | (_, d) => uptoBulk d + 1
 end
def uptoSmall : (H : Type) → List (DataW H) → Bool := fun _ ds => decide (uptoBulkAll ds ≤ 1048576)
def OpenSpec.upto (s : _root_.Go.ChangeSpec) : _root_.Go.OpenSpec := { _root_.Go.OpenSpec.ofChange s with cond := some uptoSmall }

/-- 'compasslaw.Names', WHERE WHAT IT READS IS OF BULK AT MOST 1048576: true; the input reads as it did. -/
def namesUptoRow : OpenClaim := { program := "ytfdbkocpljiehaa", sum := "a7c600e3a87f17592857be9fa48d4f89a697719124acaf6f6faa4c1d437c80bd", func := "compass/compasslaw.Names", spec := "names", apart := false, narrowed := true }
def NamesUptoSaid : Prop := namesUptoRow.holds Try.pinned (OpenSpec.upto namesSpec)

/-- 'compasslaw.FiniteDesargues', WHERE WHAT IT READS IS OF BULK AT MOST 1048576: true; the input reads as it did. -/
def finiteDesarguesUptoRow : OpenClaim := { program := "ytfdbkocpljiehaa", sum := "a7c600e3a87f17592857be9fa48d4f89a697719124acaf6f6faa4c1d437c80bd", func := "compass/compasslaw.FiniteDesargues", spec := "finiteDesargues", apart := false, narrowed := true }
def FiniteDesarguesUptoSaid : Prop := finiteDesarguesUptoRow.holds Try.pinned (OpenSpec.upto finiteDesarguesSpec)

/-- 'compasslaw.FinitePlain', WHERE WHAT IT READS IS OF BULK AT MOST 1048576: true; the input reads as it did. -/
def finitePlainUptoRow : OpenClaim := { program := "ytfdbkocpljiehaa", sum := "a7c600e3a87f17592857be9fa48d4f89a697719124acaf6f6faa4c1d437c80bd", func := "compass/compasslaw.FinitePlain", spec := "finitePlain", apart := false, narrowed := true }
def FinitePlainUptoSaid : Prop := finitePlainUptoRow.holds Try.pinned (OpenSpec.upto finitePlainSpec)

/-- 'compasslaw.FiniteAll', WHERE WHAT IT READS IS OF BULK AT MOST 1048576: true; the input reads as it did. -/
def finiteAllUptoRow : OpenClaim := { program := "ytfdbkocpljiehaa", sum := "a7c600e3a87f17592857be9fa48d4f89a697719124acaf6f6faa4c1d437c80bd", func := "compass/compasslaw.FiniteAll", spec := "finiteAll", apart := false, narrowed := true }
def FiniteAllUptoSaid : Prop := finiteAllUptoRow.holds Try.pinned (OpenSpec.upto finiteAllSpec)

/-- 'compasslaw.FiniteArc', WHERE WHAT IT READS IS OF BULK AT MOST 1048576: true; the input reads as it did. -/
def finiteArcUptoRow : OpenClaim := { program := "ytfdbkocpljiehaa", sum := "a7c600e3a87f17592857be9fa48d4f89a697719124acaf6f6faa4c1d437c80bd", func := "compass/compasslaw.FiniteArc", spec := "finiteArc", apart := false, narrowed := true }
def FiniteArcUptoSaid : Prop := finiteArcUptoRow.holds Try.pinned (OpenSpec.upto finiteArcSpec)

/-- 'compasslaw.FiniteApply', WHERE WHAT IT READS IS OF BULK AT MOST 1048576: true; the input reads as it did. -/
def finiteApplyUptoRow : OpenClaim := { program := "ytfdbkocpljiehaa", sum := "a7c600e3a87f17592857be9fa48d4f89a697719124acaf6f6faa4c1d437c80bd", func := "compass/compasslaw.FiniteApply", spec := "finiteApply", apart := false, narrowed := true }
def FiniteApplyUptoSaid : Prop := finiteApplyUptoRow.holds Try.pinned (OpenSpec.upto finiteApplySpec)

/-- 'compasslaw.FiniteFano', WHERE WHAT IT READS IS OF BULK AT MOST 1048576: true; the input reads as it did. -/
def finiteFanoUptoRow : OpenClaim := { program := "ytfdbkocpljiehaa", sum := "a7c600e3a87f17592857be9fa48d4f89a697719124acaf6f6faa4c1d437c80bd", func := "compass/compasslaw.FiniteFano", spec := "finiteFano", unfollowed := true, recurses := true, apart := false, narrowed := true }
def FiniteFanoUptoSaid : Prop := finiteFanoUptoRow.holds Try.pinned (OpenSpec.upto finiteFanoSpec)

/-- 'compasslaw.FiniteConic', WHERE WHAT IT READS IS OF BULK AT MOST 1048576: true; the input reads as it did. -/
def finiteConicUptoRow : OpenClaim := { program := "ytfdbkocpljiehaa", sum := "a7c600e3a87f17592857be9fa48d4f89a697719124acaf6f6faa4c1d437c80bd", func := "compass/compasslaw.FiniteConic", spec := "finiteConic", apart := false, narrowed := true }
def FiniteConicUptoSaid : Prop := finiteConicUptoRow.holds Try.pinned (OpenSpec.upto finiteConicSpec)

/-- 'compasslaw.FiniteOval', WHERE WHAT IT READS IS OF BULK AT MOST 1048576: true; the input reads as it did. -/
def finiteOvalUptoRow : OpenClaim := { program := "ytfdbkocpljiehaa", sum := "a7c600e3a87f17592857be9fa48d4f89a697719124acaf6f6faa4c1d437c80bd", func := "compass/compasslaw.FiniteOval", spec := "finiteOval", apart := false, narrowed := true }
def FiniteOvalUptoSaid : Prop := finiteOvalUptoRow.holds Try.pinned (OpenSpec.upto finiteOvalSpec)

end Rows
end Go.Proofs.Ytfdbkocpljiehaa
