/- Plain law: how many points a plane has, how many lie on a line. No Go in sight. -/
import Derived.Test.YtfdbkocpljiehaaMb
import Derived.Test.YtfdbkocpljiehaaWj
set_option linter.unusedSimpArgs false
set_option linter.unusedVariables false
namespace Go.Proofs.Ytfdbkocpljiehaa

def six : List Nat := [2, 3, 5, 7, 11, 13]
theorem six_all : (six.all fun P => (allK P (P * P * P)).length == P * P + P + 1) = true := by decide +kernel
/-- on each line as many points -/
def onLine (P : Nat) (L : List (Int × Int × Int)) (u : Int × Int × Int) : Nat := (L.filter fun x => (x.1 * u.1 + x.2.1 * u.2.1 + x.2.2 * u.2.2) % (P : Int) == 0).length
theorem six_on : (six.all fun P => let L := allK P (P * P * P); L.all fun u => onLine P L u == P + 1) = true := by decide +kernel
end Go.Proofs.Ytfdbkocpljiehaa
