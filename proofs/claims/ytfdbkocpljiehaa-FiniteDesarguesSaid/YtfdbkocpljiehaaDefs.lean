/- Plain definitions: the arithmetic of a projective plane modulo a small prime. No Go in sight. -/
namespace Go.Proofs.Ytfdbkocpljiehaa

/-- the first k from k0 on (at most f of them) with x k = 1 modulo p, else 0 -/
def fi (p x : Int) : Nat → Int → Int
  | 0, _ => 0
  | f + 1, k => if (x * k) % p = 1 then k else fi p x f (k + 1)
/-- the inverse of x modulo p -/
def ov (p x : Int) : Int := fi p x (p - 1).toNat 1

/-- plain form of a triple -/
def pl (p a b c : Int) : Int × Int × Int :=
  if a % p ≠ 0 then (let k := ov p (a % p); (a % p * k % p, b % p * k % p, c % p * k % p))
  else if b % p ≠ 0 then (let k := ov p (b % p); (a % p * k % p, b % p * k % p, c % p * k % p))
  else if c % p ≠ 0 then (let k := ov p (c % p); (a % p * k % p, b % p * k % p, c % p * k % p))
  else (0, 0, 0)
/-- are all three 0 modulo p? -/
def zz (p a b c : Int) : Bool := a % p == 0 && b % p == 0 && c % p == 0

def isP (p : Int) : Bool := p == 2 || p == 3 || p == 5 || p == 7 || p == 11 || p == 13

end Go.Proofs.Ytfdbkocpljiehaa
