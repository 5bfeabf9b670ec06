/- The text of an expression as a list of bytes: what 'write' of package rule writes. -/
import Derived.Test.YtmjmcjcckncplaaDoorTree
import Derived.Lib.ItoaNum
namespace Go.Proofs.YtmjmcjcckncplaaDoor
open Go

/-- The levels of expressions, from the weakest to the strongest. -/
def O2.lev : O2 → Nat
  | .add => 5 | .sub => 5 | .mul => 6 | .div => 6 | .mod => 6 | .less => 4 | .same => 4 | .and => 2 | .or => 1
def E.lev : E → Nat
  | .num _ => 8 | .year => 8 | .neg _ => 7 | .not _ => 3 | .bin o _ _ => o.lev

/-- The sign between the operands, with its blanks. -/
def O2.sign : O2 → List UInt8
  | .add => [32, 43, 32] | .sub => [32, 45, 32] | .mul => [32, 42, 32] | .div => [32, 47, 32] | .mod => [32, 37, 32]
  | .less => [32, 60, 32] | .same => [32, 61, 32] | .and => [32, 97, 110, 100, 32] | .or => [32, 111, 114, 32]

/-- An operand, in parentheses where p. -/
def par (p : Bool) (l : List UInt8) : List UInt8 := if p then 40 :: (l ++ [41]) else l

def wr : E → List UInt8
  | .num n => Lib.itoa n
  | .year => [121]
  | .neg a => 45 :: par (decide (a.lev < 7)) (wr a)
  | .not a => [110, 111, 116, 32] ++ par (decide (a.lev < 3)) (wr a)
  | .bin o a b => par (decide (a.lev < o.lev) || (decide (o.lev = 4) && decide (a.lev = 4))) (wr a) ++ (o.sign ++ par (decide (b.lev ≤ o.lev)) (wr b))

theorem par_length (p : Bool) (l : List UInt8) : (par p l).length ≤ l.length + 2 := by unfold par; split <;> simp

end Go.Proofs.YtmjmcjcckncplaaDoor
