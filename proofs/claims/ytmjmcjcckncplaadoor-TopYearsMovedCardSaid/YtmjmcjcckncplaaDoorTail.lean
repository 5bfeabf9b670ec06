/- A region whose operations only read, but for the last ones: the world behind the draw is a variable of which the prover tells what is wanted. -/
import Derived.StillTailTactics
import Derived.Test.YtmjmcjcckncplaaDoorMemB
namespace Go.Proofs.YtmjmcjcckncplaaDoor
open Go.RowKit

theorem still_tail {P : Program} {id : Nat} {Q : Exit → Act → World → Prop} {a : Act} {w : World} {l : List Oper} (n : Nat) (hm : P.follows .mixedOrders = true) (hB : Region.lexTailB .any l.toArray n = true)
    (h : ∀ W : World, W = w.drew → wpStill P l.toArray W (fun a' => wpList P l.toArray Q (l.drop n) a' W) (l.take n) a) : (Code.region id l.toArray true).wp P Q a w :=
  wp_region_still_tail n hm hB (h _ rfl)

end Go.Proofs.YtmjmcjcckncplaaDoor
