/- More words for memory: new blocks by their number. -/
import Derived.Test.YtmjmcjcckncplaaDoorMem
namespace Go.Proofs.YtmjmcjcckncplaaDoor
open Go.RowKit

theorem Blk.at_ {w : World} {t : TypeId} {cs : Array Value} {n : Nat} (h : n = w.heap.size) : Blk (w.alloc (.cells cs t)) n t cs := by subst h; exact Blk.new w t cs

end Go.Proofs.YtmjmcjcckncplaaDoor
