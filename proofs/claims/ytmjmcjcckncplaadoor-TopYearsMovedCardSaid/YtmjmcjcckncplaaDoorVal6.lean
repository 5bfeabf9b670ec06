/- (machine).value: at every expression of the right form. -/
import Derived.Test.YtmjmcjcckncplaaDoorVal3
import Derived.Test.YtmjmcjcckncplaaDoorVal4
import Derived.Test.YtmjmcjcckncplaaDoorVal5

namespace Go.Proofs.YtmjmcjcckncplaaDoor
open Go.RowKit Go.BigFrame

theorem val_any (y : Int) (t : E) : ValOk y t := by
  induction t with
  | num n => exact val_num y n
  | year => exact val_year y
  | neg a ih => exact val_neg y a ih
  | not a ih => exact val_not y a ih
  | bin o a b iha ihb =>
    cases o with
    | add => exact val_add y a b iha ihb
    | sub => exact val_sub y a b iha ihb
    | mul => exact val_mul y a b iha ihb
    | div => exact val_div y a b iha ihb
    | mod => exact val_mod y a b iha ihb
    | less => exact val_less y a b iha ihb
    | same => exact val_same y a b iha ihb
    | and => exact val_and y a b iha ihb
    | or => exact val_or y a b iha ihb

end Go.Proofs.YtmjmcjcckncplaaDoor
