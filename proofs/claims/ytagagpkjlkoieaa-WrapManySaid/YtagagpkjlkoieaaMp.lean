/- The abstract machine, part 16: append of a row of any length: the answer has a new number, whether a block is made or not. Conditions: none; nothing here speaks of one program. -/
import Derived.Test.YtagagpkjlkoieaaMx
namespace Go.Xm
open Go.RowKit

end Go.Xm
