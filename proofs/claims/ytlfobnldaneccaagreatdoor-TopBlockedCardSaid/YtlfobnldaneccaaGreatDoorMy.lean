/- The abstract machine, part 21: a part of a row is appended to another part of the same row, within what the row is known to hold; cuts with a third bound. Conditions: none; nothing here speaks of one program. -/
import Derived.Test.YtlfobnldaneccaaGreatDoorMr
namespace Go.Xm
open Go.RowKit
end Go.Xm
