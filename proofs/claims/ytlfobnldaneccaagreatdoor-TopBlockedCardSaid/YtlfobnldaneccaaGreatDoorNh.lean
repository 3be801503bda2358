/- append to nothing of so many zeros; append to a slice of length 0 that lies in a row (slices.Grow, slices.Concat). -/
import Derived.Test.YtlfobnldaneccaaGreatDoorMw
namespace Go.Xm
open Go.RowKit
end Go.Xm
