/- The abstract machine, more: the first part of a row as an argument of a call that only reads. -/
import Derived.Test.YtlfobnldaneccaaGreatDoorNd
import Derived.Test.YtlfobnldaneccaaGreatDoorMr
namespace Go.Xm
open Go.RowKit
end Go.Xm
