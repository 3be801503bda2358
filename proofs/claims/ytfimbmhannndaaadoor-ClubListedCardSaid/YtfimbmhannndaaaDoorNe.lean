/- The abstract machine, more: the first part of a row as an argument of a call that only reads. -/
import Derived.Test.YtfimbmhannndaaaDoorNd
import Derived.Test.YtfimbmhannndaaaDoorMt
namespace Go.Xm
open Go.RowKit
end Go.Xm
