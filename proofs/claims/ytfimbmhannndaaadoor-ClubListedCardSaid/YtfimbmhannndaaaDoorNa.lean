/- The abstract machine, more: a row whose last elements nothing asks for any more. -/
import Derived.Test.YtfimbmhannndaaaDoorMs
namespace Go.Xm
open Go.RowKit
end Go.Xm
