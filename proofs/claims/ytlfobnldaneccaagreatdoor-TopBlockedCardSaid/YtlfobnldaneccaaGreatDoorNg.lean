/- A call that is handed a map and writes it: its contract is at the one block that may change besides its own ones; at the caller the map has other entries. -/
import Derived.Test.YtlfobnldaneccaaGreatDoorNd
namespace Go.Xm
open Go.RowKit
end Go.Xm
