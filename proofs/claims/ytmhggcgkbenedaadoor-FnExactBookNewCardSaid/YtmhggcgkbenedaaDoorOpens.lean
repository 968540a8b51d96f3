/- What arguments of laws read as, by type. -/
import Derived.Test.YtmhggcgkbenedaaDoorCtx
import Derived.Test.YtmhggcgkbenedaaDoorSnd39
namespace Go.Proofs.YtmhggcgkbenedaaDoor.G
open Go Go.Ev
theorem o3 : OpensE ctx PP 3 (fun b : Int => [.int .i64 b]) (GInt .i64) := opensE_int Tryd.underlying3
theorem o9 : OpensE ctx PP 9 (fun b : ByteArray => [.str b]) GStr := opensE_string Tryd.underlying9
end Go.Proofs.YtmhggcgkbenedaaDoor.G
