/- Joined texts. -/
import Derived.Test.YtbncegfgjbdheabZal
import Derived.Test.YtbncegfgjbdheabZam
/- Ytbncegfgjbdheab: flights that succeed, and such that fail. -/
set_option linter.all false
namespace Go.Proofs.Ytbncegfgjbdheab
open Go.Vc Go.Tk Go.Fl
set_option maxRecDepth 100000
end Go.Proofs.Ytbncegfgjbdheab
