/- Ytclbbchehjapjab: the reference's speeds and boxes. -/
import Derived.Test.YtclbbchehjapjabT15
set_option linter.all false
namespace Go.Proofs.Ytclbbchehjapjab
open Go.Vc Go.Tk
set_option maxRecDepth 100000

end Go.Proofs.Ytclbbchehjapjab
