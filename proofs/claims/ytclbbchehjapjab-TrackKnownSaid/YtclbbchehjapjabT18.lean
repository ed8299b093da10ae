/- Ytclbbchehjapjab: the reference's Fails, Spare and Best. -/
import Derived.Test.YtclbbchehjapjabT17
import Derived.Test.YtclbbchehjapjabW
set_option linter.all false
namespace Go.Proofs.Ytclbbchehjapjab
open Go.Vc Go.Tk
set_option maxRecDepth 100000

end Go.Proofs.Ytclbbchehjapjab
