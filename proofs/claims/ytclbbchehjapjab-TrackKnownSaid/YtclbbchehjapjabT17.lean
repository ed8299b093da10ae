/- Ytclbbchehjapjab: the reference's Where and Alone. -/
import Derived.Test.YtclbbchehjapjabT14
import Derived.Test.YtclbbchehjapjabT16
set_option linter.all false
namespace Go.Proofs.Ytclbbchehjapjab
open Go.Vc Go.Tk
set_option maxRecDepth 100000

end Go.Proofs.Ytclbbchehjapjab
