/- THE BOOK: fill, grow, marked, for each kind of list of structs. -/
import Derived.Test.YtkkdpbjfkncpbaaG01b
import Derived.Test.YtkkdpbjfkncpbaaG
namespace Go.Proofs.Ytkkdpbjfkncpbaa
open Go Go.Gx Go.RowKit
set_option maxRecDepth 100000

end Go.Proofs.Ytkkdpbjfkncpbaa
