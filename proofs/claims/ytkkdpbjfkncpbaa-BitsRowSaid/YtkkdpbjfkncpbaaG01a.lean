/- LISTS OF STRUCTS OF INTEGERS: are two the same; the facts on their types. One text for each kind of list that the seat has. -/
import Derived.Test.YtkkdpbjfkncpbaaF
import Derived.Test.YtkkdpbjfkncpbaaE
namespace Go.Proofs.Ytkkdpbjfkncpbaa
open Go Go.Gx Go.RowKit
set_option maxRecDepth 100000

def spotK : List IntKind := [.u32, .u32]
def colK : List IntKind := [.u16, .u16, .u16, .u16]
def recK : List IntKind := [.u8] ++ spotK ++ colK
def sheetK : List IntKind := [.u8] ++ rep 16 spotK ++ rep 4 colK
def patchK : List IntKind := rep 16 spotK ++ rep 4 colK
def triK : List IntKind := rep 3 recK

end Go.Proofs.Ytkkdpbjfkncpbaa
