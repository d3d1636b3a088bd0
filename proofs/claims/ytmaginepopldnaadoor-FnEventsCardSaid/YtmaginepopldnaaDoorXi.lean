/- A log that is appended to. -/
import Derived.Test.YtmaginepopldnaaDoorXh
import Derived.Test.YtmaginepopldnaaDoorXl
import Derived.Test.YtmaginepopldnaaDoorGi
set_option maxRecDepth 100000
set_option maxHeartbeats 3200000
set_option linter.unusedSimpArgs false
set_option linter.unusedVariables false
namespace Go.Proofs.YtmaginepopldnaaDoor
open Go.Av
attribute [local irreducible] T thenQ blockQ againQ againS WX retV retR Gt Gts GtsP okCells CV CR Av.Pure
attribute [local irreducible] sha

abbrev boxL (v : AV) : Option Box := some ⟨[v], 2, false, false⟩
abbrev boxB (b : List UInt8) : Option Box := some ⟨bA b, 1, true, false⟩

def apIn (a b p : List UInt8) : Int := if frCode p ≠ 0 then frCode p else if 2000 < a.length + b.length + (frameL p).length then 8 else 0
def apCode (a b p : List UInt8) : Int := if logFault a b ≠ 0 then logFault a b else apIn a b p
def apA (a b p : List UInt8) : List UInt8 := if apCode a b p = 0 then a else []
def apB (a b p : List UInt8) : List UInt8 := if apCode a b p = 0 then b ++ frameL p else []
end Go.Proofs.YtmaginepopldnaaDoor
