/- Bytes compared; records read, by value. -/
import Derived.Test.YtmaginepopldnaaDoorXh
import Derived.Test.YtmaginepopldnaaDoorGi
set_option maxRecDepth 100000
set_option maxHeartbeats 3200000
set_option linter.unusedSimpArgs false
set_option linter.unusedVariables false
namespace Go.Proofs.YtmaginepopldnaaDoor
open Go.Av
attribute [local irreducible] T thenQ blockQ againQ againS WX retV retR Gt Gts GtsP okCells CV CR Av.Pure
attribute [local irreducible] sha

def cmpL : List UInt8 → List UInt8 → Int
  | [], [] => 0
  | [], _ :: _ => -1
  | _ :: _, [] => 1
  | a :: u, b :: v => if a.toNat < b.toNat then -1 else if b.toNat < a.toNat then 1 else cmpL u v
end Go.Proofs.YtmaginepopldnaaDoor
