/- Proofs checked. -/
import Derived.Test.YtaolmfgpebncjaaZb
set_option maxRecDepth 100000
set_option maxHeartbeats 3200000
set_option linter.unusedSimpArgs false
set_option linter.unusedVariables false
namespace Go.Proofs.Ytaolmfgpebncjaa
open Go.Av
attribute [local irreducible] T thenQ blockQ againQ againS WX retV retR Gt Gts GtsP okCells CV CR Av.Pure
attribute [local irreducible] sha

def prfOk (x : Prf) : Bool := plOk x.count x.place && (decide (x.path.length = (sidesL x.count.toNat x.place.toNat).length) && rows32 x.path)

def upSt (ss : List Bool) (ps : List (List UInt8)) (o : List UInt8) : Nat → List UInt8
  | 0 => o
  | k + 1 => if ss.getD k false then nodeD (ps.getD k []) (upSt ss ps o k) else nodeD (upSt ss ps o k) (ps.getD k [])
def checkL (root data : List UInt8) (x : Prf) : Bool := prfOk x && decide (upSt (sidesL x.count.toNat x.place.toNat) x.path (leafD data) x.path.length = root)

end Go.Proofs.Ytaolmfgpebncjaa
