/- Digests behind a tag, and frames. -/
import Derived.Test.YtmaginepopldnaaDoorXe
import Derived.Test.YtmaginepopldnaaDoorGi
set_option maxRecDepth 100000
set_option maxHeartbeats 3200000
set_option linter.unusedSimpArgs false
set_option linter.unusedVariables false
namespace Go.Proofs.YtmaginepopldnaaDoor
open Go.Av
attribute [local irreducible] T thenQ blockQ againQ againS WX retV retR Gt Gts GtsP okCells CV CR Av.Pure
attribute [local irreducible] wGo rGo shaSt mixL blockL turnL addL keysL rotr padL sha numN

end Go.Proofs.YtmaginepopldnaaDoor

set_option maxRecDepth 100000
set_option maxHeartbeats 3200000
set_option linter.unusedSimpArgs false
set_option linter.unusedVariables false
namespace Go.Proofs.YtmaginepopldnaaDoor
open Go.Av
attribute [local irreducible] T thenQ blockQ againQ againS WX retV retR Gt Gts GtsP okCells CV CR Av.Pure
attribute [local irreducible] sha

def tagL (s : ByteArray) : List UInt8 := byteN s.size :: strB s
abbrev recS : ByteArray := ByteArray.mk #[114, 101, 99, 111, 114, 100]

def frameL (p : List UInt8) : List UInt8 := byteN p.length :: (p ++ (sha (tagL recS ++ p)).take 4)
end Go.Proofs.YtmaginepopldnaaDoor
