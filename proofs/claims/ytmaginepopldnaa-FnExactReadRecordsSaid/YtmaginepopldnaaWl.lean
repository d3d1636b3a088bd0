/- Logs. -/
import Derived.Test.YtmaginepopldnaaWj
import Derived.Test.YtmaginepopldnaaWk
set_option maxRecDepth 100000
set_option maxHeartbeats 3200000
set_option linter.unusedSimpArgs false
set_option linter.unusedVariables false
namespace Go.Proofs.Ytmaginepopldnaa
open Go.Av
attribute [local irreducible] T thenQ blockQ againQ againS WX retV retR Gt Gts GtsP okCells CV CR Av.Pure

abbrev logA (a b : List UInt8) : AV := .agg [sl1 (bA a), sl1 (bA b)]
abbrev logResA (c : Int) (a b : List UInt8) : AV := .agg [.int .i64 c, sl1 (bA a), sl1 (bA b)]

def logFault (a b : List UInt8) : Int := if 2000 < a.length + b.length then 2 else 0

def syncOut (a b : List UInt8) : List UInt8 := if logFault a b = 0 then a ++ b else []

end Go.Proofs.Ytmaginepopldnaa
