/- Logs. -/
import Derived.Test.YtmaginepopldnaaDoorYa
import Derived.Test.YtmaginepopldnaaDoorWj
import Derived.Test.YtmaginepopldnaaDoorXh
set_option maxRecDepth 100000
set_option maxHeartbeats 3200000
set_option linter.unusedSimpArgs false
set_option linter.unusedVariables false
namespace Go.Proofs.YtmaginepopldnaaDoor
open Go.Av
attribute [local irreducible] T thenQ blockQ againQ againS WX retV retR Gt Gts GtsP okCells CV CR Av.Pure
attribute [local irreducible] nextV

def someV (code : List UInt8) (k : Nat) : Nat → List UInt8
  | 0 => []
  | j + 1 => someV code k j ++ [byteOf (nextV code (k + j) 256)]
def payN (code : List UInt8) (k : Nat) : Int := pickV code (k + 2) [1 + nextV code k 9, 1 + nextV code (k + 1) 9, 60, 61, 0]
def payV (code : List UInt8) (k : Nat) : List UInt8 := someV code (k + 3) (payN code k).toNat
end Go.Proofs.YtmaginepopldnaaDoor

set_option maxRecDepth 100000
set_option maxHeartbeats 3200000
set_option linter.unusedSimpArgs false
set_option linter.unusedVariables false
namespace Go.Proofs.YtmaginepopldnaaDoor
open Go.Av
attribute [local irreducible] T thenQ blockQ againQ againS WX retV retR Gt Gts GtsP okCells CV CR Av.Pure

abbrev logA (a b : List UInt8) : AV := .agg [sl1 (bA a), sl1 (bA b)]
abbrev logResA (c : Int) (a b : List UInt8) : AV := .agg [.int .i64 c, sl1 (bA a), sl1 (bA b)]

def logFault (a b : List UInt8) : Int := if 2000 < a.length + b.length then 2 else 0

def syncOut (a b : List UInt8) : List UInt8 := if logFault a b = 0 then a ++ b else []

end Go.Proofs.YtmaginepopldnaaDoor
