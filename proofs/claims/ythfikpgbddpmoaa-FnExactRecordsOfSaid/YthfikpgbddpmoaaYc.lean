/- Bytes that are drawn. -/
import Derived.Test.YthfikpgbddpmoaaYa
set_option maxRecDepth 100000
set_option maxHeartbeats 3200000
set_option linter.unusedSimpArgs false
set_option linter.unusedVariables false
namespace Go.Proofs.Ythfikpgbddpmoaa
open Go.Av
attribute [local irreducible] T thenQ blockQ againQ againS WX retV retR Gt Gts GtsP okCells CV CR Av.Pure
attribute [local irreducible] nextV

def someV (code : List UInt8) (k : Nat) : Nat → List UInt8
  | 0 => []
  | j + 1 => someV code k j ++ [byteOf (nextV code (k + j) 256)]
def payN (code : List UInt8) (k : Nat) : Int := pickV code (k + 2) [1 + nextV code k 9, 1 + nextV code (k + 1) 9, 60, 61, 0]
def payV (code : List UInt8) (k : Nat) : List UInt8 := someV code (k + 3) (payN code k).toNat
end Go.Proofs.Ythfikpgbddpmoaa
