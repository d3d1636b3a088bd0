/- How the draws read their bytes. -/
import Derived.Test.YtmaginepopldnaaDoorWb
import Derived.Test.YtmaginepopldnaaDoorGi
set_option maxRecDepth 100000
set_option maxHeartbeats 3200000
set_option linter.unusedSimpArgs false
set_option linter.unusedVariables false
namespace Go.Proofs.YtmaginepopldnaaDoor
open Go.Av
attribute [local irreducible] T thenQ blockQ againQ againS WX retV retR Gt Gts GtsP okCells CV CR Av.Pure

abbrev srcA (code : List UInt8) (k : Nat) : AV := .agg [sl1 (bA code), .int .i64 (k : Int)]
abbrev boxS (code : List UInt8) (k : Nat) : Option Box := some ⟨[srcA code k], 2, false, false⟩

def nextRaw (code : List UInt8) (k : Nat) : Nat := (code.getD (k % code.length) 0).toNat + k / code.length * 37
def nextBig (code : List UInt8) (k : Nat) : Nat := nextRaw code k * 251 + (code.getD ((k + 1) % code.length) 0).toNat * 13 + k
def nextV (code : List UInt8) (k : Nat) (n : Int) : Int :=
  if n < 1 then 0 else if code.length = 0 then ((k * 7 : Nat) : Int) % n else if 200 < n then ((nextBig code k : Nat) : Int) % n else ((nextRaw code k : Nat) : Int) % n
def pickV (code : List UInt8) (k : Nat) (xs : List Int) : Int := xs.getD (nextV code k xs.length).toNat 0

end Go.Proofs.YtmaginepopldnaaDoor
