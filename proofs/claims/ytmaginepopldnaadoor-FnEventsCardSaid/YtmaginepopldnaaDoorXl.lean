/- Records read by the specification, by value; a log that is recovered. -/
import Derived.Test.YtmaginepopldnaaDoorWl
import Derived.Test.YtmaginepopldnaaDoorXk
set_option maxRecDepth 100000
set_option maxHeartbeats 3200000
set_option linter.unusedSimpArgs false
set_option linter.unusedVariables false
namespace Go.Proofs.YtmaginepopldnaaDoor
open Go.Av
attribute [local irreducible] T thenQ blockQ againQ againS WX retV retR Gt Gts GtsP okCells CV CR Av.Pure

abbrev logB (i j : Nat) (a b : Nat) : AV := .agg [.sl i 0 a a, .sl j 0 b b]
abbrev logResB (i j : Nat) (c : Int) (a b : Nat) : AV := .agg [.int .i64 c, .sl i 0 a a, .sl j 0 b b]

end Go.Proofs.YtmaginepopldnaaDoor

set_option maxRecDepth 100000
set_option maxHeartbeats 3200000
set_option linter.unusedSimpArgs false
set_option linter.unusedVariables false
namespace Go.Proofs.YtmaginepopldnaaDoor
open Go.Av
attribute [local irreducible] T thenQ blockQ againQ againS WX retV retR Gt Gts GtsP okCells CV CR Av.Pure
attribute [local irreducible] sha

def rcCode (a b : List UInt8) : Int := if logFault a b ≠ 0 then logFault a b else if b.length ≠ 0 then 1 else 0
def rcOut (a b : List UInt8) : List UInt8 := if rcCode a b = 0 then a.take (readAt a) else []
end Go.Proofs.YtmaginepopldnaaDoor
