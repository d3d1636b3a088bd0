/- Marks of logs. -/
import Derived.Test.YtmaginepopldnaaWl
set_option maxRecDepth 100000
set_option maxHeartbeats 3200000
set_option linter.unusedSimpArgs false
set_option linter.unusedVariables false
namespace Go.Proofs.Ytmaginepopldnaa
open Go.Av
attribute [local irreducible] T thenQ blockQ againQ againS WX retV retR Gt Gts GtsP okCells CV CR Av.Pure

abbrev logB (i j : Nat) (a b : Nat) : AV := .agg [.sl i 0 a a, .sl j 0 b b]
abbrev logResB (i j : Nat) (c : Int) (a b : Nat) : AV := .agg [.int .i64 c, .sl i 0 a a, .sl j 0 b b]

end Go.Proofs.Ytmaginepopldnaa
