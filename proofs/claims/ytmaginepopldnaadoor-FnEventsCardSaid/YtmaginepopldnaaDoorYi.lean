/- Relayers that are drawn: how they are drawn. -/
import Derived.Test.YtmaginepopldnaaDoorYh
import Derived.Test.YtmaginepopldnaaDoorWu
import Derived.Test.YtmaginepopldnaaDoorYg
import Derived.Test.YtmaginepopldnaaDoorGj
set_option maxRecDepth 100000
set_option maxHeartbeats 3200000
set_option linter.unusedSimpArgs false
set_option linter.unusedVariables false
namespace Go.Proofs.YtmaginepopldnaaDoor
open Go.Av
attribute [local irreducible] T thenQ blockQ againQ againS WX retV retR Gt Gts GtsP okCells CV CR Av.Pure
attribute [local irreducible] nextV scanCode tryCode settleCode tryQ settleQ drwRuns drwLast drwStep

abbrev zeroR : Option Box := some ⟨[.agg [.int .i64 0, .ls 0 true true []]], 2, false, false⟩
abbrev stR (code : List UInt8) (s : Drw) : List (Nat × Option Box) := [(0, boxS code s.at'), (1, zeroR), (2, boxR (relB 3 s.cur s.que.length)), (3, boxQ s.que)]

end Go.Proofs.YtmaginepopldnaaDoor
