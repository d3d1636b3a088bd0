/- Relayers in boxes of their own, and their turns. -/
import Derived.Test.YtmaginepopldnaaDoorWf
import Derived.Test.YtmaginepopldnaaDoorWg
set_option maxRecDepth 100000
set_option maxHeartbeats 3200000
set_option linter.unusedSimpArgs false
set_option linter.unusedVariables false
namespace Go.Proofs.YtmaginepopldnaaDoor
open Go.Av
attribute [local irreducible] T thenQ blockQ againQ againS WX retV retR Gt Gts GtsP okCells CV CR Av.Pure

end Go.Proofs.YtmaginepopldnaaDoor

set_option maxRecDepth 100000
set_option maxHeartbeats 3200000
set_option linter.unusedSimpArgs false
set_option linter.unusedVariables false
namespace Go.Proofs.YtmaginepopldnaaDoor
open Go.Av
attribute [local irreducible] T thenQ blockQ againQ againS WX retV retR Gt Gts GtsP okCells CV CR Av.Pure

abbrev relB (id : Nat) (c : Int) (n : Nat) : AV := .agg [.int .i64 c, .sl id 0 n n]
abbrev relResB (id : Nat) (k c : Int) (n : Nat) : AV := .agg [.int .i64 k, .int .i64 c, .sl id 0 n n]
abbrev relResA (k c : Int) (q : List Itm) : AV := .agg [.int .i64 k, .int .i64 c, sl3 (q.map itemA)]
abbrev boxR (v : AV) : Option Box := some ⟨[v], 2, false, false⟩
abbrev boxQ (q : List Itm) : Option Box := some ⟨q.map itemA, 3, true, false⟩

def findGo (n : Int) (q : List Itm) : Nat → Nat → Int
  | 0, _ => -1
  | m + 1, i => if (q.getD i it0).nonce = n then (i : Int) else findGo n q m (i + 1)
def findI (q : List Itm) (n : Int) : Int := findGo n q q.length 0

end Go.Proofs.YtmaginepopldnaaDoor
