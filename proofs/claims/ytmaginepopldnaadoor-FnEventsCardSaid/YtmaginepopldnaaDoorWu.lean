/- A relayer settles. -/
import Derived.Test.YtmaginepopldnaaDoorWp
set_option maxRecDepth 100000
set_option maxHeartbeats 3200000
set_option linter.unusedSimpArgs false
set_option linter.unusedVariables false
namespace Go.Proofs.YtmaginepopldnaaDoor
open Go.Av
attribute [local irreducible] T thenQ blockQ againQ againS WX retV retR Gt Gts GtsP okCells CV CR Av.Pure

def snCode (c : Int) (q : List Itm) (n : Int) : Int := if relFault c q ≠ 0 then relFault c q else scanCode c q n
def snC (c : Int) (q : List Itm) (n : Int) : Int := if snCode c q n = 0 then n else 0
def snQ (c : Int) (q : List Itm) (n : Int) : List Itm := if snCode c q n = 0 then q ++ [(⟨n, 0, 0⟩ : Itm)] else []
end Go.Proofs.YtmaginepopldnaaDoor

set_option maxRecDepth 100000
set_option maxHeartbeats 3200000
set_option linter.unusedSimpArgs false
set_option linter.unusedVariables false
namespace Go.Proofs.YtmaginepopldnaaDoor
open Go.Av
attribute [local irreducible] T thenQ blockQ againQ againS WX retV retR Gt Gts GtsP okCells CV CR Av.Pure

def settleCode (q : List Itm) (n : Int) : Int := if findI q n < 0 then 4 else 0
def settleQ (q : List Itm) (n : Int) : List Itm := q.eraseIdx (findI q n).toNat
def stCode (c : Int) (q : List Itm) (n : Int) : Int := if relFault c q ≠ 0 then relFault c q else settleCode q n
def stC (c : Int) (q : List Itm) (n : Int) : Int := if stCode c q n = 0 then c else 0
def stQ (c : Int) (q : List Itm) (n : Int) : List Itm := if stCode c q n = 0 then settleQ q n else []
end Go.Proofs.YtmaginepopldnaaDoor
