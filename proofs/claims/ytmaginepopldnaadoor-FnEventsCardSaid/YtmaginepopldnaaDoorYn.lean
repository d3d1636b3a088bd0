/- Items that are drawn. -/
import Derived.Test.YtmaginepopldnaaDoorYi
import Derived.Test.YtmaginepopldnaaDoorYa
import Derived.Test.YtmaginepopldnaaDoorGj
set_option maxRecDepth 100000
set_option maxHeartbeats 3200000
set_option linter.unusedSimpArgs false
set_option linter.unusedVariables false
namespace Go.Proofs.YtmaginepopldnaaDoor
open Go.Av
attribute [local irreducible] T thenQ blockQ againQ againS WX retV retR Gt Gts GtsP okCells CV CR Av.Pure
attribute [local irreducible] nextV pickV drwRel

section
variable {P : Program} {ty : TypeId → Option TI} {n : Nat} {l : List Oper} {K : St → Prop} {tp : TypeId} {pos : String} {aft : Array Edge} {gd : Option (Nat × Bool)} {env : List (Nat × AV)} {bx bx0 : List (Nat × Option Box)} {nx : Nat} {t : TypeId} {x y : Operand} {v : AV}
end

def drwItm (code : List UInt8) (s : Drw) : Int × Nat :=
  if s.que.length = 0 then (1 + nextV code s.at' 4, s.at' + 1)
  else if nextV code (s.at' + 1) 4 = 0 then (1 + nextV code s.at' 4, s.at' + 2)
  else ((s.que.getD (nextV code (s.at' + 2) (s.que.length : Int)).toNat it0).nonce, s.at' + 3)
def drwTime (code : List UInt8) (k : Nat) : Int := pickV code (k + 1) [nextV code k 60, 1099511627776, 1099511627777, -1]

end Go.Proofs.YtmaginepopldnaaDoor
