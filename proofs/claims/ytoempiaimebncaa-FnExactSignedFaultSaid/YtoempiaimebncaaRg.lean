/- Trusts, as the helpers of the laws take them. -/
import Derived.Test.YtoempiaimebncaaRe
set_option maxRecDepth 100000
set_option maxHeartbeats 3200000
set_option linter.unusedSimpArgs false
set_option linter.unusedVariables false
namespace Go.Proofs.Ytoempiaimebncaa
open Go.Av
attribute [local irreducible] T thenQ blockQ againQ againS WX retV retR Gt Gts GtsP okCells CV CR Av.Pure

structure Tru where
  head : HdB
  next : List Vld
  period : Int
  paused : Bool
  roots : List (List UInt8)
  frm : Int
  deriving DecidableEq

abbrev Tru0 : Tru := ⟨⟨0, 0, [], [], []⟩, [], 0, false, [], 0⟩

abbrev truA (x : Tru) : AV := .agg [.int .i64 x.head.height, .int .i64 x.head.time, byA x.head.root, byA x.head.set, byA x.head.next, vldAS x.next, .int .i64 x.period, .bool x.paused, rowsA x.roots, .int .i64 x.frm]

abbrev truAC (x : Tru) : List AV := [.int .i64 x.head.height, .int .i64 x.head.time, byA x.head.root, byA x.head.set, byA x.head.next, vldAS x.next, .int .i64 x.period, .bool x.paused, rowsA x.roots, .int .i64 x.frm]

instance : ElemF truA := ⟨fun a y hy => by
  have h := (inferInstance : CellsC (truAC a)).out y hy
  exact h⟩

abbrev truAS (l : List Tru) : AV := .ls 10 true false (l.map truA)

def TruW (x : Tru) : Nat := HdBW x.head + listW VldW x.next + listW List.length x.roots

def TruR (x : Tru) : Prop := HdBR x.head ∧ listR VldR x.next ∧ rowsR x.roots

end Go.Proofs.Ytoempiaimebncaa
