/- Trusts, as the helpers of the laws take them. -/
import Derived.Test.YtaolmfgpebncjaaRa
import Derived.Test.YtaolmfgpebncjaaGi
set_option maxRecDepth 100000
set_option maxHeartbeats 3200000
set_option linter.unusedSimpArgs false
set_option linter.unusedVariables false
namespace Go.Proofs.Ytaolmfgpebncjaa
open Go.Av
attribute [local irreducible] T thenQ blockQ againQ againS WX retV retR Gt Gts GtsP okCells CV CR Av.Pure

structure Vld where
  key : List UInt8
  power : Int
  deriving DecidableEq

abbrev Vld0 : Vld := ⟨[], 0⟩

abbrev vldA (x : Vld) : AV := .agg [byA x.key, .int .i64 x.power]

abbrev vldAC (x : Vld) : List AV := [byA x.key, .int .i64 x.power]

instance : ElemF vldA := ⟨fun a y hy => by
  have h := (inferInstance : CellsC (vldAC a)).out y hy
  exact h⟩

abbrev vldAS (l : List Vld) : AV := .ls 2 true false (l.map vldA)

def VldW (x : Vld) : Nat := x.key.length

def VldR (x : Vld) : Prop := x.key.length ≤ 9223372036854775807

structure HdB where
  height : Int
  time : Int
  root : List UInt8
  set : List UInt8
  next : List UInt8
  deriving DecidableEq

abbrev HdB0 : HdB := ⟨0, 0, [], [], []⟩

abbrev hdbA (x : HdB) : AV := .agg [.int .i64 x.height, .int .i64 x.time, byA x.root, byA x.set, byA x.next]

abbrev hdbAC (x : HdB) : List AV := [.int .i64 x.height, .int .i64 x.time, byA x.root, byA x.set, byA x.next]

instance : ElemF hdbA := ⟨fun a y hy => by
  have h := (inferInstance : CellsC (hdbAC a)).out y hy
  exact h⟩

abbrev hdbAS (l : List HdB) : AV := .ls 5 true false (l.map hdbA)

def HdBW (x : HdB) : Nat := x.root.length + x.set.length + x.next.length

def HdBR (x : HdB) : Prop := x.root.length ≤ 9223372036854775807 ∧ x.set.length ≤ 9223372036854775807 ∧ x.next.length ≤ 9223372036854775807

end Go.Proofs.Ytaolmfgpebncjaa

set_option maxRecDepth 100000
set_option maxHeartbeats 3200000
set_option linter.unusedSimpArgs false
set_option linter.unusedVariables false
namespace Go.Proofs.Ytaolmfgpebncjaa
open Go.Av
attribute [local irreducible] T thenQ blockQ againQ againS WX retV retR Gt Gts GtsP okCells CV CR Av.Pure

structure Tru where
  head : HdB
  next : List Vld
  period : Int
  paused : Bool
  roots : List (List UInt8)
  frm : Int
  deriving DecidableEq

abbrev Tru0 : Tru := ⟨⟨0, 0, [], [], []⟩, [], 0, false, [], 0⟩

abbrev truA (x : Tru) : AV := .agg [.int .i64 x.head.height, .int .i64 x.head.time, byA x.head.root, byA x.head.set, byA x.head.next, vldAS x.next, .int .i64 x.period, .bool x.paused, rowsA x.roots, .int .i64 x.frm]

abbrev truAC (x : Tru) : List AV := [.int .i64 x.head.height, .int .i64 x.head.time, byA x.head.root, byA x.head.set, byA x.head.next, vldAS x.next, .int .i64 x.period, .bool x.paused, rowsA x.roots, .int .i64 x.frm]

instance : ElemF truA := ⟨fun a y hy => by
  have h := (inferInstance : CellsC (truAC a)).out y hy
  exact h⟩

abbrev truAS (l : List Tru) : AV := .ls 10 true false (l.map truA)

def TruW (x : Tru) : Nat := HdBW x.head + listW VldW x.next + listW List.length x.roots

def TruR (x : Tru) : Prop := HdBR x.head ∧ listR VldR x.next ∧ rowsR x.roots

end Go.Proofs.Ytaolmfgpebncjaa
