/- Records in their frames. -/
import Derived.Test.YtaolmfgpebncjaaGreatRa
import Derived.Test.YtaolmfgpebncjaaGreatGi
import Derived.Test.YtaolmfgpebncjaaGreatXg
import Derived.Test.YtaolmfgpebncjaaGreatWk
set_option maxRecDepth 100000
set_option maxHeartbeats 3200000
set_option linter.unusedSimpArgs false
set_option linter.unusedVariables false
namespace Go.Proofs.YtaolmfgpebncjaaGreat
open Go.Av
attribute [local irreducible] T thenQ blockQ againQ againS WX retV retR Gt Gts GtsP okCells CV CR Av.Pure

structure Prf where
  place : Int
  count : Int
  path : List (List UInt8)
  deriving DecidableEq

abbrev Prf0 : Prf := ⟨0, 0, []⟩

abbrev prfA (x : Prf) : AV := .agg [.int .i64 x.place, .int .i64 x.count, rowsA x.path]

abbrev prfAC (x : Prf) : List AV := [.int .i64 x.place, .int .i64 x.count, rowsA x.path]

instance : ElemF prfA := ⟨fun a y hy => by
  have h := (inferInstance : CellsC (prfAC a)).out y hy
  exact h⟩

abbrev prfAS (l : List Prf) : AV := .ls 3 true false (l.map prfA)

def PrfW (x : Prf) : Nat := listW List.length x.path

def PrfR (x : Prf) : Prop := rowsR x.path

structure Sig where
  leaf : Int
  parts : List (List UInt8)
  prf : Prf
  deriving DecidableEq

abbrev Sig0 : Sig := ⟨0, [], ⟨0, 0, []⟩⟩

abbrev sigA (x : Sig) : AV := .agg [.int .i64 x.leaf, rowsA x.parts, .int .i64 x.prf.place, .int .i64 x.prf.count, rowsA x.prf.path]

abbrev sigAC (x : Sig) : List AV := [.int .i64 x.leaf, rowsA x.parts, .int .i64 x.prf.place, .int .i64 x.prf.count, rowsA x.prf.path]

instance : ElemF sigA := ⟨fun a y hy => by
  have h := (inferInstance : CellsC (sigAC a)).out y hy
  exact h⟩

abbrev sigAS (l : List Sig) : AV := .ls 5 true false (l.map sigA)

def SigW (x : Sig) : Nat := listW List.length x.parts + PrfW x.prf

def SigR (x : Sig) : Prop := rowsR x.parts ∧ PrfR x.prf

end Go.Proofs.YtaolmfgpebncjaaGreat

set_option maxRecDepth 100000
set_option maxHeartbeats 3200000
set_option linter.unusedSimpArgs false
set_option linter.unusedVariables false
namespace Go.Proofs.YtaolmfgpebncjaaGreat
open Go.Av
attribute [local irreducible] T thenQ blockQ againQ againS WX retV retR Gt Gts GtsP okCells CV CR Av.Pure
attribute [local irreducible] sha

def frCode (p : List UInt8) : Int := if 60 < p.length then 2 else if p.length = 0 then 1 else 0
def frOut (p : List UInt8) : List UInt8 := if frCode p = 0 then frameL p else []
end Go.Proofs.YtaolmfgpebncjaaGreat
