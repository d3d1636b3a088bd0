/- Records in their frames. -/
import Derived.Test.YtaolmfgpebncjaaXf
import Derived.Test.YtaolmfgpebncjaaGi
import Derived.Test.YtaolmfgpebncjaaRa
import Derived.Test.YtaolmfgpebncjaaNd
set_option maxRecDepth 100000
set_option maxHeartbeats 3200000
set_option linter.unusedSimpArgs false
set_option linter.unusedVariables false
namespace Go.Proofs.Ytaolmfgpebncjaa
open Go.Av
attribute [local irreducible] T thenQ blockQ againQ againS WX retV retR Gt Gts GtsP okCells CV CR Av.Pure
attribute [local irreducible] sha

def tagL (s : ByteArray) : List UInt8 := byteN s.size :: strB s
abbrev recS : ByteArray := ByteArray.mk #[114, 101, 99, 111, 114, 100]

def frameL (p : List UInt8) : List UInt8 := byteN p.length :: (p ++ (sha (tagL recS ++ p)).take 4)
end Go.Proofs.Ytaolmfgpebncjaa

set_option maxRecDepth 100000
set_option maxHeartbeats 3200000
set_option linter.unusedSimpArgs false
set_option linter.unusedVariables false
namespace Go.Proofs.Ytaolmfgpebncjaa
open Go.Av
attribute [local irreducible] T thenQ blockQ againQ againS WX retV retR Gt Gts GtsP okCells CV CR Av.Pure
attribute [local irreducible] sha

abbrev leafS : ByteArray := ByteArray.mk #[108, 101, 97, 102]
abbrev nodeS : ByteArray := ByteArray.mk #[110, 111, 100, 101]
abbrev noneS : ByteArray := ByteArray.mk #[110, 111, 110, 101]

def leafD (d : List UInt8) : List UInt8 := sha (tagL leafS ++ d)
def nodeD (a b : List UInt8) : List UInt8 := sha (tagL nodeS ++ (a ++ b))
def noneD : List UInt8 := sha (tagL noneS ++ [])
theorem loose1 {x y : AV} (h : Loose x y) : ∀ (i : Nat) (a b : AV), [x][i]? = some a → [y][i]? = some b → Loose a b := fun i a b ha hb => by
  match i, ha, hb with
  | 0, ha, hb => obtain rfl := Option.some.inj ha; obtain rfl := Option.some.inj hb; exact h
def splitGo : Nat → Nat → Nat → Nat
  | 0, m, _ => m
  | f + 1, m, n => if 2 * m < n then splitGo f (2 * m) n else m
def splitN (n : Nat) : Nat := splitGo n 1 n
structure SplitSt (n : Nat) (m : Nat) : Prop where
  pos : 0 < m
  le : m ≤ n + 1
  eq : ∃ f, splitN n = splitGo f m n ∧ n ≤ f + m
def rootGo : Nat → List (List UInt8) → List UInt8
  | 0, _ => noneD
  | f + 1, ws => if ws.length = 0 then noneD else if ws.length = 1 then leafD (ws.getD 0 []) else nodeD (rootGo f (ws.take (splitN ws.length))) (rootGo f (ws.drop (splitN ws.length)))
def rootL (ws : List (List UInt8)) : List UInt8 := rootGo ws.length ws
end Go.Proofs.Ytaolmfgpebncjaa

set_option maxRecDepth 100000
set_option maxHeartbeats 3200000
set_option linter.unusedSimpArgs false
set_option linter.unusedVariables false
namespace Go.Proofs.Ytaolmfgpebncjaa
open Go.Av
attribute [local irreducible] T thenQ blockQ againQ againS WX retV retR Gt Gts GtsP okCells CV CR Av.Pure

structure Prf where
  place : Int
  count : Int
  path : List (List UInt8)
  deriving DecidableEq

abbrev Prf0 : Prf := ⟨0, 0, []⟩

abbrev prfA (x : Prf) : AV := .agg [.int .i64 x.place, .int .i64 x.count, rowsA x.path]

abbrev prfAC (x : Prf) : List AV := [.int .i64 x.place, .int .i64 x.count, rowsA x.path]

instance : ElemF prfA := ⟨fun a y hy => by
  have h := (inferInstance : CellsC (prfAC a)).out y hy
  exact h⟩

abbrev prfAS (l : List Prf) : AV := .ls 3 true false (l.map prfA)

def PrfW (x : Prf) : Nat := listW List.length x.path

def PrfR (x : Prf) : Prop := rowsR x.path

structure Sig where
  leaf : Int
  parts : List (List UInt8)
  prf : Prf
  deriving DecidableEq

abbrev Sig0 : Sig := ⟨0, [], ⟨0, 0, []⟩⟩

abbrev sigA (x : Sig) : AV := .agg [.int .i64 x.leaf, rowsA x.parts, .int .i64 x.prf.place, .int .i64 x.prf.count, rowsA x.prf.path]

abbrev sigAC (x : Sig) : List AV := [.int .i64 x.leaf, rowsA x.parts, .int .i64 x.prf.place, .int .i64 x.prf.count, rowsA x.prf.path]

instance : ElemF sigA := ⟨fun a y hy => by
  have h := (inferInstance : CellsC (sigAC a)).out y hy
  exact h⟩

abbrev sigAS (l : List Sig) : AV := .ls 5 true false (l.map sigA)

def SigW (x : Sig) : Nat := listW List.length x.parts + PrfW x.prf

def SigR (x : Sig) : Prop := rowsR x.parts ∧ PrfR x.prf

end Go.Proofs.Ytaolmfgpebncjaa

set_option maxRecDepth 100000
set_option maxHeartbeats 3200000
set_option linter.unusedSimpArgs false
set_option linter.unusedVariables false
namespace Go.Proofs.Ytaolmfgpebncjaa
open Go.Av
attribute [local irreducible] T thenQ blockQ againQ againS WX retV retR Gt Gts GtsP okCells CV CR Av.Pure
attribute [local irreducible] sha

def frCode (p : List UInt8) : Int := if 60 < p.length then 2 else if p.length = 0 then 1 else 0
def frOut (p : List UInt8) : List UInt8 := if frCode p = 0 then frameL p else []
end Go.Proofs.Ytaolmfgpebncjaa
