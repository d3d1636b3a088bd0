/- The tree of leaves: its root, and the sides of a way. -/
import Derived.Test.YtmaginepopldnaaDoorXg
import Derived.Test.YtmaginepopldnaaDoorRa
set_option maxRecDepth 100000
set_option maxHeartbeats 3200000
set_option linter.unusedSimpArgs false
set_option linter.unusedVariables false
namespace Go.Proofs.YtmaginepopldnaaDoor
open Go.Av
attribute [local irreducible] T thenQ blockQ againQ againS WX retV retR Gt Gts GtsP okCells CV CR Av.Pure
attribute [local irreducible] sha

abbrev leafS : ByteArray := ByteArray.mk #[108, 101, 97, 102]
abbrev nodeS : ByteArray := ByteArray.mk #[110, 111, 100, 101]
abbrev noneS : ByteArray := ByteArray.mk #[110, 111, 110, 101]

def leafD (d : List UInt8) : List UInt8 := sha (tagL leafS ++ d)
def nodeD (a b : List UInt8) : List UInt8 := sha (tagL nodeS ++ (a ++ b))
def noneD : List UInt8 := sha (tagL noneS ++ [])
def splitGo : Nat → Nat → Nat → Nat
  | 0, m, _ => m
  | f + 1, m, n => if 2 * m < n then splitGo f (2 * m) n else m
def splitN (n : Nat) : Nat := splitGo n 1 n
structure SplitSt (n : Nat) (m : Nat) : Prop where
  pos : 0 < m
  le : m ≤ n + 1
  eq : ∃ f, splitN n = splitGo f m n ∧ n ≤ f + m
def rootGo : Nat → List (List UInt8) → List UInt8
  | 0, _ => noneD
  | f + 1, ws => if ws.length = 0 then noneD else if ws.length = 1 then leafD (ws.getD 0 []) else nodeD (rootGo f (ws.take (splitN ws.length))) (rootGo f (ws.drop (splitN ws.length)))
def rootL (ws : List (List UInt8)) : List UInt8 := rootGo ws.length ws
end Go.Proofs.YtmaginepopldnaaDoor
