/- Records of a relayer; marks on bytes. -/
import Derived.Test.YtmaginepopldnaaDoorWb
set_option maxRecDepth 100000
set_option maxHeartbeats 3200000
set_option linter.unusedSimpArgs false
set_option linter.unusedVariables false
namespace Go.Proofs.YtmaginepopldnaaDoor
open Go.Av
attribute [local irreducible] T thenQ blockQ againQ againS WX retV retR Gt Gts GtsP okCells CV CR Av.Pure

abbrev bytesRes (c : Int) (bs : List UInt8) : AV := .agg [.int .i64 c, sl1 (bA bs)]

def recBytes (k n t : Int) : List UInt8 := byteOf k :: (putN n ++ if k = 2 then putN t else [])
def recCode (k n t : Int) : Int :=
  if ¬ (1 ≤ k ∧ k ≤ 3) then 1 else if ¬ (1 ≤ n ∧ n ≤ 1000000) ∨ ¬ (0 ≤ t ∧ t ≤ 1099511627776) then 3 else if t ≠ 0 ∧ k ≠ 2 then 1 else 0
def recOut (k n t : Int) : List UInt8 := if recCode k n t = 0 then recBytes k n t else []

def marksB (k : Int) (n : Nat) : List UInt8 := (List.range n).map fun i : Nat => byteOf (k + (i : Int))
end Go.Proofs.YtmaginepopldnaaDoor
