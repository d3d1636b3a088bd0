/- Records read, by value. -/
import Derived.Test.YtmaginepopldnaaDoorXj
set_option maxRecDepth 100000
set_option maxHeartbeats 3200000
set_option linter.unusedSimpArgs false
set_option linter.unusedVariables false
namespace Go.Proofs.YtmaginepopldnaaDoor
open Go.Av
attribute [local irreducible] T thenQ blockQ againQ againS WX retV retR Gt Gts GtsP okCells CV CR Av.Pure
attribute [local irreducible] sha

theorem bytesClone_cv (p : List UInt8) (h : p.length ≤ 1073741824) : CV Tryd.prog 55 [sl1 (bA p)] (· = sl1 (bA p)) := CR.byVal (bytesClone_cr p h 0) (bA_length _).symm (pureB_bA _)

def recPay (d : List UInt8) (k : Nat) : List UInt8 := (d.drop (k + 1)).take (d.getD k 0).toNat
def recIs (d : List UInt8) (k : Nat) : Bool :=
  decide (1 ≤ (d.getD k 0).toNat) && decide ((d.getD k 0).toNat ≤ 60) && decide (k + (d.getD k 0).toNat + 5 ≤ d.length) && decide ((d.drop k).take ((d.getD k 0).toNat + 5) = frameL (recPay d k))
def rdSt (d : List UInt8) : Nat → List (List UInt8) × Nat
  | 0 => ([], 0)
  | k + 1 => if (rdSt d k).2 < d.length ∧ recIs d (rdSt d k).2 = true then ((rdSt d k).1 ++ [recPay d (rdSt d k).2], (rdSt d k).2 + (d.getD (rdSt d k).2 0).toNat + 5) else rdSt d k
def readRs (d : List UInt8) : List (List UInt8) := (rdSt d d.length).1
def readAt (d : List UInt8) : Nat := (rdSt d d.length).2

theorem drop_bA (d : List UInt8) (k n : Nat) : List.take n (List.drop k (bA d)) = bA ((d.drop k).take n) := by simp [bA]

end Go.Proofs.YtmaginepopldnaaDoor
