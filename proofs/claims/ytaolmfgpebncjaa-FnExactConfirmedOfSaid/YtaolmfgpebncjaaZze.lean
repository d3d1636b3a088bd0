/- Confirmed heads: what they are, and where a digest stands among them. -/
import Derived.Test.YtaolmfgpebncjaaZzd
set_option maxRecDepth 100000
set_option maxHeartbeats 3200000
set_option linter.unusedSimpArgs false
set_option linter.unusedVariables false
namespace Go.Proofs.Ytaolmfgpebncjaa
open Go.Av
attribute [local irreducible] T thenQ blockQ againQ againS WX retV retR Gt Gts GtsP okCells CV CR Av.Pure
attribute [local irreducible] sha zerosL lz8 hdD hdFault zerosN hardF firstB wayD chainL bestUp wtL

def confP (c : Cli) (j : Nat) : Bool := decide ((headAt c.heads (bestL c.heads)).height - c.depth < (headAt c.heads j).height)
def confL (c : Cli) : List Nat := keptL (confP c) (mainL c.heads)
theorem mainL_mem {hs : List Hd} {j : Nat} (h0 : 0 < hs.length) (h : j ∈ mainL hs) : j < hs.length := by
  have h1 := wayD_mem hs (bestL_lt h0) (List.mem_reverse.1 h)
  have h2 := bestL_lt h0
  omega
theorem mainL_le {hs : List Hd} (h0 : 0 < hs.length) : (mainL hs).length ≤ hs.length := by
  have h1 := wayD_le hs (bestL_lt h0)
  have h2 := bestL_lt h0
  unfold mainL
  rw [List.length_reverse]
  omega
theorem confL_le (c : Cli) : (confL c).length ≤ (mainL c.heads).length := List.length_filter_le _ _

def isConfB (c : Cli) (d : List UInt8) : Bool := decide (0 ≤ placeL (c.heads.map hdD) d) && (confL c).any fun y => decide (y = (placeL (c.heads.map hdD) d).toNat)
def isConfV (c : Cli) (d : List UInt8) : Bool := decide (cliFault c = 0) && isConfB c d

/-! no two heads of a client have one digest -/
def goneB (now : Cli) (d : List UInt8) : Bool := decide (placeL (now.heads.map hdD) d < 0) || !((mainL now.heads).any fun y => decide (y = (placeL (now.heads.map hdD) d).toNat))
def mineL (now : Cli) : List (List UInt8) := (mainL now.heads).map fun j => hdD (headAt now.heads j)
def brokeB (old now : Cli) : Bool := (confL old).any fun k => goneB now (hdD (headAt old.heads k))
def brokeV (old now : Cli) : Bool := decide (cliFault old = 0) && (decide (cliFault now = 0) && brokeB old now)

end Go.Proofs.Ytaolmfgpebncjaa
