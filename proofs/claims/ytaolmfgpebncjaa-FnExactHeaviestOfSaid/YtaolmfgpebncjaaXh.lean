/- Records in their frames. -/
import Derived.Test.YtaolmfgpebncjaaXg
import Derived.Test.YtaolmfgpebncjaaWk
set_option maxRecDepth 100000
set_option maxHeartbeats 3200000
set_option linter.unusedSimpArgs false
set_option linter.unusedVariables false
namespace Go.Proofs.Ytaolmfgpebncjaa
open Go.Av
attribute [local irreducible] T thenQ blockQ againQ againS WX retV retR Gt Gts GtsP okCells CV CR Av.Pure
attribute [local irreducible] sha

def frCode (p : List UInt8) : Int := if 60 < p.length then 2 else if p.length = 0 then 1 else 0
def frOut (p : List UInt8) : List UInt8 := if frCode p = 0 then frameL p else []
theorem frCode_ok {p : List UInt8} (h : frCode p = 0) : p.length ≤ 60 ∧ p.length ≠ 0 := by
  unfold frCode at h
  split at h
  · cases h
  · split at h
    · cases h
    · omega
theorem frOut_le (p : List UInt8) : (frOut p).length ≤ 65 := by
  unfold frOut
  split
  · rename_i h; have := frCode_ok h; rw [frameL_length]; omega
  · simp

end Go.Proofs.Ytaolmfgpebncjaa
