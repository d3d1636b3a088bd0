/- Bytes that are copied and laid behind one another. -/
import Derived.Test.YtmaginepopldnaaDoorWc
set_option maxRecDepth 100000
set_option maxHeartbeats 3200000
set_option linter.unusedSimpArgs false
set_option linter.unusedVariables false
namespace Go.Proofs.YtmaginepopldnaaDoor
open Go.Av
attribute [local irreducible] T thenQ blockQ againQ againS WX retV retR Gt Gts GtsP okCells CV CR Av.Pure

abbrev byA (w : List UInt8) : AV := sl1 (bA w)

instance : ElemF byA := ⟨fun a y hy => by
  simp only [AV.cells, List.mem_cons, List.not_mem_nil, or_false] at hy
  subst hy
  exact ⟨pure_bytes _ _ _ _, rfl⟩⟩

end Go.Proofs.YtmaginepopldnaaDoor
