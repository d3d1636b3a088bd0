/- Bytes that are copied and laid behind one another. -/
import Derived.Test.YtaolmfgpebncjaaGreatWc
set_option maxRecDepth 100000
set_option maxHeartbeats 3200000
set_option linter.unusedSimpArgs false
set_option linter.unusedVariables false
namespace Go.Proofs.YtaolmfgpebncjaaGreat
open Go.Av
attribute [local irreducible] T thenQ blockQ againQ againS WX retV retR Gt Gts GtsP okCells CV CR Av.Pure

abbrev byA (w : List UInt8) : AV := sl1 (bA w)

instance : ElemF byA := ⟨fun a y hy => by
  simp only [AV.cells, List.mem_cons, List.not_mem_nil, or_false] at hy
  subst hy
  exact ⟨pure_bytes _ _ _ _, rfl⟩⟩

theorem take_flat (ws : List (List UInt8)) {k : Nat} (h : k < ws.length) : (ws.take (k + 1)).flatten = (ws.take k).flatten ++ ws.getD k [] := by
  rw [List.take_add_one, List.flatten_append, List.getD_eq_getElem?_getD]
  simp [h]
theorem take_flat_le (ws : List (List UInt8)) (k : Nat) : (ws.take k).flatten.length ≤ ws.flatten.length := by
  have h := congrArg (fun l => (List.flatten l).length) (List.take_append_drop k ws)
  simp only [List.flatten_append, List.length_append] at h
  omega

end Go.Proofs.YtaolmfgpebncjaaGreat
