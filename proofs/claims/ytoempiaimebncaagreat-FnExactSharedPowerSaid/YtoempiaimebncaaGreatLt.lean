/- The law of signed heads' faults. -/
import Derived.Test.YtoempiaimebncaaGreatZn
set_option maxRecDepth 100000
set_option maxHeartbeats 3200000
set_option linter.unusedSimpArgs false
set_option linter.unusedVariables false
namespace Go.Proofs.YtoempiaimebncaaGreat
open Go.Av
attribute [local irreducible] T thenQ blockQ againQ againS WX retV retR Gt Gts GtsP okCells CV CR Av.Pure
attribute [local irreducible] sgdFault

theorem vld_keys {vs : List Vld} (h : listW VldW vs ≤ 1048576) : ∀ v ∈ vs, v.key.length ≤ 1048576 := fun v hv => by
  have h1 := listW_mem VldW vs hv
  have h2 : VldW v = v.key.length := rfl
  omega

theorem isVlds {x : AV} (h : TyV ty 22 x) : ∃ l : List Vld, x = vldAS l ∧ listR VldR l := by
  obtain ⟨h1, h2⟩ := inv_leafs h (l := [22]) rfl
  have h3 := h.2.2.2 ⟨_, rfl, rfl⟩
  obtain ⟨ei, xs, e1, rfl, e2, e3⟩ := h2 0 22 x rfl (by rw [h3]; rfl)
  obtain rfl := Option.some.inj e1
  obtain ⟨q, rfl, hq⟩ := list_ofP vldA (fun x hx => elemValidator rfl hx) xs e3
  rw [List.length_map] at e2
  exact ⟨q, rfl, e2, hq⟩

end Go.Proofs.YtoempiaimebncaaGreat
