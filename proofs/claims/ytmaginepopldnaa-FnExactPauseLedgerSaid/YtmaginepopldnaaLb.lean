/- The laws of LedgerFault and HeldBy. -/
import Derived.Test.YtmaginepopldnaaWe
import Derived.Test.YtmaginepopldnaaWt
set_option maxRecDepth 100000
set_option maxHeartbeats 3200000
set_option linter.unusedSimpArgs false
set_option linter.unusedVariables false
namespace Go.Proofs.Ytmaginepopldnaa
open Go.Av
attribute [local irreducible] T thenQ blockQ againQ againS WX retV retR Gt Gts GtsP okCells CV CR Av.Pure

theorem isLdg {x : AV} (h : TyV ty 24 x) : ∃ l : Ldg, x = ldgA l ∧ l.done.length ≤ 9223372036854775807 := by
  obtain ⟨h1, h2⟩ := inv_leafs h (l := [2, 2, 2, 2, 22, 2, 4]) rfl
  have h3 := h.2.2.1 ⟨_, rfl, rfl⟩
  generalize x.cells = cs at h1 h2 h3
  subst h3
  match cs, h1 with
  | [a, b, c, d, e, f, g], _ =>
    obtain ⟨a, rfl, _⟩ := h2 0 _ _ rfl rfl
    obtain ⟨b, rfl, _⟩ := h2 1 _ _ rfl rfl
    obtain ⟨c, rfl, _⟩ := h2 2 _ _ rfl rfl
    obtain ⟨d, rfl, _⟩ := h2 3 _ _ rfl rfl
    obtain ⟨ei, xs, e1, rfl, e2, e3⟩ := h2 4 _ _ rfl rfl
    obtain ⟨f, rfl, _⟩ := h2 5 _ _ rfl rfl
    obtain ⟨g, rfl⟩ := h2 6 _ _ rfl rfl
    obtain rfl := Option.some.inj e1
    obtain ⟨q, rfl⟩ := nums_of xs e3
    rw [List.length_map] at e2
    exact ⟨⟨a, b, c, d, q, f, g⟩, rfl, e2⟩

end Go.Proofs.Ytmaginepopldnaa
