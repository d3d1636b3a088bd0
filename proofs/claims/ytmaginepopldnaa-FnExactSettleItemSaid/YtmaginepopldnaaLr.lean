/- Arguments that are relayers. -/
import Derived.Test.YtmaginepopldnaaWf
import Derived.Test.YtmaginepopldnaaWt
set_option maxRecDepth 100000
set_option maxHeartbeats 3200000
set_option linter.unusedSimpArgs false
set_option linter.unusedVariables false
namespace Go.Proofs.Ytmaginepopldnaa
open Go.Av
attribute [local irreducible] T thenQ blockQ againQ againS WX retV retR Gt Gts GtsP okCells CV CR Av.Pure

theorem isItem {x : AV} {ei : TI} (hk : isAggK ei.k = true) (h : TyN ty 1 135 x.cells ∧ x = (if isAggK ei.k then .agg x.cells else x.cells.getD 0 .undef)) : ∃ a : Itm, x = itemA a := by
  obtain ⟨⟨ls, h1, h2, h3⟩, h4⟩ := h
  have hl : leafs ty 8 135 = some [2, 2, 2] := rfl
  rw [hl] at h1
  obtain rfl := Option.some.inj h1
  rw [if_pos hk] at h4
  generalize x.cells = cs at h2 h3 h4
  subst h4
  match cs, h2 with
  | [a, b, c], _ =>
    obtain ⟨i, rfl, _⟩ := h3 0 _ _ rfl rfl
    obtain ⟨j, rfl, _⟩ := h3 1 _ _ rfl rfl
    obtain ⟨k, rfl, _⟩ := h3 2 _ _ rfl rfl
    exact ⟨⟨i, j, k⟩, rfl⟩

theorem isRel {x : AV} (h : TyV ty 40 x) : ∃ (c : Int) (q : List Itm), x = relA c q ∧ q.length ≤ 9223372036854775807 := by
  obtain ⟨h1, h2⟩ := inv_leafs h (l := [2, 38]) rfl
  have h3 := h.2.2.1 ⟨_, rfl, rfl⟩
  generalize x.cells = cs at h1 h2 h3
  subst h3
  match cs, h1 with
  | [a, b], _ =>
    obtain ⟨c, rfl, _⟩ := h2 0 _ _ rfl rfl
    obtain ⟨ei, xs, e1, rfl, e2, e3⟩ := h2 1 _ _ rfl rfl
    obtain rfl := Option.some.inj e1
    obtain ⟨q, rfl⟩ := list_of itemA (fun x hx => isItem rfl hx) xs e3
    rw [List.length_map] at e2
    exact ⟨c, q, rfl, e2⟩

end Go.Proofs.Ytmaginepopldnaa
