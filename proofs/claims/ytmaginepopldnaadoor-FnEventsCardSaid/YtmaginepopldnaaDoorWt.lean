/- What the arguments of the laws are, read off their types. -/
import Derived.Test.YtmaginepopldnaaDoorWa
set_option maxRecDepth 100000
set_option maxHeartbeats 3200000
set_option linter.unusedVariables false
namespace Go.Proofs.YtmaginepopldnaaDoor
open Go.Av

theorem inv_leafs {t : TypeId} {x : AV} {l : List TypeId} (h : TyV ty t x) (hl : leafs ty 8 t = some l) : x.cells.length = l.length ∧ ∀ (j : Nat) (u : TypeId) (v : AV), l[j]? = some u → x.cells[j]? = some v →
    match (ty u).map TI.k with
    | some (.int k) => ∃ i, v = .int k i ∧ k.min ≤ i ∧ i ≤ k.max
    | some .bool => ∃ b, v = .bool b
    | some .str => ∃ s : ByteArray, v = .str s ∧ s.size ≤ maxLen
    | some (.slice e) => ∃ ei xs, ty e = some ei ∧ v = .ls ei.size true false xs ∧ xs.length ≤ maxLen ∧
      ∀ x ∈ xs, TyN ty 3 e x.cells ∧ x = (if isAggK ei.k then .agg x.cells else x.cells.getD 0 .undef)
    | _ => False := by
  obtain ⟨⟨ls, h1, h2, h3⟩, _⟩ := h
  rw [hl] at h1
  obtain rfl := Option.some.inj h1
  exact ⟨h2, h3⟩

theorem isBytes {x : AV} (h : TyV ty 29 x) : ∃ bs : List UInt8, x = sl1 (bA bs) ∧ bs.length ≤ 9223372036854775807 := by
  obtain ⟨h1, h2⟩ := inv_leafs h (l := [29]) rfl
  have h3 := h.2.2.2 ⟨_, rfl, rfl⟩
  obtain ⟨ei, xs, e1, rfl, e2, e3⟩ := h2 0 29 x rfl (by rw [h3]; rfl)
  obtain rfl := Option.some.inj e1
  obtain ⟨bs, rfl⟩ := bytes_of (ty := ty) (e := 5) rfl rfl rfl xs e3
  rw [bA_length] at e2
  exact ⟨bs, rfl, e2⟩

end Go.Proofs.YtmaginepopldnaaDoor
