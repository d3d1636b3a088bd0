/- The law of RecoverLog. -/
import Derived.Test.YthfikpgbddpmoaaXl
import Derived.Test.YthfikpgbddpmoaaWt
set_option maxRecDepth 100000
set_option maxHeartbeats 3200000
set_option linter.unusedSimpArgs false
set_option linter.unusedVariables false
namespace Go.Proofs.Ythfikpgbddpmoaa
open Go.Av
attribute [local irreducible] T thenQ blockQ againQ againS WX retV retR Gt Gts GtsP okCells CV CR Av.Pure

theorem isLog {x : AV} (h : TyV ty 44 x) : ∃ a b : List UInt8, x = logA a b ∧ a.length ≤ 9223372036854775807 ∧ b.length ≤ 9223372036854775807 := by
  obtain ⟨h1, h2⟩ := inv_leafs h (l := [22, 22]) rfl
  have h3 := h.2.2.1 ⟨_, rfl, rfl⟩
  generalize x.cells = cs at h1 h2 h3
  subst h3
  match cs, h1 with
  | [a, b], _ =>
    obtain ⟨ei, xs, e1, rfl, e2, e3⟩ := h2 0 _ _ rfl rfl
    obtain ⟨fi, ys, f1, rfl, f2, f3⟩ := h2 1 _ _ rfl rfl
    obtain rfl := Option.some.inj e1
    obtain rfl := Option.some.inj f1
    obtain ⟨q, rfl⟩ := bytes_of rfl rfl rfl xs e3
    obtain ⟨r, rfl⟩ := bytes_of rfl rfl rfl ys f3
    rw [bA_length] at e2 f2
    exact ⟨q, r, rfl, e2, f2⟩

end Go.Proofs.Ythfikpgbddpmoaa
