/- Whatever the input, FnExactTryItem returns true, and the input reads behind the call as it read before it. Conditions: none beyond those of the given row. -/
import Derived.Test.YtmaginepopldnaaRows
import Derived.Test.YtmaginepopldnaaLg
set_option maxRecDepth 100000
set_option linter.unusedVariables false
namespace Go.Proofs.Ytmaginepopldnaa.fnExactTryItem
open Go.Av
theorem own : ownKnob Try.prog.godebug = none := by kernel_rfl

theorem lifted (os : Os) (started : os.Started) (H : Type) (enc : TypeId × Value → H) :
    ReturnsInHanded {} Try.checked os 7 .any (Rows.fnExactTryItemSpec.pre6 enc Try.prog Try.f7 Rows.fnExactTryItemRow.domain false) (Rows.fnExactTryItemSpec.post enc Try.prog Try.f7 false true false false) := by
  refine lift_law (C := Try.checked) tyOk started own (by kernel_rfl) Try.func7
    (ChangeSpec.witness6 (enc := enc) (C := Try.checked) false ⟨#[], #[.agg #[.int .i64 0, .slice none 0 0], .int .i64 0, .int .i64 0], []⟩ 8 (by kernel_rfl) (by kernel_rfl) (by kernel_rfl) (by kernel_rfl))
    rfl (fun ds h => ?_) rfl (fun _ => rfl) Try.underlying4 (by kernel_rfl) (fun t ht => ?_) (fun xs hx => ?_)
  · match ds, h with
    | [d0, d1, d2], _ => rfl
  · have h : t = 40 ∨ t = 2 ∨ t = 2 := by
      have : t ∈ [40, 2, 2] := ht
      simpa using this
    rcases h with rfl | rfl | rfl
    · exact ⟨by kernel_rfl, by kernel_rfl, of_decide_eq_true (by kernel_rfl)⟩
    · exact ⟨by kernel_rfl, by kernel_rfl, of_decide_eq_true (by kernel_rfl)⟩
    · exact ⟨by kernel_rfl, by kernel_rfl, of_decide_eq_true (by kernel_rfl)⟩
  · have hx : Args ty [40, 2, 2] xs := hx
    match xs, hx with
    | [x0, x1, x2], ⟨h0, h1, h2, _⟩ =>
      obtain ⟨c, q, rfl, hq⟩ := isRel h0
      obtain ⟨n, rfl, _, _⟩ := isInt h1
      obtain ⟨t, rfl, _, _⟩ := isInt h2
      exact law_TryItem c q n t hq
theorem over : Rows.fnExactTryItemRow.holds Try.pinned (OpenSpec.ofChange Rows.fnExactTryItemSpec) :=
  OpenClaim.holds_of_wide 7 Try.f7 rfl rfl rfl rfl rfl rfl rfl ⟨rfl, rfl, rfl, rfl, rfl⟩ rfl rfl rfl rfl rfl (by kernel_rfl) Try.func7 (by kernel_rfl)
    (of_decide_eq_true (by kernel_rfl)) (by unfold Func.isWrapper; first | (rw [if_pos (by decide +kernel)]; kernel_rfl) | (rw [if_neg (by decide +kernel)]; exact ⟨rfl, rfl⟩))
    (fun os started H enc _ => lifted os started H enc)
end Go.Proofs.Ytmaginepopldnaa.fnExactTryItem
namespace Go.Proofs.Ytmaginepopldnaa
theorem fnExactTryItem_holds : Rows.FnExactTryItemSaid := fnExactTryItem.over
end Go.Proofs.Ytmaginepopldnaa
