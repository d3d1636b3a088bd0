/- Whatever the input, FnExactSettleItem returns true, and the input reads behind the call as it read before it. Conditions: none beyond those of the given row. -/
import Derived.Test.YtmaginepopldnaaRows
import Derived.Test.YtmaginepopldnaaLj
set_option maxRecDepth 100000
set_option linter.unusedVariables false
namespace Go.Proofs.Ytmaginepopldnaa.fnExactSettleItem
open Go.Av
theorem own : ownKnob Try.prog.godebug = none := by kernel_rfl

theorem lifted (os : Os) (started : os.Started) (H : Type) (enc : TypeId × Value → H) :
    ReturnsInHanded {} Try.checked os 6 .any (Rows.fnExactSettleItemSpec.pre6 enc Try.prog Try.f6 Rows.fnExactSettleItemRow.domain false) (Rows.fnExactSettleItemSpec.post enc Try.prog Try.f6 false true false false) := by
  refine lift_law (C := Try.checked) tyOk started own (by kernel_rfl) Try.func6
    (ChangeSpec.witness6 (enc := enc) (C := Try.checked) false ⟨#[], #[.agg #[.int .i64 0, .slice none 0 0], .int .i64 0], []⟩ 8 (by kernel_rfl) (by kernel_rfl) (by kernel_rfl) (by kernel_rfl))
    rfl (fun ds h => ?_) rfl (fun _ => rfl) Try.underlying4 (by kernel_rfl) (fun t ht => ?_) (fun xs hx => ?_)
  · match ds, h with
    | [d0, d1], _ => rfl
  · have h : t = 40 ∨ t = 2 := by
      have : t ∈ [40, 2] := ht
      simpa using this
    rcases h with rfl | rfl
    · exact ⟨by kernel_rfl, by kernel_rfl, of_decide_eq_true (by kernel_rfl)⟩
    · exact ⟨by kernel_rfl, by kernel_rfl, of_decide_eq_true (by kernel_rfl)⟩
  · have hx : Args ty [40, 2] xs := hx
    match xs, hx with
    | [x0, x1], ⟨h0, h1, _⟩ =>
      obtain ⟨c, q, rfl, hq⟩ := isRel h0
      obtain ⟨n, rfl, _, _⟩ := isInt h1
      exact law_SettleItem c q n hq
theorem over : Rows.fnExactSettleItemRow.holds Try.pinned (OpenSpec.ofChange Rows.fnExactSettleItemSpec) :=
  OpenClaim.holds_of_wide 6 Try.f6 rfl rfl rfl rfl rfl rfl rfl ⟨rfl, rfl, rfl, rfl, rfl⟩ rfl rfl rfl rfl rfl (by kernel_rfl) Try.func6 (by kernel_rfl)
    (of_decide_eq_true (by kernel_rfl)) (by unfold Func.isWrapper; first | (rw [if_pos (by decide +kernel)]; kernel_rfl) | (rw [if_neg (by decide +kernel)]; exact ⟨rfl, rfl⟩))
    (fun os started H enc _ => lifted os started H enc)
end Go.Proofs.Ytmaginepopldnaa.fnExactSettleItem
namespace Go.Proofs.Ytmaginepopldnaa
theorem fnExactSettleItem_holds : Rows.FnExactSettleItemSaid := fnExactSettleItem.over
end Go.Proofs.Ytmaginepopldnaa
