/- Whatever the input, FnExactBrokeDepth returns true, and the input reads behind the call as it read before it. Conditions: none beyond those of the given row. -/
import Derived.Test.YtaolmfgpebncjaaRows
import Derived.Test.YtaolmfgpebncjaaLx
set_option maxRecDepth 100000
set_option linter.unusedVariables false
namespace Go.Proofs.Ytaolmfgpebncjaa.fnExactBrokeDepth
open Go.Av
theorem own : ownKnob Try.prog.godebug = none := by kernel_rfl

theorem lifted (os : Os) (started : os.Started) (H : Type) (enc : TypeId × Value → H) :
    ReturnsInHanded {} Try.checked os 7 .any (Rows.fnExactBrokeDepthSpec.pre6 enc Try.prog Try.f7 Rows.fnExactBrokeDepthRow.domain false) (Rows.fnExactBrokeDepthSpec.post enc Try.prog Try.f7 false true false false) := by
  refine lift_law (C := Try.checked) tyOk started own (by kernel_rfl) Try.func7
    (ChangeSpec.witness6 (enc := enc) (C := Try.checked) false ⟨#[], #[.agg #[.slice none 0 0, .int .i64 0], .agg #[.slice none 0 0, .int .i64 0]], []⟩ 8 (by kernel_rfl) (by kernel_rfl) (by kernel_rfl) (by kernel_rfl))
    rfl (fun ds h => ?_) rfl (fun _ => rfl) Try.underlying4 (by kernel_rfl) (fun t ht => ?_) (fun xs hx => ?_)
  · match ds, h with
    | [d0, d1], _ => rfl
  · have h : t = 24 ∨ t = 24 := by
      have : t ∈ [24, 24] := ht
      simpa using this
    rcases h with rfl | rfl
    · exact ⟨by kernel_rfl, by kernel_rfl, of_decide_eq_true (by kernel_rfl)⟩
    · exact ⟨by kernel_rfl, by kernel_rfl, of_decide_eq_true (by kernel_rfl)⟩
  · have hx : Args ty [24, 24] xs := hx
    match xs, hx with
    | [x0, x1], ⟨h0, h1, _⟩ =>
      obtain ⟨a, rfl, ha⟩ := isClient h0
      obtain ⟨b, rfl, hb⟩ := isClient h1
      exact law_BrokeDepth a b ha hb
theorem over : Rows.fnExactBrokeDepthRow.holds Try.pinned (OpenSpec.ofChange Rows.fnExactBrokeDepthSpec) :=
  OpenClaim.holds_of_wide 7 Try.f7 rfl rfl rfl rfl rfl rfl rfl ⟨rfl, rfl, rfl, rfl, rfl⟩ rfl rfl rfl rfl rfl (by kernel_rfl) Try.func7 (by kernel_rfl)
    (of_decide_eq_true (by kernel_rfl)) (by unfold Func.isWrapper; first | (rw [if_pos (by decide +kernel)]; kernel_rfl) | (rw [if_neg (by decide +kernel)]; exact ⟨rfl, rfl⟩))
    (fun os started H enc _ => lifted os started H enc)
end Go.Proofs.Ytaolmfgpebncjaa.fnExactBrokeDepth
namespace Go.Proofs.Ytaolmfgpebncjaa
theorem fnExactBrokeDepth_holds : Rows.FnExactBrokeDepthSaid := fnExactBrokeDepth.over
end Go.Proofs.Ytaolmfgpebncjaa
