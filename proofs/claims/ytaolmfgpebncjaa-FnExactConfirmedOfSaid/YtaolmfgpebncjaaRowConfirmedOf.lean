/- Whatever the input, FnExactConfirmedOf returns true, and the input reads behind the call as it read before it. Conditions: none beyond those of the given row. -/
import Derived.Test.YtaolmfgpebncjaaRows
import Derived.Test.YtaolmfgpebncjaaLzi
set_option maxRecDepth 100000
set_option linter.unusedVariables false
namespace Go.Proofs.Ytaolmfgpebncjaa.fnExactConfirmedOf
open Go.Av
theorem own : ownKnob Try.prog.godebug = none := by kernel_rfl

theorem lifted (os : Os) (started : os.Started) (H : Type) (enc : TypeId × Value → H) :
    ReturnsInHanded {} Try.checked os 9 .any (Rows.fnExactConfirmedOfSpec.pre6 enc Try.prog Try.f9 Rows.fnExactConfirmedOfRow.domain false) (Rows.fnExactConfirmedOfSpec.post enc Try.prog Try.f9 false true false false) := by
  refine lift_law (C := Try.checked) tyOk started own (by kernel_rfl) Try.func9
    (ChangeSpec.witness6 (enc := enc) (C := Try.checked) false ⟨#[], #[.agg #[.slice none 0 0, .int .i64 0]], []⟩ 8 (by kernel_rfl) (by kernel_rfl) (by kernel_rfl) (by kernel_rfl))
    rfl (fun ds h => ?_) rfl (fun _ => rfl) Try.underlying4 (by kernel_rfl) (fun t ht => ?_) (fun xs hx => ?_)
  · match ds, h with
    | [d0], _ => rfl
  · have h : t = 24 := by
      have : t ∈ [24] := ht
      simpa using this
    rcases h with rfl
    exact ⟨by kernel_rfl, by kernel_rfl, of_decide_eq_true (by kernel_rfl)⟩
  · have hx : Args ty [24] xs := hx
    match xs, hx with
    | [x0], ⟨h0, _⟩ =>
      obtain ⟨c, rfl, hc⟩ := isClient h0
      exact law_ConfirmedOf c hc
theorem over : Rows.fnExactConfirmedOfRow.holds Try.pinned (OpenSpec.ofChange Rows.fnExactConfirmedOfSpec) :=
  OpenClaim.holds_of_wide 9 Try.f9 rfl rfl rfl rfl rfl rfl rfl ⟨rfl, rfl, rfl, rfl, rfl⟩ rfl rfl rfl rfl rfl (by kernel_rfl) Try.func9 (by kernel_rfl)
    (of_decide_eq_true (by kernel_rfl)) (by unfold Func.isWrapper; first | (rw [if_pos (by decide +kernel)]; kernel_rfl) | (rw [if_neg (by decide +kernel)]; exact ⟨rfl, rfl⟩))
    (fun os started H enc _ => lifted os started H enc)
end Go.Proofs.Ytaolmfgpebncjaa.fnExactConfirmedOf
namespace Go.Proofs.Ytaolmfgpebncjaa
theorem fnExactConfirmedOf_holds : Rows.FnExactConfirmedOfSaid := fnExactConfirmedOf.over
end Go.Proofs.Ytaolmfgpebncjaa
