/- Whatever the input, FnExactIsConfirmed returns true, and the input reads behind the call as it read before it. Conditions: none beyond those of the given row. -/
import Derived.Test.YtaolmfgpebncjaaRows
import Derived.Test.YtaolmfgpebncjaaLx
set_option maxRecDepth 100000
set_option linter.unusedVariables false
namespace Go.Proofs.Ytaolmfgpebncjaa.fnExactIsConfirmed
open Go.Av
theorem own : ownKnob Try.prog.godebug = none := by kernel_rfl

theorem lifted (os : Os) (started : os.Started) (H : Type) (enc : TypeId × Value → H) :
    ReturnsInHanded {} Try.checked os 6 .any (Rows.fnExactIsConfirmedSpec.pre6 enc Try.prog Try.f6 Rows.fnExactIsConfirmedRow.domain false) (Rows.fnExactIsConfirmedSpec.post enc Try.prog Try.f6 false true false false) := by
  refine lift_law (C := Try.checked) tyOk started own (by kernel_rfl) Try.func6
    (ChangeSpec.witness6 (enc := enc) (C := Try.checked) false ⟨#[], #[.agg #[.slice none 0 0, .int .i64 0], .slice none 0 0], []⟩ 8 (by kernel_rfl) (by kernel_rfl) (by kernel_rfl) (by kernel_rfl))
    rfl (fun ds h => ?_) rfl (fun _ => rfl) Try.underlying4 (by kernel_rfl) (fun t ht => ?_) (fun xs hx => ?_)
  · match ds, h with
    | [d0, d1], _ => rfl
  · have h : t = 24 ∨ t = 44 := by
      have : t ∈ [24, 44] := ht
      simpa using this
    rcases h with rfl | rfl
    · exact ⟨by kernel_rfl, by kernel_rfl, of_decide_eq_true (by kernel_rfl)⟩
    · exact ⟨by kernel_rfl, by kernel_rfl, of_decide_eq_true (by kernel_rfl)⟩
  · have hx : Args ty [24, 44] xs := hx
    match xs, hx with
    | [x0, x1], ⟨h0, h1, _⟩ =>
      obtain ⟨c, rfl, hc⟩ := isClient h0
      obtain ⟨d, rfl, hd⟩ := isBytes h1
      exact law_IsConfirmed c d hc hd
theorem over : Rows.fnExactIsConfirmedRow.holds Try.pinned (OpenSpec.ofChange Rows.fnExactIsConfirmedSpec) :=
  OpenClaim.holds_of_wide 6 Try.f6 rfl rfl rfl rfl rfl rfl rfl ⟨rfl, rfl, rfl, rfl, rfl⟩ rfl rfl rfl rfl rfl (by kernel_rfl) Try.func6 (by kernel_rfl)
    (of_decide_eq_true (by kernel_rfl)) (by unfold Func.isWrapper; first | (rw [if_pos (by decide +kernel)]; kernel_rfl) | (rw [if_neg (by decide +kernel)]; exact ⟨rfl, rfl⟩))
    (fun os started H enc _ => lifted os started H enc)
end Go.Proofs.Ytaolmfgpebncjaa.fnExactIsConfirmed
namespace Go.Proofs.Ytaolmfgpebncjaa
theorem fnExactIsConfirmed_holds : Rows.FnExactIsConfirmedSaid := fnExactIsConfirmed.over
end Go.Proofs.Ytaolmfgpebncjaa
