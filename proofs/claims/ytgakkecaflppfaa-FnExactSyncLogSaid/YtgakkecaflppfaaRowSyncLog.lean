/- Whatever the input, FnExactSyncLog returns true, and the input reads behind the call as it read before it. Conditions: none beyond those of the given row. -/
import Derived.Test.YtgakkecaflppfaaRows
import Derived.Test.YtgakkecaflppfaaLh
set_option maxRecDepth 100000
set_option linter.unusedVariables false
namespace Go.Proofs.Ytgakkecaflppfaa.fnExactSyncLog
open Go.Av
theorem own : ownKnob Try.prog.godebug = none := by kernel_rfl

theorem lifted (os : Os) (started : os.Started) (H : Type) (enc : TypeId × Value → H) :
    ReturnsInHanded {} Try.checked os 12 .any (Rows.fnExactSyncLogSpec.pre6 enc Try.prog Try.f12 Rows.fnExactSyncLogRow.domain false) (Rows.fnExactSyncLogSpec.post enc Try.prog Try.f12 false true false false) := by
  refine lift_law (C := Try.checked) tyOk started own (by kernel_rfl) Try.func12
    (ChangeSpec.witness6 (enc := enc) (C := Try.checked) false ⟨#[], #[.agg #[.slice none 0 0, .slice none 0 0]], []⟩ 8 (by kernel_rfl) (by kernel_rfl) (by kernel_rfl) (by kernel_rfl))
    rfl (fun ds h => ?_) rfl (fun _ => rfl) Try.underlying4 (by kernel_rfl) (fun t ht => ?_) (fun xs hx => ?_)
  · match ds, h with
    | [d0], _ => rfl
  · have h : t = 29 := by
      have : t ∈ [29] := ht
      simpa using this
    rcases h with rfl
    exact ⟨by kernel_rfl, by kernel_rfl, of_decide_eq_true (by kernel_rfl)⟩
  · have hx : Args ty [29] xs := hx
    match xs, hx with
    | [x0], ⟨h0, _⟩ =>
      obtain ⟨a, b, rfl, ha, hb⟩ := isLog h0
      exact law_SyncLog a b ha hb
theorem over : Rows.fnExactSyncLogRow.holds Try.pinned (OpenSpec.ofChange Rows.fnExactSyncLogSpec) :=
  OpenClaim.holds_of_wide 12 Try.f12 rfl rfl rfl rfl rfl rfl rfl ⟨rfl, rfl, rfl, rfl, rfl⟩ rfl rfl rfl rfl rfl (by kernel_rfl) Try.func12 (by kernel_rfl)
    (of_decide_eq_true (by kernel_rfl)) (by unfold Func.isWrapper; first | (rw [if_pos (by decide +kernel)]; kernel_rfl) | (rw [if_neg (by decide +kernel)]; exact ⟨rfl, rfl⟩))
    (fun os started H enc _ => lifted os started H enc)
end Go.Proofs.Ytgakkecaflppfaa.fnExactSyncLog
namespace Go.Proofs.Ytgakkecaflppfaa
theorem fnExactSyncLog_holds : Rows.FnExactSyncLogSaid := fnExactSyncLog.over
end Go.Proofs.Ytgakkecaflppfaa
