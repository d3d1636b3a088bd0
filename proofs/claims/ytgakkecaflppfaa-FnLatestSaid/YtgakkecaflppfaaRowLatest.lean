/- Whatever the input, FnLatest returns true, and the input reads behind the call as it read before it. Conditions: none beyond those of the given row. -/
import Derived.Test.YtgakkecaflppfaaRows
import Derived.Test.YtgakkecaflppfaaLm
set_option maxRecDepth 100000
set_option linter.unusedVariables false
namespace Go.Proofs.Ytgakkecaflppfaa.fnLatest
open Go.Av
theorem own : ownKnob Try.prog.godebug = none := by kernel_rfl

theorem lifted (os : Os) (started : os.Started) (H : Type) (enc : TypeId × Value → H) :
    ReturnsInHanded {} Try.checked os 9 .any (Rows.fnLatestSpec.pre6 enc Try.prog Try.f9 Rows.fnLatestRow.domain false) (Rows.fnLatestSpec.post enc Try.prog Try.f9 false true false false) := by
  refine lift_law (C := Try.checked) tyOk started own (by kernel_rfl) Try.func9
    (ChangeSpec.witness6 (enc := enc) (C := Try.checked) false ⟨#[], #[.slice none 0 0], []⟩ 8 (by kernel_rfl) (by kernel_rfl) (by kernel_rfl) (by kernel_rfl))
    rfl (fun ds h => ?_) rfl (fun _ => rfl) Try.underlying4 (by kernel_rfl) (fun t ht => ?_) (fun xs hx => ?_)
  · match ds, h with
    | [d0], _ => rfl
  · have h : t = 27 := by
      have : t ∈ [27] := ht
      simpa using this
    rcases h with rfl
    exact ⟨by kernel_rfl, by kernel_rfl, of_decide_eq_true (by kernel_rfl)⟩
  · have hx : Args ty [27] xs := hx
    match xs, hx with
    | [x0], ⟨h0, _⟩ =>
      obtain ⟨a, rfl, ha⟩ := isBytes h0
      exact law_Latest a ha
theorem over : Rows.fnLatestRow.holds Try.pinned (OpenSpec.ofChange Rows.fnLatestSpec) :=
  OpenClaim.holds_of_wide 9 Try.f9 rfl rfl rfl rfl rfl rfl rfl ⟨rfl, rfl, rfl, rfl, rfl⟩ rfl rfl rfl rfl rfl (by kernel_rfl) Try.func9 (by kernel_rfl)
    (of_decide_eq_true (by kernel_rfl)) (by unfold Func.isWrapper; first | (rw [if_pos (by decide +kernel)]; kernel_rfl) | (rw [if_neg (by decide +kernel)]; exact ⟨rfl, rfl⟩))
    (fun os started H enc _ => lifted os started H enc)
end Go.Proofs.Ytgakkecaflppfaa.fnLatest
namespace Go.Proofs.Ytgakkecaflppfaa
theorem fnLatest_holds : Rows.FnLatestSaid := fnLatest.over
end Go.Proofs.Ytgakkecaflppfaa
