/- Whatever the input, FnExactReadRecords returns true, and the input reads behind the call as it read before it. Conditions: none beyond those of the given row. -/
import Derived.Test.YtmaginepopldnaaRows
import Derived.Test.YtmaginepopldnaaLzf
set_option maxRecDepth 100000
set_option linter.unusedVariables false
namespace Go.Proofs.Ytmaginepopldnaa.fnExactReadRecords
open Go.Av
theorem own : ownKnob Try.prog.godebug = none := by kernel_rfl

theorem lifted (os : Os) (started : os.Started) (H : Type) (enc : TypeId × Value → H) :
    ReturnsInHanded {} Try.checked os 9 .any (Rows.fnExactReadRecordsSpec.pre6 enc Try.prog Try.f9 Rows.fnExactReadRecordsRow.domain false) (Rows.fnExactReadRecordsSpec.post enc Try.prog Try.f9 false true false false) := by
  refine lift_law (C := Try.checked) tyOk started own (by kernel_rfl) Try.func9
    (ChangeSpec.witness6 (enc := enc) (C := Try.checked) false ⟨#[], #[.slice none 0 0], []⟩ 8 (by kernel_rfl) (by kernel_rfl) (by kernel_rfl) (by kernel_rfl))
    rfl (fun ds h => ?_) rfl (fun _ => rfl) Try.underlying4 (by kernel_rfl) (fun t ht => ?_) (fun xs hx => ?_)
  · match ds, h with
    | [d0], _ => rfl
  · have h : t = 54 := by
      have : t ∈ [54] := ht
      simpa using this
    rcases h with rfl
    exact ⟨by kernel_rfl, by kernel_rfl, of_decide_eq_true (by kernel_rfl)⟩
  · have hx : Args ty [54] xs := hx
    match xs, hx with
    | [x0], ⟨h0, _⟩ =>
      obtain ⟨d, rfl, hd⟩ := isBytes h0
      exact law_ReadRecords d hd
theorem over : Rows.fnExactReadRecordsRow.holds Try.pinned (OpenSpec.ofChange Rows.fnExactReadRecordsSpec) :=
  OpenClaim.holds_of_wide 9 Try.f9 rfl rfl rfl rfl rfl rfl rfl ⟨rfl, rfl, rfl, rfl, rfl⟩ rfl rfl rfl rfl rfl (by kernel_rfl) Try.func9 (by kernel_rfl)
    (of_decide_eq_true (by kernel_rfl)) (by unfold Func.isWrapper; first | (rw [if_pos (by decide +kernel)]; kernel_rfl) | (rw [if_neg (by decide +kernel)]; exact ⟨rfl, rfl⟩))
    (fun os started H enc _ => lifted os started H enc)
end Go.Proofs.Ytmaginepopldnaa.fnExactReadRecords
namespace Go.Proofs.Ytmaginepopldnaa
theorem fnExactReadRecords_holds : Rows.FnExactReadRecordsSaid := fnExactReadRecords.over
end Go.Proofs.Ytmaginepopldnaa
