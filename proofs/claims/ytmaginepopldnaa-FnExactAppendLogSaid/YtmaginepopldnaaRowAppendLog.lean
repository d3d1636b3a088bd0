/- Whatever the input, FnExactAppendLog returns true, and the input reads behind the call as it read before it. Conditions: none beyond those of the given row. -/
import Derived.Test.YtmaginepopldnaaRows
import Derived.Test.YtmaginepopldnaaLl
set_option maxRecDepth 100000
set_option linter.unusedVariables false
namespace Go.Proofs.Ytmaginepopldnaa.fnExactAppendLog
open Go.Av
theorem own : ownKnob Try.prog.godebug = none := by kernel_rfl

theorem lifted (os : Os) (started : os.Started) (H : Type) (enc : TypeId × Value → H) :
    ReturnsInHanded {} Try.checked os 10 .any (Rows.fnExactAppendLogSpec.pre6 enc Try.prog Try.f10 Rows.fnExactAppendLogRow.domain false) (Rows.fnExactAppendLogSpec.post enc Try.prog Try.f10 false true false false) := by
  refine lift_law (C := Try.checked) tyOk started own (by kernel_rfl) Try.func10
    (ChangeSpec.witness6 (enc := enc) (C := Try.checked) false ⟨#[], #[.agg #[.slice none 0 0, .slice none 0 0], .slice none 0 0], []⟩ 8 (by kernel_rfl) (by kernel_rfl) (by kernel_rfl) (by kernel_rfl))
    rfl (fun ds h => ?_) rfl (fun _ => rfl) Try.underlying4 (by kernel_rfl) (fun t ht => ?_) (fun xs hx => ?_)
  · match ds, h with
    | [d0, d1], _ => rfl
  · have h : t = 80 ∨ t = 54 := by
      have : t ∈ [80, 54] := ht
      simpa using this
    rcases h with rfl | rfl
    · exact ⟨by kernel_rfl, by kernel_rfl, of_decide_eq_true (by kernel_rfl)⟩
    · exact ⟨by kernel_rfl, by kernel_rfl, of_decide_eq_true (by kernel_rfl)⟩
  · have hx : Args ty [80, 54] xs := hx
    match xs, hx with
    | [x0, x1], ⟨h0, h1, _⟩ =>
      obtain ⟨a, b, rfl, ha, hb⟩ := isLog h0
      obtain ⟨p, rfl, hp⟩ := isBytes h1
      exact law_AppendLog a b p ha hb hp
theorem over : Rows.fnExactAppendLogRow.holds Try.pinned (OpenSpec.ofChange Rows.fnExactAppendLogSpec) :=
  OpenClaim.holds_of_wide 10 Try.f10 rfl rfl rfl rfl rfl rfl rfl ⟨rfl, rfl, rfl, rfl, rfl⟩ rfl rfl rfl rfl rfl (by kernel_rfl) Try.func10 (by kernel_rfl)
    (of_decide_eq_true (by kernel_rfl)) (by unfold Func.isWrapper; first | (rw [if_pos (by decide +kernel)]; kernel_rfl) | (rw [if_neg (by decide +kernel)]; exact ⟨rfl, rfl⟩))
    (fun os started H enc _ => lifted os started H enc)
end Go.Proofs.Ytmaginepopldnaa.fnExactAppendLog
namespace Go.Proofs.Ytmaginepopldnaa
theorem fnExactAppendLog_holds : Rows.FnExactAppendLogSaid := fnExactAppendLog.over
end Go.Proofs.Ytmaginepopldnaa
