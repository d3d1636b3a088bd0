/- Whatever the input, FnExactCrashLog returns true, and the input reads behind the call as it read before it. Conditions: none beyond those of the given row. -/
import Derived.Test.YtgakkecaflppfaaRows
import Derived.Test.YtgakkecaflppfaaLi
set_option maxRecDepth 100000
set_option linter.unusedVariables false
namespace Go.Proofs.Ytgakkecaflppfaa.fnExactCrashLog
open Go.Av
theorem own : ownKnob Try.prog.godebug = none := by kernel_rfl

theorem lifted (os : Os) (started : os.Started) (H : Type) (enc : TypeId × Value → H) :
    ReturnsInHanded {} Try.checked os 13 .any (Rows.fnExactCrashLogSpec.pre6 enc Try.prog Try.f13 Rows.fnExactCrashLogRow.domain false) (Rows.fnExactCrashLogSpec.post enc Try.prog Try.f13 false true false false) := by
  refine lift_law (C := Try.checked) tyOk started own (by kernel_rfl) Try.func13
    (ChangeSpec.witness6 (enc := enc) (C := Try.checked) false ⟨#[], #[.agg #[.slice none 0 0, .slice none 0 0], .int .i64 0], []⟩ 8 (by kernel_rfl) (by kernel_rfl) (by kernel_rfl) (by kernel_rfl))
    rfl (fun ds h => ?_) rfl (fun _ => rfl) Try.underlying4 (by kernel_rfl) (fun t ht => ?_) (fun xs hx => ?_)
  · match ds, h with
    | [d0, d1], _ => rfl
  · have h : t = 29 ∨ t = 2 := by
      have : t ∈ [29, 2] := ht
      simpa using this
    rcases h with rfl | rfl
    · exact ⟨by kernel_rfl, by kernel_rfl, of_decide_eq_true (by kernel_rfl)⟩
    · exact ⟨by kernel_rfl, by kernel_rfl, of_decide_eq_true (by kernel_rfl)⟩
  · have hx : Args ty [29, 2] xs := hx
    match xs, hx with
    | [x0, x1], ⟨h0, h1, _⟩ =>
      obtain ⟨a, b, rfl, ha, hb⟩ := isLog h0
      obtain ⟨k, rfl, _, _⟩ := isInt h1
      exact law_CrashLog a b k ha hb
theorem over : Rows.fnExactCrashLogRow.holds Try.pinned (OpenSpec.ofChange Rows.fnExactCrashLogSpec) :=
  OpenClaim.holds_of_wide 13 Try.f13 rfl rfl rfl rfl rfl rfl rfl ⟨rfl, rfl, rfl, rfl, rfl⟩ rfl rfl rfl rfl rfl (by kernel_rfl) Try.func13 (by kernel_rfl)
    (of_decide_eq_true (by kernel_rfl)) (by unfold Func.isWrapper; first | (rw [if_pos (by decide +kernel)]; kernel_rfl) | (rw [if_neg (by decide +kernel)]; exact ⟨rfl, rfl⟩))
    (fun os started H enc _ => lifted os started H enc)
end Go.Proofs.Ytgakkecaflppfaa.fnExactCrashLog
namespace Go.Proofs.Ytgakkecaflppfaa
theorem fnExactCrashLog_holds : Rows.FnExactCrashLogSaid := fnExactCrashLog.over
end Go.Proofs.Ytgakkecaflppfaa
