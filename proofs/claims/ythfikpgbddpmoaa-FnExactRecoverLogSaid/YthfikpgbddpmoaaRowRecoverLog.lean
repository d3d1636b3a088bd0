/- Whatever the input, FnExactRecoverLog returns true, and the input reads behind the call as it read before it. Conditions: none beyond those of the given row. -/
import Derived.Test.YthfikpgbddpmoaaRows
import Derived.Test.YthfikpgbddpmoaaLn
set_option maxRecDepth 100000
set_option linter.unusedVariables false
namespace Go.Proofs.Ythfikpgbddpmoaa.fnExactRecoverLog
open Go.Av
theorem own : ownKnob Try.prog.godebug = none := by kernel_rfl

theorem lifted (os : Os) (started : os.Started) (H : Type) (enc : TypeId × Value → H) :
    ReturnsInHanded {} Try.checked os 5 .any (Rows.fnExactRecoverLogSpec.pre6 enc Try.prog Try.f5 Rows.fnExactRecoverLogRow.domain false) (Rows.fnExactRecoverLogSpec.post enc Try.prog Try.f5 false true false false) := by
  refine lift_law (C := Try.checked) tyOk started own (by kernel_rfl) Try.func5
    (ChangeSpec.witness6 (enc := enc) (C := Try.checked) false ⟨#[], #[.agg #[.slice none 0 0, .slice none 0 0]], []⟩ 8 (by kernel_rfl) (by kernel_rfl) (by kernel_rfl) (by kernel_rfl))
    rfl (fun ds h => ?_) rfl (fun _ => rfl) Try.underlying4 (by kernel_rfl) (fun t ht => ?_) (fun xs hx => ?_)
  · match ds, h with
    | [d0], _ => rfl
  · have h : t = 44 := by
      have : t ∈ [44] := ht
      simpa using this
    rcases h with rfl
    exact ⟨by kernel_rfl, by kernel_rfl, of_decide_eq_true (by kernel_rfl)⟩
  · have hx : Args ty [44] xs := hx
    match xs, hx with
    | [x0], ⟨h0, _⟩ =>
      obtain ⟨a, b, rfl, ha, hb⟩ := isLog h0
      exact law_RecoverLog a b ha hb
theorem over : Rows.fnExactRecoverLogRow.holds Try.pinned (OpenSpec.ofChange Rows.fnExactRecoverLogSpec) :=
  OpenClaim.holds_of_wide 5 Try.f5 rfl rfl rfl rfl rfl rfl rfl ⟨rfl, rfl, rfl, rfl, rfl⟩ rfl rfl rfl rfl rfl (by kernel_rfl) Try.func5 (by kernel_rfl)
    (of_decide_eq_true (by kernel_rfl)) (by unfold Func.isWrapper; first | (rw [if_pos (by decide +kernel)]; kernel_rfl) | (rw [if_neg (by decide +kernel)]; exact ⟨rfl, rfl⟩))
    (fun os started H enc _ => lifted os started H enc)
end Go.Proofs.Ythfikpgbddpmoaa.fnExactRecoverLog
namespace Go.Proofs.Ythfikpgbddpmoaa
theorem fnExactRecoverLog_holds : Rows.FnExactRecoverLogSaid := fnExactRecoverLog.over
end Go.Proofs.Ythfikpgbddpmoaa
