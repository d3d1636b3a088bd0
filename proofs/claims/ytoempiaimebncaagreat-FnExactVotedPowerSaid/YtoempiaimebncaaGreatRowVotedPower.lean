/- Whatever the input, FnExactVotedPower returns true, and the input reads behind the call as it read before it. Conditions: none beyond those of the given row. -/
import Derived.Test.YtoempiaimebncaaGreatRows
import Derived.Test.YtoempiaimebncaaGreatLu
set_option maxRecDepth 100000
set_option linter.unusedVariables false
namespace Go.Proofs.YtoempiaimebncaaGreat.fnExactVotedPower
open Go.Av
theorem own : ownKnob Tryz.prog.godebug = none := by kernel_rfl

theorem lifted (os : Os) (started : os.Started) (H : Type) (enc : TypeId × Value → H) :
    ReturnsInHanded {} Tryz.checked os 4 .any (Rows.fnExactVotedPowerSpec.pre6 enc Tryz.prog Tryz.f4 Rows.fnExactVotedPowerRow.domain false) (Rows.fnExactVotedPowerSpec.post enc Tryz.prog Tryz.f4 false true false false) := by
  refine lift_law (C := Tryz.checked) tyOk started own (by kernel_rfl) Tryz.func4
    (ChangeSpec.witness6 (enc := enc) (C := Tryz.checked) false ⟨#[], #[.slice none 0 0, .agg #[.int .i64 0, .int .i64 0, .slice none 0 0, .slice none 0 0, .slice none 0 0, .slice none 0 0]], []⟩ 8 (by kernel_rfl) (by kernel_rfl) (by kernel_rfl) (by kernel_rfl))
    rfl (fun ds h => ?_) rfl (fun _ => rfl) Tryz.underlying4 (by kernel_rfl) (fun t ht => ?_) (fun xs hx => ?_)
  · match ds, h with
    | [d0, d1], _ => rfl
  · have h : t = 22 ∨ t = 28 := by
      have : t ∈ [22, 28] := ht
      simpa using this
    rcases h with rfl | rfl
    · exact ⟨by kernel_rfl, by kernel_rfl, of_decide_eq_true (by kernel_rfl)⟩
    · exact ⟨by kernel_rfl, by kernel_rfl, of_decide_eq_true (by kernel_rfl)⟩
  · have hx : Args ty [22, 28] xs := hx
    match xs, hx with
    | [x0, x1], ⟨h0, h1, _⟩ =>
      obtain ⟨vs, rfl, hv⟩ := isVlds h0
      obtain ⟨s, rfl, hs⟩ := isSigned h1
      exact law_VotedPower vs s hv hs
theorem over : Rows.fnExactVotedPowerRow.holds Tryz.pinned (OpenSpec.ofChange Rows.fnExactVotedPowerSpec) :=
  OpenClaim.holds_of_wide 4 Tryz.f4 rfl rfl rfl rfl rfl rfl rfl ⟨rfl, rfl, rfl, rfl, rfl⟩ rfl rfl rfl rfl rfl (by kernel_rfl) Tryz.func4 (by kernel_rfl)
    (of_decide_eq_true (by kernel_rfl)) (by unfold Func.isWrapper; first | (rw [if_pos (by decide +kernel)]; kernel_rfl) | (rw [if_neg (by decide +kernel)]; exact ⟨rfl, rfl⟩))
    (fun os started H enc _ => lifted os started H enc)
end Go.Proofs.YtoempiaimebncaaGreat.fnExactVotedPower
namespace Go.Proofs.YtoempiaimebncaaGreat
theorem fnExactVotedPower_holds : Rows.FnExactVotedPowerSaid := fnExactVotedPower.over
end Go.Proofs.YtoempiaimebncaaGreat
