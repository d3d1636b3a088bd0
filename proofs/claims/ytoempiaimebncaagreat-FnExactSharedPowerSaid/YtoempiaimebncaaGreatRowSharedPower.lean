/- Whatever the input, FnExactSharedPower returns true, and the input reads behind the call as it read before it. Conditions: none beyond those of the given row. -/
import Derived.Test.YtoempiaimebncaaGreatRows
import Derived.Test.YtoempiaimebncaaGreatLu
set_option maxRecDepth 100000
set_option linter.unusedVariables false
namespace Go.Proofs.YtoempiaimebncaaGreat.fnExactSharedPower
open Go.Av
theorem own : ownKnob Tryz.prog.godebug = none := by kernel_rfl

theorem lifted (os : Os) (started : os.Started) (H : Type) (enc : TypeId × Value → H) :
    ReturnsInHanded {} Tryz.checked os 3 .any (Rows.fnExactSharedPowerSpec.pre6 enc Tryz.prog Tryz.f3 Rows.fnExactSharedPowerRow.domain false) (Rows.fnExactSharedPowerSpec.post enc Tryz.prog Tryz.f3 false true false false) := by
  refine lift_law (C := Tryz.checked) tyOk started own (by kernel_rfl) Tryz.func3
    (ChangeSpec.witness6 (enc := enc) (C := Tryz.checked) false ⟨#[], #[.slice none 0 0, .slice none 0 0, .agg #[.int .i64 0, .int .i64 0, .slice none 0 0, .slice none 0 0, .slice none 0 0, .slice none 0 0]], []⟩ 8 (by kernel_rfl) (by kernel_rfl) (by kernel_rfl) (by kernel_rfl))
    rfl (fun ds h => ?_) rfl (fun _ => rfl) Tryz.underlying4 (by kernel_rfl) (fun t ht => ?_) (fun xs hx => ?_)
  · match ds, h with
    | [d0, d1, d2], _ => rfl
  · have h : t = 22 ∨ t = 22 ∨ t = 28 := by
      have : t ∈ [22, 22, 28] := ht
      simpa using this
    rcases h with rfl | rfl | rfl
    · exact ⟨by kernel_rfl, by kernel_rfl, of_decide_eq_true (by kernel_rfl)⟩
    · exact ⟨by kernel_rfl, by kernel_rfl, of_decide_eq_true (by kernel_rfl)⟩
    · exact ⟨by kernel_rfl, by kernel_rfl, of_decide_eq_true (by kernel_rfl)⟩
  · have hx : Args ty [22, 22, 28] xs := hx
    match xs, hx with
    | [x0, x1, x2], ⟨h0, h1, h2, _⟩ =>
      obtain ⟨vs, rfl, hv⟩ := isVlds h0
      obtain ⟨os, rfl, ho⟩ := isVlds h1
      obtain ⟨s, rfl, hs⟩ := isSigned h2
      exact law_SharedPower vs os s hv ho hs
theorem over : Rows.fnExactSharedPowerRow.holds Tryz.pinned (OpenSpec.ofChange Rows.fnExactSharedPowerSpec) :=
  OpenClaim.holds_of_wide 3 Tryz.f3 rfl rfl rfl rfl rfl rfl rfl ⟨rfl, rfl, rfl, rfl, rfl⟩ rfl rfl rfl rfl rfl (by kernel_rfl) Tryz.func3 (by kernel_rfl)
    (of_decide_eq_true (by kernel_rfl)) (by unfold Func.isWrapper; first | (rw [if_pos (by decide +kernel)]; kernel_rfl) | (rw [if_neg (by decide +kernel)]; exact ⟨rfl, rfl⟩))
    (fun os started H enc _ => lifted os started H enc)
end Go.Proofs.YtoempiaimebncaaGreat.fnExactSharedPower
namespace Go.Proofs.YtoempiaimebncaaGreat
theorem fnExactSharedPower_holds : Rows.FnExactSharedPowerSaid := fnExactSharedPower.over
end Go.Proofs.YtoempiaimebncaaGreat
