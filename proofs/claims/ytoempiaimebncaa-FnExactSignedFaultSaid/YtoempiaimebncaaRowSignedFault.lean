/- Whatever the input, FnExactSignedFault returns true, and the input reads behind the call as it read before it. Conditions: none beyond those of the given row. -/
import Derived.Test.YtoempiaimebncaaRows
import Derived.Test.YtoempiaimebncaaLt
set_option maxRecDepth 100000
set_option linter.unusedVariables false
namespace Go.Proofs.Ytoempiaimebncaa.fnExactSignedFault
open Go.Av
theorem own : ownKnob Try.prog.godebug = none := by kernel_rfl

theorem lifted (os : Os) (started : os.Started) (H : Type) (enc : TypeId × Value → H) :
    ReturnsInHanded {} Try.checked os 3 .any (Rows.fnExactSignedFaultSpec.pre6 enc Try.prog Try.f3 Rows.fnExactSignedFaultRow.domain false) (Rows.fnExactSignedFaultSpec.post enc Try.prog Try.f3 false true false false) := by
  refine lift_law (C := Try.checked) tyOk started own (by kernel_rfl) Try.func3
    (ChangeSpec.witness6 (enc := enc) (C := Try.checked) false ⟨#[], #[.slice none 0 0, .agg #[.int .i64 0, .int .i64 0, .slice none 0 0, .slice none 0 0, .slice none 0 0, .slice none 0 0]], []⟩ 8 (by kernel_rfl) (by kernel_rfl) (by kernel_rfl) (by kernel_rfl))
    rfl (fun ds h => ?_) rfl (fun _ => rfl) Try.underlying4 (by kernel_rfl) (fun t ht => ?_) (fun xs hx => ?_)
  · match ds, h with
    | [d0, d1], _ => rfl
  · have h : t = 22 ∨ t = 28 := by
      have : t ∈ [22, 28] := ht
      simpa using this
    rcases h with rfl | rfl
    · exact ⟨by kernel_rfl, by kernel_rfl, of_decide_eq_true (by kernel_rfl)⟩
    · exact ⟨by kernel_rfl, by kernel_rfl, of_decide_eq_true (by kernel_rfl)⟩
  · have hx : Args ty [22, 28] xs := hx
    match xs, hx with
    | [x0, x1], ⟨h0, h1, _⟩ =>
      obtain ⟨vs, rfl, hv⟩ := isVlds h0
      obtain ⟨s, rfl, hs⟩ := isSigned h1
      exact law_SignedFault vs s hv hs
theorem over : Rows.fnExactSignedFaultRow.holds Try.pinned (OpenSpec.ofChange Rows.fnExactSignedFaultSpec) :=
  OpenClaim.holds_of_wide 3 Try.f3 rfl rfl rfl rfl rfl rfl rfl ⟨rfl, rfl, rfl, rfl, rfl⟩ rfl rfl rfl rfl rfl (by kernel_rfl) Try.func3 (by kernel_rfl)
    (of_decide_eq_true (by kernel_rfl)) (by unfold Func.isWrapper; first | (rw [if_pos (by decide +kernel)]; kernel_rfl) | (rw [if_neg (by decide +kernel)]; exact ⟨rfl, rfl⟩))
    (fun os started H enc _ => lifted os started H enc)
end Go.Proofs.Ytoempiaimebncaa.fnExactSignedFault
namespace Go.Proofs.Ytoempiaimebncaa
theorem fnExactSignedFault_holds : Rows.FnExactSignedFaultSaid := fnExactSignedFault.over
end Go.Proofs.Ytoempiaimebncaa
