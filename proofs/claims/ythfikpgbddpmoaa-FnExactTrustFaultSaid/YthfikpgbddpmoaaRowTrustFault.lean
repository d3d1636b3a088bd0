/- Whatever the input, FnExactTrustFault returns true, and the input reads behind the call as it read before it. Conditions: none beyond those of the given row. -/
import Derived.Test.YthfikpgbddpmoaaRows
import Derived.Test.YthfikpgbddpmoaaLs
set_option maxRecDepth 100000
set_option linter.unusedVariables false
namespace Go.Proofs.Ythfikpgbddpmoaa.fnExactTrustFault
open Go.Av
theorem own : ownKnob Try.prog.godebug = none := by kernel_rfl

theorem lifted (os : Os) (started : os.Started) (H : Type) (enc : TypeId × Value → H) :
    ReturnsInHanded {} Try.checked os 10 .any (Rows.fnExactTrustFaultSpec.pre6 enc Try.prog Try.f10 Rows.fnExactTrustFaultRow.domain false) (Rows.fnExactTrustFaultSpec.post enc Try.prog Try.f10 false true false false) := by
  refine lift_law (C := Try.checked) tyOk started own (by kernel_rfl) Try.func10
    (ChangeSpec.witness6 (enc := enc) (C := Try.checked) false ⟨#[], #[.agg #[.int .i64 0, .int .i64 0, .slice none 0 0, .slice none 0 0, .slice none 0 0, .slice none 0 0, .int .i64 0, .bool false, .slice none 0 0, .int .i64 0]], []⟩ 8 (by kernel_rfl) (by kernel_rfl) (by kernel_rfl) (by kernel_rfl))
    rfl (fun ds h => ?_) rfl (fun _ => rfl) Try.underlying4 (by kernel_rfl) (fun t ht => ?_) (fun xs hx => ?_)
  · match ds, h with
    | [d0], _ => rfl
  · have h : t = 90 := by
      have : t ∈ [90] := ht
      simpa using this
    rcases h with rfl
    exact ⟨by kernel_rfl, by kernel_rfl, of_decide_eq_true (by kernel_rfl)⟩
  · have hx : Args ty [90] xs := hx
    match xs, hx with
    | [x0], ⟨h0, _⟩ =>
      obtain ⟨t, rfl, ht⟩ := isTrust h0
      exact law_TrustFault t ht
theorem over : Rows.fnExactTrustFaultRow.holds Try.pinned (OpenSpec.ofChange Rows.fnExactTrustFaultSpec) :=
  OpenClaim.holds_of_wide 10 Try.f10 rfl rfl rfl rfl rfl rfl rfl ⟨rfl, rfl, rfl, rfl, rfl⟩ rfl rfl rfl rfl rfl (by kernel_rfl) Try.func10 (by kernel_rfl)
    (of_decide_eq_true (by kernel_rfl)) (by unfold Func.isWrapper; first | (rw [if_pos (by decide +kernel)]; kernel_rfl) | (rw [if_neg (by decide +kernel)]; exact ⟨rfl, rfl⟩))
    (fun os started H enc _ => lifted os started H enc)
end Go.Proofs.Ythfikpgbddpmoaa.fnExactTrustFault
namespace Go.Proofs.Ythfikpgbddpmoaa
theorem fnExactTrustFault_holds : Rows.FnExactTrustFaultSaid := fnExactTrustFault.over
end Go.Proofs.Ythfikpgbddpmoaa
