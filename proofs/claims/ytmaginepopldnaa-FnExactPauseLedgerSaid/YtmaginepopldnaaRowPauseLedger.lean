/- Whatever the input, FnExactPauseLedger returns true, and the input reads behind the call as it read before it. Conditions: none beyond those of the given row. -/
import Derived.Test.YtmaginepopldnaaRows
import Derived.Test.YtmaginepopldnaaLe
set_option maxRecDepth 100000
set_option linter.unusedVariables false
namespace Go.Proofs.Ytmaginepopldnaa.fnExactPauseLedger
open Go.Av
theorem own : ownKnob Try.prog.godebug = none := by kernel_rfl

theorem lifted (os : Os) (started : os.Started) (H : Type) (enc : TypeId × Value → H) :
    ReturnsInHanded {} Try.checked os 3 .any (Rows.fnExactPauseLedgerSpec.pre6 enc Try.prog Try.f3 Rows.fnExactPauseLedgerRow.domain false) (Rows.fnExactPauseLedgerSpec.post enc Try.prog Try.f3 false true false false) := by
  refine lift_law (C := Try.checked) tyOk started own (by kernel_rfl) Try.func3
    (ChangeSpec.witness6 (enc := enc) (C := Try.checked) false ⟨#[], #[.agg #[.int .i64 0, .int .i64 0, .int .i64 0, .int .i64 0, .slice none 0 0, .int .i64 0, .bool false], .bool false], []⟩ 8 (by kernel_rfl) (by kernel_rfl) (by kernel_rfl) (by kernel_rfl))
    rfl (fun ds h => ?_) rfl (fun _ => rfl) Try.underlying4 (by kernel_rfl) (fun t ht => ?_) (fun xs hx => ?_)
  · match ds, h with
    | [d0, d1], _ => rfl
  · have h : t = 24 ∨ t = 4 := by
      have : t ∈ [24, 4] := ht
      simpa using this
    rcases h with rfl | rfl
    · exact ⟨by kernel_rfl, by kernel_rfl, of_decide_eq_true (by kernel_rfl)⟩
    · exact ⟨by kernel_rfl, by kernel_rfl, of_decide_eq_true (by kernel_rfl)⟩
  · have hx : Args ty [24, 4] xs := hx
    match xs, hx with
    | [x0, x1], ⟨h0, h1, _⟩ =>
      obtain ⟨l, rfl, h⟩ := isLdg h0
      obtain ⟨p, rfl⟩ := isBool h1
      exact law_PauseLedger l p h
theorem over : Rows.fnExactPauseLedgerRow.holds Try.pinned (OpenSpec.ofChange Rows.fnExactPauseLedgerSpec) :=
  OpenClaim.holds_of_wide 3 Try.f3 rfl rfl rfl rfl rfl rfl rfl ⟨rfl, rfl, rfl, rfl, rfl⟩ rfl rfl rfl rfl rfl (by kernel_rfl) Try.func3 (by kernel_rfl)
    (of_decide_eq_true (by kernel_rfl)) (by unfold Func.isWrapper; first | (rw [if_pos (by decide +kernel)]; kernel_rfl) | (rw [if_neg (by decide +kernel)]; exact ⟨rfl, rfl⟩))
    (fun os started H enc _ => lifted os started H enc)
end Go.Proofs.Ytmaginepopldnaa.fnExactPauseLedger
namespace Go.Proofs.Ytmaginepopldnaa
theorem fnExactPauseLedger_holds : Rows.FnExactPauseLedgerSaid := fnExactPauseLedger.over
end Go.Proofs.Ytmaginepopldnaa
