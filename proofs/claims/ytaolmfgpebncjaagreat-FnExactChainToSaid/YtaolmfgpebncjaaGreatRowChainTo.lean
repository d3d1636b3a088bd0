/- Whatever the input, FnExactChainTo returns true, and the input reads behind the call as it read before it. Conditions: none beyond those of the given row. -/
import Derived.Test.YtaolmfgpebncjaaGreatRows
import Derived.Test.YtaolmfgpebncjaaGreatLzj
set_option maxRecDepth 100000
set_option linter.unusedVariables false
namespace Go.Proofs.YtaolmfgpebncjaaGreat.fnExactChainTo
open Go.Av
theorem own : ownKnob Tryz.prog.godebug = none := by kernel_rfl

theorem lifted (os : Os) (started : os.Started) (H : Type) (enc : TypeId × Value → H) :
    ReturnsInHanded {} Tryz.checked os 3 .any (Rows.fnExactChainToSpec.pre6 enc Tryz.prog Tryz.f3 Rows.fnExactChainToRow.domain false) (Rows.fnExactChainToSpec.post enc Tryz.prog Tryz.f3 false true false false) := by
  refine lift_law (C := Tryz.checked) tyOk started own (by kernel_rfl) Tryz.func3
    (ChangeSpec.witness6 (enc := enc) (C := Tryz.checked) false ⟨#[], #[.slice none 0 0, .int .i64 0], []⟩ 8 (by kernel_rfl) (by kernel_rfl) (by kernel_rfl) (by kernel_rfl))
    rfl (fun ds h => ?_) rfl (fun _ => rfl) Tryz.underlying4 (by kernel_rfl) (fun t ht => ?_) (fun xs hx => ?_)
  · match ds, h with
    | [d0, d1], _ => rfl
  · have h : t = 22 ∨ t = 2 := by
      have : t ∈ [22, 2] := ht
      simpa using this
    rcases h with rfl | rfl
    · exact ⟨by kernel_rfl, by kernel_rfl, of_decide_eq_true (by kernel_rfl)⟩
    · exact ⟨by kernel_rfl, by kernel_rfl, of_decide_eq_true (by kernel_rfl)⟩
  · have hx : Args ty [22, 2] xs := hx
    match xs, hx with
    | [x0, x1], ⟨h0, h1, _⟩ =>
      obtain ⟨l, rfl, hl⟩ := isBlks h0
      obtain ⟨i, rfl, _, _⟩ := isInt h1
      exact law_ChainTo l i hl
theorem over : Rows.fnExactChainToRow.holds Tryz.pinned (OpenSpec.ofChange Rows.fnExactChainToSpec) :=
  OpenClaim.holds_of_wide 3 Tryz.f3 rfl rfl rfl rfl rfl rfl rfl ⟨rfl, rfl, rfl, rfl, rfl⟩ rfl rfl rfl rfl rfl (by kernel_rfl) Tryz.func3 (by kernel_rfl)
    (of_decide_eq_true (by kernel_rfl)) (by unfold Func.isWrapper; first | (rw [if_pos (by decide +kernel)]; kernel_rfl) | (rw [if_neg (by decide +kernel)]; exact ⟨rfl, rfl⟩))
    (fun os started H enc _ => lifted os started H enc)
end Go.Proofs.YtaolmfgpebncjaaGreat.fnExactChainTo
namespace Go.Proofs.YtaolmfgpebncjaaGreat
theorem fnExactChainTo_holds : Rows.FnExactChainToSaid := fnExactChainTo.over
end Go.Proofs.YtaolmfgpebncjaaGreat
