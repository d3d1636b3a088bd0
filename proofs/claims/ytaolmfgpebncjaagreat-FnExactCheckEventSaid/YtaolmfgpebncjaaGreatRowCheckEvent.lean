/- Whatever the input, FnExactCheckEvent returns true, and the input reads behind the call as it read before it. Conditions: none beyond those of the given row. -/
import Derived.Test.YtaolmfgpebncjaaGreatRows
import Derived.Test.YtaolmfgpebncjaaGreatLz
set_option maxRecDepth 100000
set_option linter.unusedVariables false
namespace Go.Proofs.YtaolmfgpebncjaaGreat.fnExactCheckEvent
open Go.Av
theorem own : ownKnob Tryz.prog.godebug = none := by kernel_rfl

theorem lifted (os : Os) (started : os.Started) (H : Type) (enc : TypeId × Value → H) :
    ReturnsInHanded {} Tryz.checked os 5 .any (Rows.fnExactCheckEventSpec.pre6 enc Tryz.prog Tryz.f5 Rows.fnExactCheckEventRow.domain false) (Rows.fnExactCheckEventSpec.post enc Tryz.prog Tryz.f5 false true false false) := by
  refine lift_law (C := Tryz.checked) tyOk started own (by kernel_rfl) Tryz.func5
    (ChangeSpec.witness6 (enc := enc) (C := Tryz.checked) false ⟨#[], #[.agg #[.slice none 0 0, .int .i64 0], .slice none 0 0, .slice none 0 0, .agg #[.int .i64 0, .int .i64 0, .slice none 0 0]], []⟩ 8 (by kernel_rfl) (by kernel_rfl) (by kernel_rfl) (by kernel_rfl))
    rfl (fun ds h => ?_) rfl (fun _ => rfl) Tryz.underlying4 (by kernel_rfl) (fun t ht => ?_) (fun xs hx => ?_)
  · match ds, h with
    | [d0, d1, d2, d3], _ => rfl
  · have h : t = 52 ∨ t = 37 ∨ t = 37 ∨ t = 54 := by
      have : t ∈ [52, 37, 37, 54] := ht
      simpa using this
    rcases h with rfl | rfl | rfl | rfl
    · exact ⟨by kernel_rfl, by kernel_rfl, of_decide_eq_true (by kernel_rfl)⟩
    · exact ⟨by kernel_rfl, by kernel_rfl, of_decide_eq_true (by kernel_rfl)⟩
    · exact ⟨by kernel_rfl, by kernel_rfl, of_decide_eq_true (by kernel_rfl)⟩
    · exact ⟨by kernel_rfl, by kernel_rfl, of_decide_eq_true (by kernel_rfl)⟩
  · have hx : Args ty [52, 37, 37, 54] xs := hx
    match xs, hx with
    | [x0, x1, x2, x3], ⟨h0, h1, h2, h3, _⟩ =>
      obtain ⟨c, rfl, hc⟩ := isClient h0
      obtain ⟨d, rfl, hd⟩ := isBytes h1
      obtain ⟨e, rfl, he⟩ := isBytes h2
      obtain ⟨p, rfl, hp⟩ := isProof h3
      exact law_CheckEvent c d e p hc hd he hp
theorem over : Rows.fnExactCheckEventRow.holds Tryz.pinned (OpenSpec.ofChange Rows.fnExactCheckEventSpec) :=
  OpenClaim.holds_of_wide 5 Tryz.f5 rfl rfl rfl rfl rfl rfl rfl ⟨rfl, rfl, rfl, rfl, rfl⟩ rfl rfl rfl rfl rfl (by kernel_rfl) Tryz.func5 (by kernel_rfl)
    (of_decide_eq_true (by kernel_rfl)) (by unfold Func.isWrapper; first | (rw [if_pos (by decide +kernel)]; kernel_rfl) | (rw [if_neg (by decide +kernel)]; exact ⟨rfl, rfl⟩))
    (fun os started H enc _ => lifted os started H enc)
end Go.Proofs.YtaolmfgpebncjaaGreat.fnExactCheckEvent
namespace Go.Proofs.YtaolmfgpebncjaaGreat
theorem fnExactCheckEvent_holds : Rows.FnExactCheckEventSaid := fnExactCheckEvent.over
end Go.Proofs.YtaolmfgpebncjaaGreat
