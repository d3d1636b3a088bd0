/- Whatever the input, FnExactCheckSign returns true, and the input reads behind the call as it read before it. Conditions: none beyond those of the given row. -/
import Derived.Test.YthfikpgbddpmoaaRows
import Derived.Test.YthfikpgbddpmoaaLq
set_option maxRecDepth 100000
set_option linter.unusedVariables false
namespace Go.Proofs.Ythfikpgbddpmoaa.fnExactCheckSign
open Go.Av
theorem own : ownKnob Try.prog.godebug = none := by kernel_rfl

theorem lifted (os : Os) (started : os.Started) (H : Type) (enc : TypeId × Value → H) :
    ReturnsInHanded {} Try.checked os 8 .any (Rows.fnExactCheckSignSpec.pre6 enc Try.prog Try.f8 Rows.fnExactCheckSignRow.domain false) (Rows.fnExactCheckSignSpec.post enc Try.prog Try.f8 false true false false) := by
  refine lift_law (C := Try.checked) tyOk started own (by kernel_rfl) Try.func8
    (ChangeSpec.witness6 (enc := enc) (C := Try.checked) false ⟨#[], #[.slice none 0 0, .slice none 0 0, .agg #[.int .i64 0, .slice none 0 0, .int .i64 0, .int .i64 0, .slice none 0 0]], []⟩ 8 (by kernel_rfl) (by kernel_rfl) (by kernel_rfl) (by kernel_rfl))
    rfl (fun ds h => ?_) rfl (fun _ => rfl) Try.underlying4 (by kernel_rfl) (fun t ht => ?_) (fun xs hx => ?_)
  · match ds, h with
    | [d0, d1, d2], _ => rfl
  · have h : t = 22 ∨ t = 22 ∨ t = 70 := by
      have : t ∈ [22, 22, 70] := ht
      simpa using this
    rcases h with rfl | rfl | rfl
    · exact ⟨by kernel_rfl, by kernel_rfl, of_decide_eq_true (by kernel_rfl)⟩
    · exact ⟨by kernel_rfl, by kernel_rfl, of_decide_eq_true (by kernel_rfl)⟩
    · exact ⟨by kernel_rfl, by kernel_rfl, of_decide_eq_true (by kernel_rfl)⟩
  · have hx : Args ty [22, 22, 70] xs := hx
    match xs, hx with
    | [x0, x1, x2], ⟨h0, h1, h2, _⟩ =>
      obtain ⟨a, rfl, ha⟩ := isBytes h0
      obtain ⟨b, rfl, hb⟩ := isBytes h1
      obtain ⟨x, rfl, hq⟩ := isSignature h2
      exact law_CheckSign a b x ha hb hq
theorem over : Rows.fnExactCheckSignRow.holds Try.pinned (OpenSpec.ofChange Rows.fnExactCheckSignSpec) :=
  OpenClaim.holds_of_wide 8 Try.f8 rfl rfl rfl rfl rfl rfl rfl ⟨rfl, rfl, rfl, rfl, rfl⟩ rfl rfl rfl rfl rfl (by kernel_rfl) Try.func8 (by kernel_rfl)
    (of_decide_eq_true (by kernel_rfl)) (by unfold Func.isWrapper; first | (rw [if_pos (by decide +kernel)]; kernel_rfl) | (rw [if_neg (by decide +kernel)]; exact ⟨rfl, rfl⟩))
    (fun os started H enc _ => lifted os started H enc)
end Go.Proofs.Ythfikpgbddpmoaa.fnExactCheckSign
namespace Go.Proofs.Ythfikpgbddpmoaa
theorem fnExactCheckSign_holds : Rows.FnExactCheckSignSaid := fnExactCheckSign.over
end Go.Proofs.Ythfikpgbddpmoaa
