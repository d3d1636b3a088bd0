/- Whatever the input, FnExactRecordsOf returns true, and the input reads behind the call as it read before it. Conditions: none beyond those of the given row. -/
import Derived.Test.YthfikpgbddpmoaaRows
import Derived.Test.YthfikpgbddpmoaaLzg
set_option maxRecDepth 100000
set_option linter.unusedVariables false
namespace Go.Proofs.Ythfikpgbddpmoaa.fnExactRecordsOf
open Go.Av
theorem own : ownKnob Try.prog.godebug = none := by kernel_rfl

theorem lifted (os : Os) (started : os.Started) (H : Type) (enc : TypeId × Value → H) :
    ReturnsInHanded {} Try.checked os 6 .any (Rows.fnExactRecordsOfSpec.pre6 enc Try.prog Try.f6 Rows.fnExactRecordsOfRow.domain false) (Rows.fnExactRecordsOfSpec.post enc Try.prog Try.f6 false true false false) := by
  refine lift_law (C := Try.checked) tyOk started own (by kernel_rfl) Try.func6
    (ChangeSpec.witness6 (enc := enc) (C := Try.checked) false ⟨#[], #[.agg #[.slice none 0 0, .slice none 0 0]], []⟩ 8 (by kernel_rfl) (by kernel_rfl) (by kernel_rfl) (by kernel_rfl))
    rfl (fun ds h => ?_) rfl (fun _ => rfl) Try.underlying4 (by kernel_rfl) (fun t ht => ?_) (fun xs hx => ?_)
  · match ds, h with
    | [d0], _ => rfl
  · have h : t = 44 := by
      have : t ∈ [44] := ht
      simpa using this
    rcases h with rfl
    exact ⟨by kernel_rfl, by kernel_rfl, of_decide_eq_true (by kernel_rfl)⟩
  · have hx : Args ty [44] xs := hx
    match xs, hx with
    | [x0], ⟨h0, _⟩ =>
      obtain ⟨a, b, rfl, ha, hb⟩ := isLog h0
      exact law_RecordsOf a b ha hb
theorem over : Rows.fnExactRecordsOfRow.holds Try.pinned (OpenSpec.ofChange Rows.fnExactRecordsOfSpec) :=
  OpenClaim.holds_of_wide 6 Try.f6 rfl rfl rfl rfl rfl rfl rfl ⟨rfl, rfl, rfl, rfl, rfl⟩ rfl rfl rfl rfl rfl (by kernel_rfl) Try.func6 (by kernel_rfl)
    (of_decide_eq_true (by kernel_rfl)) (by unfold Func.isWrapper; first | (rw [if_pos (by decide +kernel)]; kernel_rfl) | (rw [if_neg (by decide +kernel)]; exact ⟨rfl, rfl⟩))
    (fun os started H enc _ => lifted os started H enc)
end Go.Proofs.Ythfikpgbddpmoaa.fnExactRecordsOf
namespace Go.Proofs.Ythfikpgbddpmoaa
theorem fnExactRecordsOf_holds : Rows.FnExactRecordsOfSaid := fnExactRecordsOf.over
end Go.Proofs.Ythfikpgbddpmoaa
