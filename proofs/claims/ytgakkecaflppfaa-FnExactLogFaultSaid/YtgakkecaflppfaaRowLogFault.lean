/- Whatever the input, FnExactLogFault returns true, and the input reads behind the call as it read before it. Conditions: none beyond those of the given row. -/
import Derived.Test.YtgakkecaflppfaaRows
import Derived.Test.YtgakkecaflppfaaWords2
namespace Go.Proofs.Ytgakkecaflppfaa.fnExactLogFault
open Go.Av
set_option linter.unusedVariables false
theorem own : ownKnob Try.prog.godebug = none := by kernel_rfl

/-- A log's cells. -/
theorem isLog {t : TypeId} {x : AV} (ht : t = 29 ∨ t = 32) (h : TyV ty t x) : ∃ a b : List UInt8, x = logA a b ∧ a.length ≤ 9223372036854775807 ∧ b.length ≤ 9223372036854775807 := by
  obtain ⟨⟨ls, h1, h2, h3⟩, _, h4⟩ := h
  have hl : leafs ty 8 t = some [27, 27] := by rcases ht with rfl | rfl <;> rfl
  rw [hl] at h1
  obtain rfl := Option.some.inj h1
  obtain ⟨c, c', hc⟩ : ∃ c c', x.cells = [c, c'] := by
    have h2' : x.cells.length = 2 := h2
    match x.cells, h2' with
    | [c, c'], _ => exact ⟨c, c', rfl⟩
  have hx : x = .agg [c, c'] := by rw [← hc]; exact h4 (by rcases ht with rfl | rfl <;> exact ⟨_, rfl, rfl⟩)
  rw [hc] at h3
  obtain ⟨ei, xs, e1, rfl, e2, e3⟩ := h3 0 27 c rfl rfl
  obtain ⟨ei', xs', g1, rfl, g2, g3⟩ := h3 1 27 c' rfl rfl
  obtain rfl := Option.some.inj e1
  obtain rfl := Option.some.inj g1
  obtain ⟨bs, rfl⟩ := bytes_of (ty := ty) (e := 5) rfl rfl rfl xs e3
  obtain ⟨bs', rfl⟩ := bytes_of (ty := ty) (e := 5) rfl rfl rfl xs' g3
  rw [bA_length] at e2 g2
  exact ⟨bs, bs', hx, e2, g2⟩

theorem lifted (os : Os) (started : os.Started) (H : Type) (enc : TypeId × Value → H) :
    ReturnsInHanded {} Try.checked os 4 .any (Rows.fnExactLogFaultSpec.pre6 enc Try.prog Try.f4 Rows.fnExactLogFaultRow.domain false) (Rows.fnExactLogFaultSpec.post enc Try.prog Try.f4 false true false false) := by
  refine lift_law (C := Try.checked) tyOk started own (by kernel_rfl) Try.func4
    (ChangeSpec.witness6 (enc := enc) (C := Try.checked) false ⟨#[], #[.agg #[.slice none 0 0, .slice none 0 0]], []⟩ 8 (by kernel_rfl) (by kernel_rfl) (by kernel_rfl) (by kernel_rfl))
    rfl (fun ds h => ?_) rfl (fun _ => rfl) Try.underlying4 (by kernel_rfl) (fun t ht => ?_) (fun xs hx => ?_)
  · match ds, h with
    | [d], _ => rfl
  · obtain rfl : t = 29 := by
      have : t ∈ [29] := ht
      simpa using this
    exact ⟨by kernel_rfl, by kernel_rfl, of_decide_eq_true (by kernel_rfl)⟩
  · have hx : Args ty [29] xs := hx
    match xs, hx with
    | [x], ⟨h, _⟩ =>
      obtain ⟨a, b, rfl, ha, hb⟩ := isLog (.inl rfl) h
      exact law_LogFault a b ha hb
theorem over : Rows.fnExactLogFaultRow.holds Try.pinned (OpenSpec.ofChange Rows.fnExactLogFaultSpec) :=
  OpenClaim.holds_of_wide 4 Try.f4 rfl rfl rfl rfl rfl rfl rfl ⟨rfl, rfl, rfl, rfl, rfl⟩ rfl rfl rfl rfl rfl (by kernel_rfl) Try.func4 (by kernel_rfl)
    (of_decide_eq_true (by kernel_rfl)) (by unfold Func.isWrapper; first | (rw [if_pos (by decide +kernel)]; kernel_rfl) | (rw [if_neg (by decide +kernel)]; exact ⟨rfl, rfl⟩))
    (fun os started H enc _ => lifted os started H enc)
end Go.Proofs.Ytgakkecaflppfaa.fnExactLogFault
namespace Go.Proofs.Ytgakkecaflppfaa
theorem fnExactLogFault_holds : Rows.FnExactLogFaultSaid := fnExactLogFault.over
end Go.Proofs.Ytgakkecaflppfaa
