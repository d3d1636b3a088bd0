/- Whatever the input, FnExactRelayerFault returns true, and the input reads behind the call as it read before it. Conditions: none beyond those of the given row. -/
import Derived.Test.YtgakkecaflppfaaRows
import Derived.Test.YtgakkecaflppfaaWords4
namespace Go.Proofs.Ytgakkecaflppfaa.fnExactRelayerFault
open Go.Av
set_option linter.unusedVariables false
theorem own : ownKnob Try.prog.godebug = none := by kernel_rfl

/-- An item's cells. -/
theorem isItem {t : TypeId} {x : AV} {ei : TI} (ht : t = 126 ∨ t = 77) (hk : isAggK ei.k = true) (h : TyN ty 1 t x.cells ∧ x = (if isAggK ei.k then .agg x.cells else x.cells.getD 0 .undef)) : ∃ a : Itm, x = itemA a := by
  obtain ⟨⟨ls, h1, h2, h3⟩, h4⟩ := h
  have hl : leafs ty 8 t = some [2, 2, 2] := by rcases ht with rfl | rfl <;> rfl
  rw [hl] at h1
  obtain rfl := Option.some.inj h1
  rw [if_pos hk] at h4
  obtain ⟨a, b, c, hc⟩ : ∃ a b c, x.cells = [a, b, c] := by
    have h2' : x.cells.length = 3 := h2
    match x.cells, h2' with
    | [a, b, c], _ => exact ⟨a, b, c, rfl⟩
  rw [hc] at h3 h4
  obtain ⟨i, rfl, _⟩ := h3 0 2 a rfl rfl
  obtain ⟨j, rfl, _⟩ := h3 1 2 b rfl rfl
  obtain ⟨k, rfl, _⟩ := h3 2 2 c rfl rfl
  exact ⟨(i, j, k), h4⟩

/-- A relayer's cells. -/
theorem isRel {x : AV} (h : TyV ty 44 x) : ∃ (c : Int) (q : List Itm), x = relA c q ∧ q.length ≤ 9223372036854775807 := by
  obtain ⟨⟨ls, h1, h2, h3⟩, _, h4⟩ := h
  have hl : leafs ty 8 44 = some [2, 42] := rfl
  rw [hl] at h1
  obtain rfl := Option.some.inj h1
  obtain ⟨c, c', hc⟩ : ∃ c c', x.cells = [c, c'] := by
    have h2' : x.cells.length = 2 := h2
    match x.cells, h2' with
    | [c, c'], _ => exact ⟨c, c', rfl⟩
  have hx : x = .agg [c, c'] := by rw [← hc]; exact h4 ⟨_, rfl, rfl⟩
  rw [hc] at h3
  obtain ⟨i, rfl, _⟩ := h3 0 2 c rfl rfl
  obtain ⟨ei, xs, e1, rfl, e2, e3⟩ := h3 1 42 c' rfl rfl
  obtain rfl := Option.some.inj e1
  obtain ⟨q, rfl⟩ := list_of itemA (fun x hx => isItem (.inl rfl) rfl hx) xs e3
  rw [List.length_map] at e2
  exact ⟨i, q, hx, e2⟩

theorem lifted (os : Os) (started : os.Started) (H : Type) (enc : TypeId × Value → H) :
    ReturnsInHanded {} Try.checked os 6 .any (Rows.fnExactRelayerFaultSpec.pre6 enc Try.prog Try.f6 Rows.fnExactRelayerFaultRow.domain false) (Rows.fnExactRelayerFaultSpec.post enc Try.prog Try.f6 false true false false) := by
  refine lift_law (C := Try.checked) tyOk started own (by kernel_rfl) Try.func6
    (ChangeSpec.witness6 (enc := enc) (C := Try.checked) false ⟨#[], #[.agg #[.int .i64 0, .slice none 0 0]], []⟩ 8 (by kernel_rfl) (by kernel_rfl) (by kernel_rfl) (by kernel_rfl))
    rfl (fun ds h => ?_) rfl (fun _ => rfl) Try.underlying4 (by kernel_rfl) (fun t ht => ?_) (fun xs hx => ?_)
  · match ds, h with
    | [d], _ => rfl
  · obtain rfl : t = 44 := by
      have : t ∈ [44] := ht
      simpa using this
    exact ⟨by kernel_rfl, by kernel_rfl, of_decide_eq_true (by kernel_rfl)⟩
  · have hx : Args ty [44] xs := hx
    match xs, hx with
    | [x], ⟨h, _⟩ =>
      obtain ⟨c, q, rfl, hq⟩ := isRel h
      exact law_RelayerFault c q hq
theorem over : Rows.fnExactRelayerFaultRow.holds Try.pinned (OpenSpec.ofChange Rows.fnExactRelayerFaultSpec) :=
  OpenClaim.holds_of_wide 6 Try.f6 rfl rfl rfl rfl rfl rfl rfl ⟨rfl, rfl, rfl, rfl, rfl⟩ rfl rfl rfl rfl rfl (by kernel_rfl) Try.func6 (by kernel_rfl)
    (of_decide_eq_true (by kernel_rfl)) (by unfold Func.isWrapper; first | (rw [if_pos (by decide +kernel)]; kernel_rfl) | (rw [if_neg (by decide +kernel)]; exact ⟨rfl, rfl⟩))
    (fun os started H enc _ => lifted os started H enc)
end Go.Proofs.Ytgakkecaflppfaa.fnExactRelayerFault
namespace Go.Proofs.Ytgakkecaflppfaa
theorem fnExactRelayerFault_holds : Rows.FnExactRelayerFaultSaid := fnExactRelayerFault.over
end Go.Proofs.Ytgakkecaflppfaa
