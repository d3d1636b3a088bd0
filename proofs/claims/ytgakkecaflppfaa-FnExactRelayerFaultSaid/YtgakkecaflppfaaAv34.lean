/- A region that draws its order and does nothing loud. -/
import Derived.Test.YtgakkecaflppfaaAv33
set_option linter.unusedSimpArgs false
set_option linter.unusedVariables false
namespace Go.Av

theorem T_drawAll {P : Program} {ty : TypeId → Option TI} (hty : TyOk P ty) (hmix : P.follows .mixedOrders = true) {G : Gh} {Q : Exit → St → Prop} {id : Nat} {l : List Oper} {st : St} (hD : drawOk l l.length = true)
    (h : WX true P ty G.n l l st (Q .normal)) : T P G (.region id l.toArray true) st Q := by
  refine T_draw hty hmix l.length hD (Nat.le_refl _) ?_
  rw [List.take_length, List.drop_length]
  exact h

/-- What a byte slice's elements are. -/
theorem bytes_of {ty : TypeId → Option TI} {e : TypeId} {ei : TI} (hl : leafs ty 8 e = some [e]) (hk : (ty e).map TI.k = some (.int .u8)) (ha : isAggK ei.k = false) : ∀ (xs : List AV),
    (∀ x ∈ xs, TyN ty 1 e x.cells ∧ x = (if isAggK ei.k then .agg x.cells else x.cells.getD 0 .undef)) → ∃ bs : List UInt8, xs = bA bs
  | [], _ => ⟨[], rfl⟩
  | x :: xs, h => by
    obtain ⟨bs, rfl⟩ := bytes_of hl hk ha xs (fun y hy => h y (by simp [hy]))
    obtain ⟨⟨ls, h1, h2, h3⟩, h4⟩ := h x (by simp)
    rw [hl] at h1
    obtain rfl := Option.some.inj h1
    obtain ⟨c, hc⟩ : ∃ c, x.cells = [c] := List.length_eq_one_iff.1 (by simpa using h2)
    rw [hc] at h3
    have h5 := h3 0 e c rfl rfl
    rw [hk] at h5
    obtain ⟨i, rfl, h6, h7⟩ := h5
    rw [hc, ha] at h4
    simp only [Bool.false_eq_true, if_false, List.getD_cons_zero] at h4
    subst h4
    have h6' : 0 ≤ i := h6
    have h7' : i ≤ 255 := h7
    refine ⟨UInt8.ofNat i.toNat :: bs, ?_⟩
    simp only [bA, List.map_cons, List.cons.injEq, and_true, AV.int.injEq, true_and]
    simp
    omega

end Go.Av
