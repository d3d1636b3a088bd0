/- The operations of a region, run on pictures: what is left to show, as one statement. -/
import Derived.Test.YtgakkecaflppfaaAv22
set_option linter.unusedSimpArgs false
namespace Go.Av

/-- A call by contract: what is handed over is seen by value, the contract tells the result. -/
def CallV (P : Program) (f : FuncId) (bx : List (Nat × Option Box)) (xs : List AV) (K : AV → Prop) : Prop :=
  ∃ (Y : List AV → Prop) (R : AV → Prop), VwAll bx xs Y ∧ Callee P f ∧ (∀ as, Y as → CV P f as R) ∧ ∀ r, R r → K r

theorem callV_pure {P : Program} {f : FuncId} {bx : List (Nat × Option Box)} {xs : List AV} {R K : AV → Prop} (h : CV P f xs R) (hp : ∀ x ∈ xs, Pure x) (hK : ∀ r, R r → K r) : CallV P f bx xs K :=
  ⟨_, R, vwAll_pure hp, h.1, fun _ e => e ▸ h, hK⟩

def callOf (get : Operand → AV) : Op → Option (FuncId × List AV)
  | .call { callee := .value fop, args, argTypes := _ } => match get fop with
    | .fn f caps => some (f, args.toList.map get ++ caps)
    | _ => none
  | _ => none

/-- One operation: by value, or upon boxes, or a call. -/
def W1 (P : Program) (ty : TypeId → Option TI) (o : Oper) (st : St) (K : St → Prop) : Prop :=
  match valStep ty st.bx st.get o.op with
  | some (p, r) => p ∧ K (st.set o.dst r)
  | none => match memStep ty st.bx st.nx st.get o.op with
    | some (p, r, bx', nx') => p ∧ K ((St.mk st.env bx' nx').set o.dst r)
    | none => match callOf st.get o.op with
      | some (f, xs) => CallV P f st.bx xs fun r => K (st.set o.dst r)
      | none => False

def guardSlotL (ops : List Oper) (j : Nat) : Option Tmp := (ops[j]?).bind (·.dst)

/-- The operations that are left, one behind the other. -/
def WO (P : Program) (ty : TypeId → Option TI) (n : Nat) (ops : List Oper) : List Oper → St → (St → Prop) → Prop
  | [], st, K => K st
  | o :: l, st, K =>
    slotOk n o.dst = true ∧
    match o.guard with
    | none => W1 P ty o st fun s => WO P ty n ops l s K
    | some (j, want) => match guardSlotL ops j with
      | some t => match look st.env t with
        | some (.bool b) => (b = want → W1 P ty o st fun s => WO P ty n ops l s K) ∧ (b = !want → WO P ty n ops l (st.set o.dst .undef) K)
        | _ => False
      | none => False

section
variable {P : Program} {ty : TypeId → Option TI} {G : Gh} {Q : Exit → St → Prop}

theorem W1_ok (hty : TyOk P ty) {o : Oper} {st : St} {K : St → Prop} (h : W1 P ty o st K) (hd : slotOk G.n o.dst = true) {K' : Act → World → Prop}
    (hK : ∀ s, K s → ∀ φ a w, RelA G s φ a w → K' a w) : ∀ φ a w, RelA G st φ a w → o.wp P a w K' (QE G Q) := by
  unfold W1 at h
  split at h
  · rename_i p r e
    exact op_val hty e h.1 hd (hK _ h.2)
  · split at h
    · rename_i p r bx' nx' e
      exact op_mem hty e h.1 hd (hK _ h.2)
    · split at h
      · rename_i f xs e
        obtain ⟨Y, R, h1, h2, h3, h4⟩ := h
        unfold callOf at e
        split at e
        · rename_i fop args ats hop
          split at e
          · rename_i f' caps hf
            simp only [Option.some.injEq, Prod.mk.injEq] at e
            obtain ⟨rfl, rfl⟩ := e
            exact op_callV hop hf h1 h2 h3 hd (fun r hr => hK _ (h4 r hr))
          · cases e
        · cases e
      · exact h.elim

theorem WO_ok (hty : TyOk P ty) {ops : Array Oper} : ∀ (l : List Oper) (k : Nat) (st : St) (K : St → Prop), (∀ j, l[j]? = ops[k + j]?) → WO P ty G.n ops.toList l st K → (∀ s, K s → Q .normal s) →
    TO P G ops (List.range' k l.length) st Q
  | [], k, st, K, hl, h, hK => TO_nil (hK st h)
  | o :: l, k, st, K, hl, h, hK => by
    have ho : ops[k]? = some o := by have := hl 0; simp at this; exact this.symm
    have hl' : ∀ j, l[j]? = ops[k + 1 + j]? := fun j => by
      have := hl (j + 1)
      rw [show k + (j + 1) = k + 1 + j by omega] at this
      simpa using this
    simp only [List.length_cons, List.range'_succ]
    simp only [WO] at h
    obtain ⟨hd, h⟩ := h
    split at h
    · rename_i hg
      exact TO_step ho hg (W1_ok hty h hd (fun s hs => WO_ok hty l (k + 1) s K hl' hs hK))
    · rename_i j want hg
      split at h
      · rename_i t ht
        split at h
        · rename_i b hb
          refine TO_guard ho hg (by simpa [guardSlot, guardSlotL] using ht) hb hd (fun e => ?_) (fun e => ?_)
          · exact W1_ok hty (h.1 e) hd (fun s hs => WO_ok hty l (k + 1) s K hl' hs hK)
          · exact WO_ok hty l (k + 1) _ K hl' (h.2 e) hK
        · exact h.elim
      · exact h.elim

theorem T_reg (hty : TyOk P ty) {id : Nat} {l : List Oper} {st : St} (h : WO P ty G.n l l st (Q .normal)) : T P G (.region id l.toArray false) st Q := by
  refine T_region ?_
  have e : List.range l.toArray.size = List.range' 0 l.length := by simp [List.range_eq_range']
  rw [e]
  exact WO_ok hty (ops := l.toArray) l 0 st (Q .normal) (fun j => by simp) (by simpa using h) (fun s hs => hs)
end

end Go.Av
