/- Regions, in the text's order or in any: what is left to show, as one statement. -/
import Derived.Test.YtgakkecaflppfaaAv23
import Derived.Orders
set_option linter.unusedSimpArgs false
namespace Go.Av

/-- An operation that only computes, reads or calls by value: its one outcome. -/
def QV (P : Program) (ty : TypeId → Option TI) (bx : List (Nat × Option Box)) (get : Operand → AV) (o : Op) (v : AV) : Prop :=
  match valStep ty bx get o with
  | some (p, r) => p ∧ r = v
  | none => match callOf get o with
    | some (f, xs) => CallV P f bx xs (· = v)
    | none => False

theorem callOf_congr {get get' : Operand → AV} {o : Op} (h : ∀ x ∈ o.operands, get x = get' x) : callOf get o = callOf get' o := by
  cases o with
  | call c =>
    obtain ⟨callee, args, ats⟩ := c
    cases callee with
    | value f =>
      have hf : get f = get' f := h f (by simp [Op.operands, Call.operands])
      have ha : args.toList.map get = args.toList.map get' := List.map_congr_left fun x hx => h x (by simp [Op.operands, Call.operands]; exact .inr (by simpa using hx))
      simp only [callOf, hf, ha]
    | _ => rfl
  | _ => rfl

theorem bound_congr {get get' : Operand → AV} {d : Nat} {o : Option Operand} (h : ∀ x, o = some x → get x = get' x) : bound get d o = bound get' d o := by
  cases o with
  | none => rfl
  | some x => simp only [bound, h x rfl]

theorem valStep_congr {ty : TypeId → Option TI} {bx : List (Nat × Option Box)} {get get' : Operand → AV} {o : Op} (h : ∀ x ∈ o.operands, get x = get' x) : valStep ty bx get o = valStep ty bx get' o := by
  have pairs : ∀ ps : Array (Nat × Operand), (∀ x ∈ ps.toList.map (·.2), get x = get' x) → (ps.toList.map fun p => (p.1, get p.2)) = (ps.toList.map fun p => (p.1, get' p.2)) := fun ps hp =>
    List.map_congr_left fun p hm => by rw [hp p.2 (List.mem_map.2 ⟨p, hm, rfl⟩)]
  cases o with
  | call c =>
    obtain ⟨callee, args, ats⟩ := c
    cases callee with
    | builtin b =>
      have ha : ∀ x ∈ args.toList, get x = get' x := fun x hx => h x (by simp [Op.operands, Call.operands]; simpa using hx)
      obtain ⟨args⟩ := args
      rcases args with _ | ⟨x, _ | ⟨y, _ | ⟨z, r⟩⟩⟩
      · cases b <;> rfl
      · have hx : get x = get' x := ha x (by simp)
        rcases hats : ats.toList with _ | ⟨t, _ | ⟨t', _ | ⟨t'', r'⟩⟩⟩ <;> cases b <;> simp only [valStep, opVal, hx, hats]
      · have hx : get x = get' x := ha x (by simp)
        have hy : get y = get' y := ha y (by simp)
        rcases hats : ats.toList with _ | ⟨t, _ | ⟨t', _ | ⟨t'', r'⟩⟩⟩ <;> cases b <;> simp only [valStep, opVal, hx, hy, hats]
      · cases b <;> rfl
    | _ => rfl
  | build t ps => simp only [valStep, opVal]; rw [pairs ps fun x hx => h x (by simpa [Op.operands] using hx)]
  | buildSlice t n ps => simp only [valStep, opVal]; rw [pairs ps fun x hx => h x (by simpa [Op.operands] using hx)]
  | makeFunc fn first caps =>
    cases fn <;> simp only [valStep, opVal]
    rw [List.map_congr_left (l := caps.toList) fun x hx => h x (by simp [Op.operands]; exact .inr (by simpa using hx))]
  | slice t x lo hi mx =>
    simp only [valStep, opVal, sliceVal]
    rw [h x (by simp [Op.operands])]
    have e1 : ∀ d, bound get d lo = bound get' d lo := fun d => bound_congr fun y e => h y (by subst e; simp [Op.operands])
    have e2 : ∀ d, bound get d hi = bound get' d hi := fun d => bound_congr fun y e => h y (by subst e; simp [Op.operands])
    have e3 : ∀ m, mx = some m → get m = get' m := fun y e => h y (by subst e; simp [Op.operands])
    simp only [e1, e2]
    generalize (ty t).map TI.k = k
    generalize get' x = gx
    rcases k with _ | k
    · rfl
    cases k with
    | slice e =>
      cases gx with
      | ls st n ex xs =>
        simp only []
        generalize ty e = te
        generalize bound get' 0 lo = b0
        generalize bound get' xs.length hi = b1
        cases mx with
        | none => cases te <;> rcases b0 with _ | ⟨p, l⟩ <;> rcases b1 with _ | ⟨q, h⟩ <;> rfl
        | some m =>
          have := e3 m rfl
          cases te <;> rcases b0 with _ | ⟨p, l⟩ <;> rcases b1 with _ | ⟨q, h⟩ <;> simp only [this]
      | _ => rfl
    | str => cases gx <;> rfl
    | _ => rfl
  | _ =>
    simp only [Op.operands, List.mem_toArray, List.mem_cons, List.not_mem_nil, or_false, forall_eq_or_imp, forall_eq] at h
    first
      | rfl
      | (simp only [valStep, opVal, h]; done)

theorem QV_congr {P : Program} {ty : TypeId → Option TI} {bx : List (Nat × Option Box)} {get get' : Operand → AV} {o : Op} (h : ∀ x ∈ o.operands, get x = get' x) {v : AV} (k : QV P ty bx get o v) : QV P ty bx get' o v := by
  unfold QV at *
  rw [← valStep_congr h, ← callOf_congr h]
  exact k

end Go.Av
