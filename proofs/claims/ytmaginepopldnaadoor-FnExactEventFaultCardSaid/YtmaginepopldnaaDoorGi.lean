/- A small logic for code over pictures of values and boxes: part 9. -/
import Derived.Test.YtmaginepopldnaaDoorGh
set_option linter.unusedSimpArgs false
set_option linter.unusedVariables false
namespace Go.Av

section
variable {P : Program} {ty : TypeId → Option TI} {n : Nat} {l : List Oper} {K : St → Prop} {tp : TypeId} {pos : String} {aft : Array Edge} {gd : Option (Nat × Bool)} {env : List (Nat × AV)} {bx bx0 : List (Nat × Option Box)} {nx : Nat} {d : Tmp}
  {t xt : TypeId} {x y : Operand}

theorem GtsI.get {env : List (Nat × AV)} : ∀ {k : Nat} {l : List (Nat × Operand)} {r : List AV}, GtsI env k l r → r.length = l.length ∧ ∀ (j : Nat) (p : Nat × Operand) (q : Nat × AV), l[j]? = some p → (parts k r)[j]? = some q → q.1 = p.1 ∧ Gt env p.2 q.2
  | _, [], [], _ => ⟨rfl, fun j p q h => by simp at h⟩
  | k, (i, x) :: l, v :: r, h => by
    obtain ⟨rfl, h1, h2⟩ := h
    obtain ⟨g1, g2⟩ := GtsI.get h2
    refine ⟨by simp [g1], fun j p q hp hq => ?_⟩
    cases j with
    | zero => simp [parts] at hp hq; subst hp; subst hq; exact ⟨rfl, h1⟩
    | succ j => exact g2 j p q (by simpa using hp) (by simpa [parts] using hq)
  | _, [], _ :: _, h => h.elim
  | _, _ :: _, [], h => h.elim
end

end Go.Av
namespace Go.Av

def bStr (w : List UInt8) : ByteArray := ⟨w.toArray⟩
theorem bStr_size (w : List UInt8) : (bStr w).size = w.length := rfl
theorem str_eq (a b : ByteArray) : (a.toList == b.toList) = decide (strB a = strB b) := by
  rw [ByteArray.toList_eq, ByteArray.toList_eq]
  unfold strB
  by_cases h : a.data.toList = b.data.toList
  · rw [h, decide_eq_true rfl]; exact beq_self_eq_true _
  · rw [decide_eq_false h]; exact beq_eq_false_iff_ne.2 h

section
variable {P : Program} {ty : TypeId → Option TI} {n : Nat} {ops l : List Oper} {K : St → Prop} {tp : TypeId} {pos : String} {aft : Array Edge} {env : List (Nat × AV)} {bx : List (Nat × Option Box)} {nx : Nat} {d : Tmp}
  {t : TypeId} {x y : Operand} {q : Bool}
end

section
variable {P : Program} {f : FuncId} {xs : List AV}
end

end Go.Av
namespace Go.Av

def Loose (c d : AV) : Prop := ∀ w φ ok v, Rep w φ ok c v → Rep w φ ok d v
theorem Loose.refl (c : AV) : Loose c c := fun _ _ _ _ h => h
def LooseE : List AV → List AV → Prop
  | [], [] => True
  | x :: l, y :: r => (y.cells.length = x.cells.length ∧ (∀ d ∈ y.cells, d.cellOk = true) ∧ ∀ (j : Nat) (c d : AV), x.cells[j]? = some c → y.cells[j]? = some d → Loose c d) ∧ LooseE l r
  | _, _ => False
theorem LooseE.get : ∀ {l r : List AV}, LooseE l r → r.length = l.length ∧ ∀ (i : Nat) (x y : AV), l[i]? = some x → r[i]? = some y → y.cells.length = x.cells.length ∧ (∀ d ∈ y.cells, d.cellOk = true) ∧ ∀ (j : Nat) (c d : AV), x.cells[j]? = some c → y.cells[j]? = some d → Loose c d
  | [], [], _ => ⟨rfl, fun i x y h => by simp at h⟩
  | a :: l, b :: r, h => by
    obtain ⟨h1, h2⟩ := LooseE.get h.2
    refine ⟨by simp [h1], fun i x y hx hy => ?_⟩
    cases i with
    | zero => simp at hx hy; subst hx; subst hy; exact h.1
    | succ i => exact h2 i x y (by simpa using hx) (by simpa using hy)
section
variable {G : Gh} {bx : List (Nat × Option Box)} {nx : Nat} {φ : Nat → Option Loc} {w : World}
end

end Go.Av
namespace Go.Av

section
variable {P : Program} {ty : TypeId → Option TI} {n : Nat} {ops l : List Oper} {K : St → Prop} {tp : TypeId} {pos : String} {aft : Array Edge} {env : List (Nat × AV)} {bx : List (Nat × Option Box)} {nx : Nat} {d : Tmp}
  {t : TypeId} {x : Operand} {q : Bool}
end

end Go.Av
namespace Go.Av
theorem CV.args {P : Program} {f : FuncId} {xs ys : List AV} {R : AV → Prop} (h : CV P f ys R) (hl : ys.length = xs.length) (k : ∀ (i : Nat) (x y : AV), xs[i]? = some x → ys[i]? = some y → Loose x y) : CV P f xs R :=
  ⟨h.1, fun ok0 w vs hok hA => h.2 ok0 w vs hok ⟨by rw [hA.1, hl], fun i y v hy hv => by
    have hi : i < xs.length := by rw [← hl]; exact (List.getElem?_eq_some_iff.1 hy).1
    exact k i xs[i] y (by simp) hy _ _ _ _ (hA.2 i xs[i] v (by simp) hv)⟩⟩
end Go.Av
namespace Go.Av

instance (cs : List AV) [h : PureLC cs] : PureLC (AV.agg cs).cells := h
instance (cs : List AV) [h : CellsC cs] : CellsC (AV.agg cs).cells := h

section
variable {P : Program} {ty : TypeId → Option TI} {n : Nat} {ops l : List Oper} {K : St → Prop} {tp : TypeId} {pos : String} {aft : Array Edge} {env : List (Nat × AV)} {bx : List (Nat × Option Box)} {nx : Nat}
  {t : TypeId} {x y : Operand}
end

section
variable {P : Program} {ty : TypeId → Option TI} {n : Nat} {l : List Oper} {K : St → Prop} {tp : TypeId} {pos : String} {aft : Array Edge} {gd : Option (Nat × Bool)} {env : List (Nat × AV)} {bx bx0 : List (Nat × Option Box)} {nx : Nat} {d : Tmp} {t : TypeId}
end

section
variable {P : Program} {ty : TypeId → Option TI} {n : Nat} {ops l : List Oper} {K : St → Prop} {tp : TypeId} {pos : String} {aft : Array Edge} {env : List (Nat × AV)} {bx : List (Nat × Option Box)} {nx : Nat} {d : Tmp} {q : Bool}
  {t : TypeId} {x y : Operand}
end

section
variable {P : Program} {ty : TypeId → Option TI} {n : Nat} {l : List Oper} {K : St → Prop} {tp : TypeId} {pos : String} {aft : Array Edge} {gd : Option (Nat × Bool)} {env : List (Nat × AV)} {bx : List (Nat × Option Box)} {nx : Nat} {t : TypeId} {x y : Operand} {v : AV}
end

end Go.Av
