/- Rows of bytes, as the helpers of the laws take them. -/
import Derived.Test.YtmaginepopldnaaDoorWj
import Derived.Test.YtmaginepopldnaaDoorWt
set_option maxRecDepth 100000
set_option maxHeartbeats 3200000
set_option linter.unusedSimpArgs false
set_option linter.unusedVariables false
namespace Go.Proofs.YtmaginepopldnaaDoor
open Go.Av
attribute [local irreducible] T thenQ blockQ againQ againS WX retV retR Gt Gts GtsP okCells CV CR Av.Pure

def sumW {α : Type} (w : α → Nat) (l : List α) : Nat := (l.map w).sum
def listW {α : Type} (w : α → Nat) (l : List α) : Nat := l.length + sumW w l
def listR {α : Type} (p : α → Prop) (l : List α) : Prop := l.length ≤ 9223372036854775807 ∧ ∀ x ∈ l, p x
abbrev rowsA (ws : List (List UInt8)) : AV := sl1 (ws.map byA)
abbrev rowsW (ws : List (List UInt8)) : Nat := listW List.length ws
abbrev rowsR (ws : List (List UInt8)) : Prop := listR (fun w : List UInt8 => w.length ≤ 9223372036854775807) ws

/-! the first element for which something holds -/
def fiGo {α : Type} (p : α → Bool) : List α → Nat → Int
  | [], _ => -1
  | x :: l, i => if p x = true then (i : Int) else fiGo p l (i + 1)
def idxL {α : Type} (p : α → Bool) (l : List α) : Int := fiGo p l 0
theorem rng_t {a b x : Int} (h : a ≤ x ∧ x ≤ b) : (!(decide (a ≤ x) && decide (x ≤ b))) = false := by rw [decide_eq_true h.1, decide_eq_true h.2]; rfl
theorem rng_f {a b x : Int} (h : ¬ (a ≤ x ∧ x ≤ b)) : (!(decide (a ≤ x) && decide (x ≤ b))) = true := by
  by_cases h1 : a ≤ x
  · rw [decide_eq_true h1, decide_eq_false (fun h2 => h ⟨h1, h2⟩)]; rfl
  · rw [decide_eq_false h1]; rfl
theorem getD_take {α : Type} (l : List α) (d : α) {k i : Nat} (h : k < i) : (l.take i).getD k d = l.getD k d := by
  rw [List.getD_eq_getElem?_getD, List.getD_eq_getElem?_getD, List.getElem?_take_of_lt h]

end Go.Proofs.YtmaginepopldnaaDoor
