/- Rows of bytes, as the helpers of the laws take them. -/
import Derived.Test.YtaolmfgpebncjaaWb
import Derived.Test.YtaolmfgpebncjaaWa
set_option maxRecDepth 100000
set_option maxHeartbeats 3200000
set_option linter.unusedSimpArgs false
set_option linter.unusedVariables false
namespace Go.Proofs.Ytaolmfgpebncjaa
open Go.Av
attribute [local irreducible] T thenQ blockQ againQ againS WX retV retR Gt Gts GtsP okCells CV CR Av.Pure

abbrev bytesRes (c : Int) (bs : List UInt8) : AV := .agg [.int .i64 c, sl1 (bA bs)]

def recBytes (k n t : Int) : List UInt8 := byteOf k :: (putN n ++ if k = 2 then putN t else [])
def recCode (k n t : Int) : Int :=
  if ¬ (1 ≤ k ∧ k ≤ 3) then 1 else if ¬ (1 ≤ n ∧ n ≤ 1000000) ∨ ¬ (0 ≤ t ∧ t ≤ 1099511627776) then 3 else if t ≠ 0 ∧ k ≠ 2 then 1 else 0
def recOut (k n t : Int) : List UInt8 := if recCode k n t = 0 then recBytes k n t else []

def marksB (k : Int) (n : Nat) : List UInt8 := (List.range n).map fun i : Nat => byteOf (k + (i : Int))
theorem marksB_length (k : Int) (n : Nat) : (marksB k n).length = n := by simp [marksB]
end Go.Proofs.Ytaolmfgpebncjaa

set_option maxRecDepth 100000
set_option maxHeartbeats 3200000
set_option linter.unusedSimpArgs false
set_option linter.unusedVariables false
namespace Go.Proofs.Ytaolmfgpebncjaa
open Go.Av
attribute [local irreducible] T thenQ blockQ againQ againS WX retV retR Gt Gts GtsP okCells CV CR Av.Pure

abbrev byA (w : List UInt8) : AV := sl1 (bA w)

instance : ElemF byA := ⟨fun a y hy => by
  simp only [AV.cells, List.mem_cons, List.not_mem_nil, or_false] at hy
  subst hy
  exact ⟨pure_bytes _ _ _ _, rfl⟩⟩

theorem take_flat (ws : List (List UInt8)) {k : Nat} (h : k < ws.length) : (ws.take (k + 1)).flatten = (ws.take k).flatten ++ ws.getD k [] := by
  rw [List.take_add_one, List.flatten_append, List.getD_eq_getElem?_getD]
  simp [h]
theorem take_flat_le (ws : List (List UInt8)) (k : Nat) : (ws.take k).flatten.length ≤ ws.flatten.length := by
  have h := congrArg (fun l => (List.flatten l).length) (List.take_append_drop k ws)
  simp only [List.flatten_append, List.length_append] at h
  omega

end Go.Proofs.Ytaolmfgpebncjaa

set_option maxRecDepth 100000
set_option maxHeartbeats 3200000
set_option linter.unusedVariables false
namespace Go.Proofs.Ytaolmfgpebncjaa
open Go.Av

end Go.Proofs.Ytaolmfgpebncjaa

set_option maxRecDepth 100000
set_option maxHeartbeats 3200000
set_option linter.unusedSimpArgs false
set_option linter.unusedVariables false
namespace Go.Proofs.Ytaolmfgpebncjaa
open Go.Av
attribute [local irreducible] T thenQ blockQ againQ againS WX retV retR Gt Gts GtsP okCells CV CR Av.Pure

theorem szAfter_neg {left : Int} {n : Int} (h : left - n < 0) : szAfter left n = -1 := if_pos h
theorem szAfter_pos {left : Int} {n : Int} (h : ¬ left - n < 0) : szAfter left n = left - n := if_neg h

def sumW {α : Type} (w : α → Nat) (l : List α) : Nat := (l.map w).sum
def listW {α : Type} (w : α → Nat) (l : List α) : Nat := l.length + sumW w l
def listR {α : Type} (p : α → Prop) (l : List α) : Prop := l.length ≤ 9223372036854775807 ∧ ∀ x ∈ l, p x
theorem sumW_take {α : Type} (w : α → Nat) (l : List α) (d : α) {k : Nat} (h : k < l.length) : sumW w (l.take (k + 1)) = sumW w (l.take k) + w (l.getD k d) := by
  unfold sumW
  have e : l.take (k + 1) = l.take k ++ [l.getD k d] := by rw [List.take_add_one, List.getElem?_eq_getElem h, List.getD_eq_getElem?_getD, List.getElem?_eq_getElem h]; rfl
  rw [e, List.map_append, List.sum_append]
  simp only [List.map_cons, List.map_nil, List.sum_cons, List.sum_nil]
  omega
theorem sumW_le {α : Type} (w : α → Nat) (l : List α) (k : Nat) : sumW w (l.take k) ≤ sumW w l := by
  have h := congrArg (fun r => (List.map w r).sum) (List.take_append_drop k l)
  simp only [List.map_append, List.sum_append] at h
  unfold sumW
  omega
theorem listW_mem {α : Type} (w : α → Nat) (l : List α) {x : α} (h : x ∈ l) : l.length + w x ≤ listW w l := by
  unfold listW sumW
  induction l with
  | nil => cases h
  | cons a l ih =>
    simp only [List.map_cons, List.sum_cons, List.length_cons]
    rcases List.mem_cons.1 h with rfl | h
    · omega
    · have := ih h; omega

abbrev rowsA (ws : List (List UInt8)) : AV := sl1 (ws.map byA)
abbrev rowsW (ws : List (List UInt8)) : Nat := listW List.length ws
abbrev rowsR (ws : List (List UInt8)) : Prop := listR (fun w : List UInt8 => w.length ≤ 9223372036854775807) ws

theorem eqB_cv (x : List UInt8) (h : x.length ≤ 1048576) : CV Try.prog 26 [byA x, byA x] (· = .bool true) := by
  have h := eqByteS_cv x x (by omega)
  rw [decide_eq_true rfl] at h
  exact h

/-! the first element for which something holds -/
def fiGo {α : Type} (p : α → Bool) : List α → Nat → Int
  | [], _ => -1
  | x :: l, i => if p x = true then (i : Int) else fiGo p l (i + 1)
def idxL {α : Type} (p : α → Bool) (l : List α) : Int := fiGo p l 0
theorem fiGo_step {α : Type} (p : α → Bool) (l : List α) (d : α) {k : Nat} (h : k < l.length) : fiGo p (l.drop k) k = if p (l.getD k d) = true then (k : Int) else fiGo p (l.drop (k + 1)) (k + 1) := by
  rw [List.drop_eq_getElem_cons h, fiGo]
  simp only [List.getD_eq_getElem?_getD, List.getElem?_eq_getElem h, Option.getD_some]
theorem fiGo_range {α : Type} (p : α → Bool) : ∀ (l : List α) (i : Nat), fiGo p l i = -1 ∨ ((i : Int) ≤ fiGo p l i ∧ fiGo p l i < (i + l.length : Nat))
  | [], i => .inl rfl
  | x :: l, i => by
    rw [fiGo]
    split
    · right; simp; omega
    · rcases fiGo_range p l (i + 1) with h | h
      · exact .inl h
      · right; simp only [List.length_cons]; omega
theorem idxL_range {α : Type} (p : α → Bool) (l : List α) : idxL p l = -1 ∨ (0 ≤ idxL p l ∧ idxL p l < l.length) := by
  rcases fiGo_range p l 0 with h | h
  · exact .inl h
  · right; unfold idxL; omega
theorem fiGo_any {α : Type} (p : α → Bool) : ∀ (l : List α) (i : Nat), decide (0 ≤ fiGo p l i) = l.any p
  | [], i => by simp [fiGo]
  | x :: l, i => by
    rw [fiGo, List.any_cons]
    by_cases h : p x = true
    · rw [if_pos h, h]; simp
    · rw [if_neg h, fiGo_any p l (i + 1)]; simp at h; simp [h]
theorem idxL_any {α : Type} (p : α → Bool) (l : List α) : decide (0 ≤ idxL p l) = l.any p := fiGo_any p l 0

theorem rng_t {a b x : Int} (h : a ≤ x ∧ x ≤ b) : (!(decide (a ≤ x) && decide (x ≤ b))) = false := by rw [decide_eq_true h.1, decide_eq_true h.2]; rfl
theorem rng_f {a b x : Int} (h : ¬ (a ≤ x ∧ x ≤ b)) : (!(decide (a ≤ x) && decide (x ≤ b))) = true := by
  by_cases h1 : a ≤ x
  · rw [decide_eq_true h1, decide_eq_false (fun h2 => h ⟨h1, h2⟩)]; rfl
  · rw [decide_eq_false h1]; rfl
theorem map_takeF {α : Type} (f : α → AV) (l : List α) (m : Nat) : List.take (m - 0) (List.drop 0 (l.map f)) = (l.take m).map f := by simp
theorem getD_take {α : Type} (l : List α) (d : α) {k i : Nat} (h : k < i) : (l.take i).getD k d = l.getD k d := by
  rw [List.getD_eq_getElem?_getD, List.getD_eq_getElem?_getD, List.getElem?_take_of_lt h]

theorem list_ofP {α : Type} (f : α → AV) {p : α → Prop} {Q : AV → Prop} (h : ∀ x, Q x → ∃ a, x = f a ∧ p a) : ∀ xs : List AV, (∀ x ∈ xs, Q x) → ∃ q : List α, xs = q.map f ∧ ∀ a ∈ q, p a
  | [], _ => ⟨[], rfl, fun a h => by cases h⟩
  | x :: xs, k => by
    obtain ⟨a, rfl, ha⟩ := h x (k x (by simp))
    obtain ⟨q, rfl, hq⟩ := list_ofP f h xs (fun y hy => k y (by simp [hy]))
    exact ⟨a :: q, rfl, fun b hb => by
      rcases List.mem_cons.1 hb with rfl | hb
      · exact ha
      · exact hq b hb⟩

end Go.Proofs.Ytaolmfgpebncjaa
