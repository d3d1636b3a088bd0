/- Slices of records: a list of plain values, each shown as a picture. -/
import Derived.Test.YtgakkecaflppfaaAv36
set_option linter.unusedSimpArgs false
set_option linter.unusedVariables false
namespace Go.Av

theorem map_getD {α : Type} (f : α → AV) (xs : List α) (d : α) {k : Nat} (h : k < xs.length) : (xs.map f).getD ((k : Int)).toNat .undef = f (xs.getD k d) := by
  simp [List.getD, h]
theorem map_at {α : Type} (f : α → AV) (xs : List α) (d : α) {k : Nat} (h : k < xs.length) : (xs.map f)[k]? = some (f (xs.getD k d)) := by
  simp [List.getD, h]
theorem pure_map {α : Type} (f : α → AV) (hf : ∀ x, PureAll (f x).cells) (n e : Bool) (sz : Nat) (xs : List α) : Pure (.ls sz n e (xs.map f)) := pure_ls fun x hx y hy => by
  obtain ⟨a, _, rfl⟩ := List.mem_map.1 hx
  exact (hf a).mem y hy

/-- Two lists of one length, compared one by one: so far they agree. -/
theorem take_step {α : Type} {us vs : List α} (d : α) {k : Nat} (h : k < us.length) (h' : k < vs.length) (hp : us.take k = vs.take k) (e : us.getD k d = vs.getD k d) : us.take (k + 1) = vs.take (k + 1) := by
  rw [List.take_add_one, List.take_add_one, hp]
  simp only [List.getD, List.getElem?_eq_getElem h, List.getElem?_eq_getElem h', Option.getD_some] at e
  simp [List.getElem?_eq_getElem h, List.getElem?_eq_getElem h', e]

/-- The elements of a slice of records, each told by its type. -/
theorem list_of {α : Type} {p : AV → Prop} (f : α → AV) (h : ∀ x, p x → ∃ a, x = f a) : ∀ (xs : List AV), (∀ x ∈ xs, p x) → ∃ l : List α, xs = l.map f
  | [], _ => ⟨[], rfl⟩
  | x :: xs, k => by
    obtain ⟨l, rfl⟩ := list_of f h xs (fun y hy => k y (by simp [hy]))
    obtain ⟨a, rfl⟩ := h x (k x (by simp))
    exact ⟨a :: l, rfl⟩

end Go.Av
