/- What the arguments of the laws are, read off their types. -/
import Derived.Test.YthfikpgbddpmoaaWa
set_option maxRecDepth 100000
set_option maxHeartbeats 3200000
set_option linter.unusedVariables false
namespace Go.Proofs.Ythfikpgbddpmoaa
open Go.Av

theorem inv_leafs {t : TypeId} {x : AV} {l : List TypeId} (h : TyV ty t x) (hl : leafs ty 8 t = some l) : x.cells.length = l.length ∧ ∀ (j : Nat) (u : TypeId) (v : AV), l[j]? = some u → x.cells[j]? = some v →
    match (ty u).map TI.k with
    | some (.int k) => ∃ i, v = .int k i ∧ k.min ≤ i ∧ i ≤ k.max
    | some .bool => ∃ b, v = .bool b
    | some .str => ∃ s : ByteArray, v = .str s ∧ s.size ≤ maxLen
    | some (.slice e) => ∃ ei xs, ty e = some ei ∧ v = .ls ei.size true false xs ∧ xs.length ≤ maxLen ∧
      ∀ x ∈ xs, TyN ty 3 e x.cells ∧ x = (if isAggK ei.k then .agg x.cells else x.cells.getD 0 .undef)
    | _ => False := by
  obtain ⟨⟨ls, h1, h2, h3⟩, _⟩ := h
  rw [hl] at h1
  obtain rfl := Option.some.inj h1
  exact ⟨h2, h3⟩

theorem cells1 {x : AV} (h : x.cells.length = 1) : ∃ a, x.cells = [a] := by
  match hx : x.cells, h with
  | [a], _ => exact ⟨a, rfl⟩

theorem isInt {x : AV} (h : TyV ty 2 x) : ∃ i, x = .int .i64 i ∧ -9223372036854775808 ≤ i ∧ i ≤ 9223372036854775807 := by
  obtain ⟨h1, h2⟩ := inv_leafs h (l := [2]) rfl
  obtain ⟨a, ha⟩ := cells1 h1
  have h3 := h.2.2.2 ⟨_, rfl, rfl⟩
  obtain ⟨i, rfl, h4, h5⟩ := h2 0 2 x rfl (by rw [h3]; rfl)
  exact ⟨i, rfl, h4, h5⟩

theorem isBool {x : AV} (h : TyV ty 4 x) : ∃ b, x = .bool b := by
  obtain ⟨h1, h2⟩ := inv_leafs h (l := [4]) rfl
  have h3 := h.2.2.2 ⟨_, rfl, rfl⟩
  exact h2 0 4 x rfl (by rw [h3]; rfl)

theorem isBytes {x : AV} (h : TyV ty 22 x) : ∃ bs : List UInt8, x = sl1 (bA bs) ∧ bs.length ≤ 9223372036854775807 := by
  obtain ⟨h1, h2⟩ := inv_leafs h (l := [22]) rfl
  have h3 := h.2.2.2 ⟨_, rfl, rfl⟩
  obtain ⟨ei, xs, e1, rfl, e2, e3⟩ := h2 0 22 x rfl (by rw [h3]; rfl)
  obtain rfl := Option.some.inj e1
  obtain ⟨bs, rfl⟩ := bytes_of (ty := ty) (e := 5) rfl rfl rfl xs e3
  rw [bA_length] at e2
  exact ⟨bs, rfl, e2⟩

theorem isNum {x : AV} {ei : TI} {n : Nat} (hk : isAggK ei.k = false) (h : TyN ty (n + 1) 2 x.cells ∧ x = (if isAggK ei.k then .agg x.cells else x.cells.getD 0 .undef)) : ∃ a : Int, x = numA a := by
  obtain ⟨⟨ls, h1, h2, h3⟩, h4⟩ := h
  have hl : leafs ty 8 2 = some [2] := rfl
  rw [hl] at h1
  obtain rfl := Option.some.inj h1
  rw [if_neg (by simp [hk])] at h4
  obtain ⟨a, ha⟩ := cells1 h2
  rw [ha] at h3 h4
  obtain ⟨i, rfl, _⟩ := h3 0 2 a rfl rfl
  exact ⟨i, h4⟩

theorem nums_of (xs : List AV) {ei : TI} {n : Nat} (h : ∀ x ∈ xs, TyN ty (n + 1) 2 x.cells ∧ x = (if isAggK ei.k then .agg x.cells else x.cells.getD 0 .undef)) (hk : isAggK ei.k = false := by rfl) : ∃ q : List Int, xs = q.map numA :=
  list_of numA (fun x hx => isNum hk hx) xs h

end Go.Proofs.Ythfikpgbddpmoaa
