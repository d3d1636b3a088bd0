/- What the arguments of the laws are, read off their types. -/
import Derived.Test.YtaolmfgpebncjaaGreatWb
import Derived.Test.YtaolmfgpebncjaaGreatWa
set_option maxRecDepth 100000
set_option maxHeartbeats 3200000
set_option linter.unusedSimpArgs false
set_option linter.unusedVariables false
namespace Go.Proofs.YtaolmfgpebncjaaGreat
open Go.Av
attribute [local irreducible] T thenQ blockQ againQ againS WX retV retR Gt Gts GtsP okCells CV CR Av.Pure

abbrev bytesRes (c : Int) (bs : List UInt8) : AV := .agg [.int .i64 c, sl1 (bA bs)]

def recBytes (k n t : Int) : List UInt8 := byteOf k :: (putN n ++ if k = 2 then putN t else [])
def recCode (k n t : Int) : Int :=
  if ¬ (1 ≤ k ∧ k ≤ 3) then 1 else if ¬ (1 ≤ n ∧ n ≤ 1000000) ∨ ¬ (0 ≤ t ∧ t ≤ 1099511627776) then 3 else if t ≠ 0 ∧ k ≠ 2 then 1 else 0
def recOut (k n t : Int) : List UInt8 := if recCode k n t = 0 then recBytes k n t else []

def marksB (k : Int) (n : Nat) : List UInt8 := (List.range n).map fun i : Nat => byteOf (k + (i : Int))
theorem marksB_length (k : Int) (n : Nat) : (marksB k n).length = n := by simp [marksB]
end Go.Proofs.YtaolmfgpebncjaaGreat

set_option maxRecDepth 100000
set_option maxHeartbeats 3200000
set_option linter.unusedSimpArgs false
set_option linter.unusedVariables false
namespace Go.Proofs.YtaolmfgpebncjaaGreat
open Go.Av
attribute [local irreducible] T thenQ blockQ againQ againS WX retV retR Gt Gts GtsP okCells CV CR Av.Pure

abbrev byA (w : List UInt8) : AV := sl1 (bA w)

instance : ElemF byA := ⟨fun a y hy => by
  simp only [AV.cells, List.mem_cons, List.not_mem_nil, or_false] at hy
  subst hy
  exact ⟨pure_bytes _ _ _ _, rfl⟩⟩

theorem take_flat (ws : List (List UInt8)) {k : Nat} (h : k < ws.length) : (ws.take (k + 1)).flatten = (ws.take k).flatten ++ ws.getD k [] := by
  rw [List.take_add_one, List.flatten_append, List.getD_eq_getElem?_getD]
  simp [h]
theorem take_flat_le (ws : List (List UInt8)) (k : Nat) : (ws.take k).flatten.length ≤ ws.flatten.length := by
  have h := congrArg (fun l => (List.flatten l).length) (List.take_append_drop k ws)
  simp only [List.flatten_append, List.length_append] at h
  omega

end Go.Proofs.YtaolmfgpebncjaaGreat

set_option maxRecDepth 100000
set_option maxHeartbeats 3200000
set_option linter.unusedVariables false
namespace Go.Proofs.YtaolmfgpebncjaaGreat
open Go.Av

theorem inv_leafs {t : TypeId} {x : AV} {l : List TypeId} (h : TyV ty t x) (hl : leafs ty 8 t = some l) : x.cells.length = l.length ∧ ∀ (j : Nat) (u : TypeId) (v : AV), l[j]? = some u → x.cells[j]? = some v →
    match (ty u).map TI.k with
    | some (.int k) => ∃ i, v = .int k i ∧ k.min ≤ i ∧ i ≤ k.max
    | some .bool => ∃ b, v = .bool b
    | some .str => ∃ s : ByteArray, v = .str s ∧ s.size ≤ maxLen
    | some (.slice e) => ∃ ei xs, ty e = some ei ∧ v = .ls ei.size true false xs ∧ xs.length ≤ maxLen ∧
      ∀ x ∈ xs, TyN ty 3 e x.cells ∧ x = (if isAggK ei.k then .agg x.cells else x.cells.getD 0 .undef)
    | _ => False := by
  obtain ⟨⟨ls, h1, h2, h3⟩, _⟩ := h
  rw [hl] at h1
  obtain rfl := Option.some.inj h1
  exact ⟨h2, h3⟩

theorem cells1 {x : AV} (h : x.cells.length = 1) : ∃ a, x.cells = [a] := by
  match hx : x.cells, h with
  | [a], _ => exact ⟨a, rfl⟩

theorem isInt {x : AV} (h : TyV ty 2 x) : ∃ i, x = .int .i64 i ∧ -9223372036854775808 ≤ i ∧ i ≤ 9223372036854775807 := by
  obtain ⟨h1, h2⟩ := inv_leafs h (l := [2]) rfl
  obtain ⟨a, ha⟩ := cells1 h1
  have h3 := h.2.2.2 ⟨_, rfl, rfl⟩
  obtain ⟨i, rfl, h4, h5⟩ := h2 0 2 x rfl (by rw [h3]; rfl)
  exact ⟨i, rfl, h4, h5⟩

end Go.Proofs.YtaolmfgpebncjaaGreat
