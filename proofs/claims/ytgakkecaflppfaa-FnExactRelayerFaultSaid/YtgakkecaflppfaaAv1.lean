/- A value's picture: what a proof knows of a Go value. A slice is told by its elements (by value), or as a part of a box (by name). -/
import Derived.Below
import Derived.Calls
import Derived.Laws.Cells
import Derived.Laws.Append
import Derived.Laws.Slices
import Derived.Laws.MakeOwn
namespace Go.Av

inductive AV where
  | undef
  | int (k : IntKind) (n : Int)
  | bool (b : Bool)
  | str (s : ByteArray)
  | nilp
  | ptr (id e k : Nat)
  | vp (cs : List AV)
  | sl (id off len cap : Nat)
  | ls (st : Nat) (nil ex : Bool) (xs : List AV)
  | agg (cs : List AV)
  | tup (vs : List AV)
  | fn (f : FuncId) (caps : List AV)
  deriving Inhabited

/-- The cells of a value. -/
def AV.cells : AV → List AV
  | .agg cs => cs
  | v => [v]

theorem AV.cells_agg (cs : List AV) : (AV.agg cs).cells = cs := rfl

/-- May it lie in a cell? -/
def AV.cellOk : AV → Bool
  | .agg _ | .tup _ | .undef => false
  | _ => true

/-- An element: so many cells, each of which may lie in a cell. -/
def okCells (st : Nat) (x : AV) : Prop := x.cells.length = st ∧ ∀ y ∈ x.cells, y.cellOk = true

/-- Where a box lies: its block, its first cell, the cells of an element, the block's cells; may it have more room than is known; is it no block at all. -/
structure Loc where
  blk : Nat
  base : Nat
  st : Nat
  size : Nat
  slack : Bool
  virt : Bool

structure Box where
  elems : List AV
  st : Nat
  slack : Bool
  ro : Bool
  deriving Inhabited

/-- A slice value of a box. -/
def SlOk (L : Loc) (off len cap : Nat) (a : Option Addr) (c : Nat) : Prop :=
  len ≤ cap ∧ cap ≤ c ∧ (L.slack = false → c = cap) ∧ (∀ x, a = some x → x.spot = none) ∧
  (c ≠ 0 → L.virt = false ∧ a = some ⟨L.blk, L.base + off * L.st, none⟩ ∧ L.base + (off + c) * L.st ≤ L.size)

/-- The slice value of a list: nil, or an address, the length, a capacity (exactly the length where ex is true). -/
def LsOk (nil ex : Bool) (n : Nat) (a : Option Addr) (c : Nat) : Prop :=
  n ≤ c ∧ (ex = true → c = n) ∧ (nil = true → ex = true → a = none) ∧ (nil = false → a ≠ none) ∧ (0 < c → ∃ b o, a = some ⟨b, o, none⟩)

theorem LsOk.none {nil ex : Bool} {n c : Nat} (h : LsOk nil ex n none c) : n = 0 ∧ c = 0 := by
  have h1 := h.1
  by_cases hc : 0 < c
  · obtain ⟨b, o, e⟩ := h.2.2.2.2 hc; cases e
  · omega
theorem LsOk.addr {nil ex : Bool} {n c : Nat} {a : Option Addr} (h : LsOk nil ex n a c) (hn : 0 < n) : ∃ b o, a = some ⟨b, o, Option.none⟩ := h.2.2.2.2 (Nat.lt_of_lt_of_le hn h.1)
/-- Nothing is said of nil or of the room. -/
theorem LsOk.loose {nil ex : Bool} {n c : Nat} {a : Option Addr} (h : LsOk nil ex n a c) : LsOk true false n a c := ⟨h.1, fun e => (by cases e), fun _ e => (by cases e), fun e => (by cases e), h.2.2.2.2⟩

inductive Rep (w : World) (φ : Nat → Option Loc) (ok : Nat → Nat → Prop) : AV → Value → Prop where
  | undef (v : Value) : Rep w φ ok .undef v
  | int (k : IntKind) (n : Int) : Rep w φ ok (.int k n) (.int k n)
  | bool (b : Bool) : Rep w φ ok (.bool b) (.bool b)
  | str (s : ByteArray) : Rep w φ ok (.str s) (.string s)
  | nilp : Rep w φ ok .nilp (.pointer none)
  | ptr (id e k : Nat) (L : Loc) (h : φ id = some L) (hv : L.virt = false) : Rep w φ ok (.ptr id e k) (.pointer (some ⟨L.blk, L.base + e * L.st + k, none⟩))
  | vp (b o : Nat) (cs : List AV) (vs : Nat → Value) (hk : ∀ y ∈ cs, AV.cellOk y = true)
      (hc : ∀ i, i < cs.length → w.cell? ⟨b, o + i, none⟩ = some (vs i) ∧ ok b (o + i))
      (hr : ∀ (i : Nat) (x : AV), cs[i]? = some x → Rep w φ ok x (vs i)) : Rep w φ ok (.vp cs) (.pointer (some ⟨b, o, none⟩))
  | sl (id off len cap : Nat) (L : Loc) (a : Option Addr) (c : Nat) (h : φ id = some L) (hs : SlOk L off len cap a c) :
      Rep w φ ok (.sl id off len cap) (.slice a len c)
  | ls (st : Nat) (nil ex : Bool) (xs : List AV) (a : Option Addr) (c : Nat) (vs : Nat → Nat → Value)
      (hl : LsOk nil ex xs.length a c)
      (hn : ∀ (i : Nat) (x : AV), xs[i]? = some x → okCells st x)
      (hc : ∀ b o, a = some ⟨b, o, none⟩ → ∀ i j, i < xs.length → j < st → w.cell? ⟨b, o + i * st + j, none⟩ = some (vs i j) ∧ ok b (o + i * st + j))
      (hr : ∀ (i : Nat) (x : AV) (j : Nat) (y : AV), xs[i]? = some x → x.cells[j]? = some y → Rep w φ ok y (vs i j)) :
      Rep w φ ok (.ls st nil ex xs) (.slice a xs.length c)
  | agg (cs : List AV) (vs : Array Value) (hl : vs.size = cs.length) (hr : ∀ (i : Nat) (x : AV) (v : Value), cs[i]? = some x → vs[i]? = some v → Rep w φ ok x v) :
      Rep w φ ok (.agg cs) (.agg vs)
  | tup (cs : List AV) (vs : Array Value) (hl : vs.size = cs.length) (hr : ∀ (i : Nat) (x : AV) (v : Value), cs[i]? = some x → vs[i]? = some v → Rep w φ ok x v) :
      Rep w φ ok (.tup cs) (.tuple vs)
  | fn (f : FuncId) (cs : List AV) (vs : Array Value) (hl : vs.size = cs.length) (hr : ∀ (i : Nat) (x : AV) (v : Value), cs[i]? = some x → vs[i]? = some v → Rep w φ ok x v) :
      Rep w φ ok (.fn f cs) (.func (.func f) #[] vs)

theorem Rep.mono {w w' : World} {φ φ' : Nat → Option Loc} {ok ok' : Nat → Nat → Prop}
    (hcell : ∀ b o, ok b o → ok' b o ∧ w'.cell? ⟨b, o, none⟩ = w.cell? ⟨b, o, none⟩)
    (hφ : ∀ id L, φ id = some L → φ' id = some L) {x : AV} {v : Value} (h : Rep w φ ok x v) : Rep w' φ' ok' x v := by
  induction h with
  | undef v => exact .undef v
  | int k n => exact .int k n
  | bool b => exact .bool b
  | str s => exact .str s
  | nilp => exact .nilp
  | ptr id e k L h hv => exact .ptr id e k L (hφ _ _ h) hv
  | vp b o cs vs hk hc hr ih => exact .vp b o cs vs hk (fun i hi => ⟨by rw [(hcell _ _ (hc i hi).2).2]; exact (hc i hi).1, (hcell _ _ (hc i hi).2).1⟩) ih
  | sl id off len cap L a c h hs => exact .sl id off len cap L a c (hφ _ _ h) hs
  | ls st nil ex xs a c vs hl hn hc hr ih =>
    exact .ls st nil ex xs a c vs hl hn (fun b o ha i j hi hj => ⟨by rw [(hcell _ _ (hc b o ha i j hi hj).2).2]; exact (hc b o ha i j hi hj).1, (hcell _ _ (hc b o ha i j hi hj).2).1⟩) ih
  | agg cs vs hl hr ih => exact .agg cs vs hl ih
  | tup cs vs hl hr ih => exact .tup cs vs hl ih
  | fn f cs vs hl hr ih => exact .fn f cs vs hl ih

/-- Cells of a value: as many as the picture has, each pictured. -/
def RepCells (w : World) (φ : Nat → Option Loc) (ok : Nat → Nat → Prop) (cs : List AV) (vs : List Value) : Prop :=
  vs.length = cs.length ∧ ∀ (i : Nat) (x : AV) (v : Value), cs[i]? = some x → vs[i]? = some v → Rep w φ ok x v

theorem Rep.cells {w : World} {φ : Nat → Option Loc} {ok : Nat → Nat → Prop} {x : AV} {v : Value} (h : Rep w φ ok x v) (hx : x ≠ .undef) :
    RepCells w φ ok x.cells v.cells.toList := by
  have one : ∀ (y : AV) (u : Value), Rep w φ ok y u → RepCells w φ ok [y] [u] := by
    intro y u hy
    refine ⟨rfl, fun i a b ha hb => ?_⟩
    cases i with
    | zero => simp at ha hb; subst ha; subst hb; exact hy
    | succ i => simp at ha
  cases h with
  | undef => exact absurd rfl hx
  | agg cs vs hl hr =>
    refine ⟨by simp [AV.cells, Value.cells, hl], fun i a b ha hb => ?_⟩
    simp only [AV.cells, Value.cells] at ha hb
    exact hr i a b ha (by simpa using hb)
  | int k n => exact one _ _ (.int k n)
  | bool b => exact one _ _ (.bool b)
  | str s => exact one _ _ (.str s)
  | nilp => exact one _ _ .nilp
  | ptr id e k L h hv => exact one _ _ (.ptr id e k L h hv)
  | vp b o cs vs hk hc hr => exact one _ _ (.vp b o cs vs hk hc hr)
  | sl id off len cap L a c h hs => exact one _ _ (.sl id off len cap L a c h hs)
  | ls st nil ex xs a c vs hl hn hc hr => exact one _ _ (.ls st nil ex xs a c vs hl hn hc hr)
  | tup cs vs hl hr => exact one _ _ (.tup cs vs hl hr)
  | fn f cs vs hl hr => exact one _ _ (.fn f cs vs hl hr)

/-- Many values at once. -/
def RepAll (w : World) (φ : Nat → Option Loc) (ok : Nat → Nat → Prop) (xs : List AV) (vs : List Value) : Prop :=
  vs.length = xs.length ∧ ∀ (i : Nat) (x : AV) (v : Value), xs[i]? = some x → vs[i]? = some v → Rep w φ ok x v

end Go.Av
