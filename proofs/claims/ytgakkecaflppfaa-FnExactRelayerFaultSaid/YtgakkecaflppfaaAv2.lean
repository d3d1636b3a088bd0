/- States: slots and boxes; how a state pictures the machine. -/
import Derived.Test.YtgakkecaflppfaaAv1
namespace Go.Av

def look {α : Type} : List (Nat × α) → Nat → Option α
  | [], _ => none
  | (k, x) :: r, i => if k = i then some x else look r i

structure St where
  env : List (Nat × AV)
  bx : List (Nat × Option Box)
  nx : Nat

def box? (bx : List (Nat × Option Box)) (id : Nat) : Option Box := (look bx id).join

/-- What is fixed for one activation: the world at its begin, the cells that nobody writes, the blocks that it may write, its slots. -/
structure Gh where
  w0 : World
  ok0 : Nat → Nat → Prop
  wr : Nat → Prop
  n : Nat
  φ0 : Nat → Option Loc
  nx0 : Nat

def Gh.may (G : Gh) (b : Nat) : Prop := G.w0.heap.size ≤ b ∨ G.wr b

/-- No box writes this cell. -/
def okB (bx : List (Nat × Option Box)) (φ : Nat → Option Loc) (b o : Nat) : Prop :=
  ∀ id box L, box? bx id = some box → φ id = some L → L.virt = false → L.blk = b → box.ro = true ∧ o < L.base + box.elems.length * L.st

def OK (G : Gh) (bx : List (Nat × Option Box)) (φ : Nat → Option Loc) (w : World) (b o : Nat) : Prop :=
  b < w.heap.size ∧ okB bx φ b o ∧ (b < G.w0.heap.size → G.ok0 b o ∨ G.wr b)

structure BoxRep (w : World) (φ : Nat → Option Loc) (ok : Nat → Nat → Prop) (L : Loc) (b : Box) : Prop where
  st : b.st = L.st
  slack : b.slack = L.slack
  len : ∀ (i : Nat) (x : AV), b.elems[i]? = some x → okCells L.st x
  virt : L.virt = true → b.elems = []
  lies : L.virt = false → ∃ cs T fr, w.heap[L.blk]? = some (.cells cs T fr) ∧ cs.size = L.size ∧ L.base + b.elems.length * L.st ≤ L.size ∧ (∀ o, o < L.size → ¬ (fr.1 ≤ o ∧ o < fr.2))
  cont : L.virt = false → ∀ (i : Nat) (x : AV) (j : Nat) (y : AV), b.elems[i]? = some x → x.cells[j]? = some y →
    ∃ v, w.cell? ⟨L.blk, L.base + i * L.st + j, none⟩ = some v ∧ Rep w φ ok y v

structure Rel (G : Gh) (bx : List (Nat × Option Box)) (nx : Nat) (φ : Nat → Option Loc) (w : World) : Prop where
  os : w.os = G.w0.os
  tape : w.tape = G.w0.tape
  output : w.output = G.w0.output
  size : G.w0.heap.size ≤ w.heap.size
  frame : ∀ b, b < G.w0.heap.size → ¬ G.wr b → w.heap[b]? = G.w0.heap[b]?
  kept : ∀ b o, G.ok0 b o → w.cell? ⟨b, o, none⟩ = G.w0.cell? ⟨b, o, none⟩
  okk : ∀ b o, G.ok0 b o → b < G.w0.heap.size ∧ okB bx φ b o
  box : ∀ id b, box? bx id = some b → ∃ L, φ id = some L ∧ BoxRep w φ (OK G bx φ w) L b ∧ (L.virt = false → G.may L.blk)
  apart : ∀ id id' b b' L L', box? bx id = some b → box? bx id' = some b' → id ≠ id' → φ id = some L → φ id' = some L' → L.virt = false → L'.virt = false → L.blk ≠ L'.blk
  dom : ∀ id, nx ≤ id → φ id = none
  agree : ∀ id, id < G.nx0 → φ id = G.φ0 id
  nxle : G.nx0 ≤ nx

structure RelA (G : Gh) (st : St) (φ : Nat → Option Loc) (a : Act) (w : World) : Prop where
  rel : Rel G st.bx st.nx φ w
  defers : a.defers = []
  sz : a.tmps.size = G.n
  env : ∀ t v, look st.env t = some v → t < G.n ∧ Rep w φ (OK G st.bx φ w) v (a.tmps.getD t Go.undef)

/-- The world has grown: nothing that was there has turned. -/
structure Ext (w w' : World) : Prop where
  os : w'.os = w.os
  tape : w'.tape = w.tape
  output : w'.output = w.output
  size : w.heap.size ≤ w'.heap.size
  block : ∀ b, b < w.heap.size → w'.heap[b]? = w.heap[b]?

theorem Ext.refl (w : World) : Ext w w := ⟨rfl, rfl, rfl, Nat.le_refl _, fun _ _ => rfl⟩
theorem Ext.trans {a b c : World} (h : Ext a b) (k : Ext b c) : Ext a c :=
  ⟨k.os.trans h.os, k.tape.trans h.tape, k.output.trans h.output, Nat.le_trans h.size k.size, fun x hx => (k.block x (Nat.lt_of_lt_of_le hx h.size)).trans (h.block x hx)⟩
theorem Ext.drew (w : World) : Ext w w.drew := ⟨rfl, rfl, rfl, Nat.le_refl _, fun _ _ => rfl⟩
theorem Ext.alloc (w : World) (o : Obj) : Ext w (w.alloc o) :=
  ⟨rfl, rfl, rfl, by simp, fun b hb => RowKit.Below.heap_alloc _ _ _ hb⟩

theorem cell_of_block {w w' : World} {b : Nat} (h : w'.heap[b]? = w.heap[b]?) (o : Nat) : w'.cell? ⟨b, o, none⟩ = w.cell? ⟨b, o, none⟩ := by
  simp only [World.cell?, h]

theorem Ext.cell {w w' : World} (h : Ext w w') {b : Nat} (hb : b < w.heap.size) (o : Nat) : w'.cell? ⟨b, o, none⟩ = w.cell? ⟨b, o, none⟩ :=
  cell_of_block (h.block b hb) o

theorem lt_of_cell {w : World} {b o : Nat} {v : Value} (h : w.cell? ⟨b, o, none⟩ = some v) : b < w.heap.size :=
  World.block_lt_of_cell? w ⟨b, o, none⟩ h

theorem OK.ext {G : Gh} {bx : List (Nat × Option Box)} {φ : Nat → Option Loc} {w w' : World} (h : Ext w w') {b o : Nat} (k : OK G bx φ w b o) :
    OK G bx φ w' b o ∧ w'.cell? ⟨b, o, none⟩ = w.cell? ⟨b, o, none⟩ :=
  ⟨⟨Nat.lt_of_lt_of_le k.1 h.size, k.2.1, k.2.2⟩, h.cell k.1 o⟩

theorem Rep.ext {G : Gh} {bx : List (Nat × Option Box)} {φ : Nat → Option Loc} {w w' : World} (h : Ext w w') {x : AV} {v : Value}
    (r : Rep w φ (OK G bx φ w) x v) : Rep w' φ (OK G bx φ w') x v :=
  r.mono (fun _ _ k => k.ext h) (fun _ _ e => e)

theorem BoxRep.mono {w w' : World} {φ φ' : Nat → Option Loc} {ok ok' : Nat → Nat → Prop} {L : Loc} {b : Box} (h : BoxRep w φ ok L b)
    (hcell : ∀ b o, ok b o → ok' b o ∧ w'.cell? ⟨b, o, none⟩ = w.cell? ⟨b, o, none⟩)
    (hφ : ∀ id L, φ id = some L → φ' id = some L) (hb : L.virt = false → w'.heap[L.blk]? = w.heap[L.blk]?) : BoxRep w' φ' ok' L b where
  st := h.st
  slack := h.slack
  len := h.len
  virt := h.virt
  lies hv := by obtain ⟨cs, T, fr, e, r⟩ := h.lies hv; exact ⟨cs, T, fr, by rw [hb hv]; exact e, r⟩
  cont hv i x j y hx hy := by
    obtain ⟨v, e, r⟩ := h.cont hv i x j y hx hy
    exact ⟨v, by rw [cell_of_block (hb hv)]; exact e, r.mono hcell hφ⟩

theorem BoxRep.lt {w : World} {φ : Nat → Option Loc} {ok : Nat → Nat → Prop} {L : Loc} {b : Box} (h : BoxRep w φ ok L b) (hv : L.virt = false) : L.blk < w.heap.size := by
  obtain ⟨cs, T, fr, e, _⟩ := h.lies hv
  rcases Nat.lt_or_ge L.blk w.heap.size with k | k
  · exact k
  · simp [Array.getElem?_eq_none k] at e

theorem Rel.ext {G : Gh} {bx : List (Nat × Option Box)} {nx : Nat} {φ : Nat → Option Loc} {w w' : World} (h : Rel G bx nx φ w) (e : Ext w w') : Rel G bx nx φ w' where
  os := e.os.trans h.os
  tape := e.tape.trans h.tape
  output := e.output.trans h.output
  size := Nat.le_trans h.size e.size
  frame b hb hw := (e.block b (Nat.lt_of_lt_of_le hb h.size)).trans (h.frame b hb hw)
  kept b o hk := (e.cell (Nat.lt_of_lt_of_le (h.okk b o hk).1 h.size) o).trans (h.kept b o hk)
  okk := h.okk
  box id b hb := by
    obtain ⟨L, hL, hr, hm⟩ := h.box id b hb
    exact ⟨L, hL, hr.mono (fun _ _ k => k.ext e) (fun _ _ k => k) (fun hv => e.block _ (hr.lt hv)), hm⟩
  apart := h.apart
  dom := h.dom
  agree := h.agree
  nxle := h.nxle

theorem RelA.ext {G : Gh} {st : St} {φ : Nat → Option Loc} {a : Act} {w w' : World} (h : RelA G st φ a w) (e : Ext w w') : RelA G st φ a w' :=
  ⟨h.rel.ext e, h.defers, h.sz, fun t v ht => ⟨(h.env t v ht).1, (h.env t v ht).2.ext e⟩⟩

/-- A cell of a new block is nobody's yet. -/
theorem Rel.ok_new {G : Gh} {bx : List (Nat × Option Box)} {nx : Nat} {φ : Nat → Option Loc} {w : World} (h : Rel G bx nx φ w) {w' : World} {b o : Nat}
    (hb : w.heap.size ≤ b) (hb' : b < w'.heap.size) : OK G bx φ w' b o := by
  refine ⟨hb', fun id box L hi hL hv he => ?_, fun hlt => absurd hlt (by have := h.size; omega)⟩
  obtain ⟨L', hL', hr, _⟩ := h.box id box hi
  obtain rfl : L = L' := by rw [hL] at hL'; exact Option.some.inj hL'
  have := hr.lt hv
  omega

/-- What is never written is nobody's. -/
theorem Rel.ok_of_ok0 {G : Gh} {bx : List (Nat × Option Box)} {nx : Nat} {φ : Nat → Option Loc} {w : World} (h : Rel G bx nx φ w) {b o : Nat} (k : G.ok0 b o) : OK G bx φ w b o :=
  ⟨Nat.lt_of_lt_of_le (h.okk b o k).1 h.size, (h.okk b o k).2, fun _ => .inl k⟩

def St.set (st : St) (d : Option Tmp) (v : AV) : St :=
  match d with
  | some t => { st with env := (t, v) :: st.env }
  | none => st

def slotOk (n : Nat) (d : Option Tmp) : Bool := match d with | some t => decide (t < n) | none => true

theorem look_cons {α : Type} (k : Nat) (x : α) (r : List (Nat × α)) (i : Nat) : look ((k, x) :: r) i = if k = i then some x else look r i := rfl

theorem RelA.put {G : Gh} {st : St} {φ : Nat → Option Loc} {a : Act} {w : World} (h : RelA G st φ a w) {d : Option Tmp} (hd : slotOk G.n d = true) {x : AV} {v : Value}
    (hr : Rep w φ (OK G st.bx φ w) x v) : RelA G (st.set d x) φ (a.put d v) w := by
  cases d with
  | none => exact h
  | some t =>
    have ht : t < G.n := by simpa [slotOk] using hd
    refine ⟨h.rel, h.defers, by simp [Act.put, h.sz], fun t' v' hl => ?_⟩
    simp only [St.set, look_cons] at hl
    by_cases e : t = t'
    · subst e
      rw [if_pos rfl] at hl
      obtain rfl := Option.some.inj hl
      refine ⟨ht, ?_⟩
      have : t < a.tmps.size := by rw [h.sz]; exact ht
      have e2 : (a.put (some t) v).tmps.getD t Go.undef = v := by simp [Act.put, Array.getD, this]
      rw [e2]; exact hr
    · rw [if_neg e] at hl
      refine ⟨(h.env t' v' hl).1, ?_⟩
      have hne : (a.put (some t) v).tmps.getD t' Go.undef = a.tmps.getD t' Go.undef := by
        simp only [Act.put, Array.getD_eq_getD_getElem?, Array.getElem?_setIfInBounds, if_neg e]
      rw [hne]
      exact (h.env t' v' hl).2

theorem RelA.put_undef {G : Gh} {st : St} {φ : Nat → Option Loc} {a : Act} {w : World} (h : RelA G st φ a w) {d : Option Tmp} (hd : slotOk G.n d = true) (v : Value) :
    RelA G (st.set d .undef) φ (a.put d v) w := h.put hd (.undef v)

end Go.Av
