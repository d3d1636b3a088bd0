/- A small logic for code over pictures of values and boxes: part 1. -/
import Derived.Below
import Derived.Calls
import Derived.Laws.Cells
import Derived.Laws.Append
import Derived.Laws.Slices
import Derived.Laws.MakeOwn
import Derived.Laws.Entries
import Derived.Lib.ConvBytes
import Derived.Laws.BytesString
set_option linter.unusedSimpArgs false
set_option linter.unusedVariables false
namespace Go.Av

inductive AV where
  | undef
  | int (k : IntKind) (n : Int)
  | bool (b : Bool)
  | str (s : ByteArray)
  | nilp
  | ptr (id e k : Nat)
  | vp (cs : List AV)
  | sl (id off len cap : Nat)
  | ls (st : Nat) (nil ex : Bool) (xs : List AV)
  | agg (cs : List AV)
  | tup (vs : List AV)
  | fn (f : FuncId) (caps : List AV)
  deriving Inhabited

def AV.cells : AV → List AV
  | .agg cs => cs
  | v => [v]

theorem AV.cells_agg (cs : List AV) : (AV.agg cs).cells = cs := rfl

def AV.cellOk : AV → Bool
  | .agg _ | .tup _ | .undef => false
  | _ => true

def okCells (st : Nat) (x : AV) : Prop := x.cells.length = st ∧ ∀ y ∈ x.cells, y.cellOk = true

structure Loc where
  pos : Nat → Nat × Nat
  own : Nat → Prop
  size : Nat → Nat
  lim : Nat → Nat → Nat
  st : Nat
  slack : Bool
  virt : Bool

def Loc.one (blk base st size : Nat) (slack virt : Bool) : Loc := ⟨fun e => (blk, base + e * st), (· = blk), fun _ => size, fun n _ => base + n * st, st, slack, virt⟩

structure Box where
  elems : List AV
  st : Nat
  slack : Bool
  ro : Bool
  deriving Inhabited

def SlOk (L : Loc) (off len cap : Nat) (a : Option Addr) (c : Nat) : Prop :=
  len ≤ cap ∧ cap ≤ c ∧ (L.slack = false → c = cap) ∧ (∀ x, a = some x → x.spot = x.spot) ∧
  (c ≠ 0 → L.virt = false ∧ ∃ b o, a = some ⟨b, o, none⟩ ∧ L.own b ∧ o + c * L.st ≤ L.size b ∧ (∀ i, i < cap → L.pos (off + i) = (b, o + i * L.st)) ∧ ∀ n, off ≤ n → L.lim n b ≤ o + (n - off) * L.st)

theorem SlOk.part {L : Loc} {off cap c b o : Nat} (l c' cap' : Nat) (h8 : o + c * L.st ≤ L.size b) (h10 : ∀ i, i < cap → L.pos (off + i) = (b, o + i * L.st)) (h11 : ∀ n, off ≤ n → L.lim n b ≤ o + (n - off) * L.st) (hc : l + c' ≤ c) (hcap : l + cap' ≤ cap) :
    o + l * L.st + c' * L.st ≤ L.size b ∧ (∀ i, i < cap' → L.pos (off + l + i) = (b, o + l * L.st + i * L.st)) ∧ ∀ n, off + l ≤ n → L.lim n b ≤ o + l * L.st + (n - (off + l)) * L.st := by
  have h1 : (l + c') * L.st ≤ c * L.st := Nat.mul_le_mul_right _ hc
  rw [Nat.add_mul] at h1
  refine ⟨by omega, fun i hi => ?_, fun n hn => ?_⟩
  · rw [Nat.add_assoc, h10 (l + i) (by omega), Nat.add_mul, Nat.add_assoc]
  · have h2 := h11 n (by omega)
    rw [show n - off = l + (n - (off + l)) by omega, Nat.add_mul] at h2
    omega

def LsOk (nil ex : Bool) (n : Nat) (a : Option Addr) (c : Nat) : Prop :=
  n ≤ c ∧ (ex = true → c = n) ∧ (nil = true → ex = true → a = none) ∧ (nil = false → a ≠ none) ∧ (0 < c → ∃ b o, a = some ⟨b, o, none⟩) ∧ (∀ x, a = some x → x.spot = x.spot)

theorem LsOk.none {nil ex : Bool} {n c : Nat} (h : LsOk nil ex n none c) : n = 0 ∧ c = 0 := by
  have h1 := h.1
  by_cases hc : 0 < c
  · obtain ⟨b, o, e⟩ := h.2.2.2.2.1 hc; cases e
  · omega
theorem LsOk.addr {nil ex : Bool} {n c : Nat} {a : Option Addr} (h : LsOk nil ex n a c) (hn : 0 < n) : ∃ b o, a = some ⟨b, o, Option.none⟩ := h.2.2.2.2.1 (Nat.lt_of_lt_of_le hn h.1)
theorem LsOk.loose {nil ex : Bool} {n c : Nat} {a : Option Addr} (h : LsOk nil ex n a c) : LsOk true false n a c := ⟨h.1, fun e => (by cases e), fun _ e => (by cases e), fun e => (by cases e), h.2.2.2.2⟩

inductive Rep (w : World) (φ : Nat → Option Loc) (ok : Nat → Nat → Prop) : AV → Value → Prop where
  | undef (v : Value) : Rep w φ ok .undef v
  | int (k : IntKind) (n : Int) : Rep w φ ok (.int k n) (.int k n)
  | bool (b : Bool) : Rep w φ ok (.bool b) (.bool b)
  | str (s : ByteArray) : Rep w φ ok (.str s) (.string s)
  | nilp : Rep w φ ok .nilp (.pointer none)
  | ptr (id e k : Nat) (L : Loc) (h : φ id = some L) (hv : L.virt = false) : Rep w φ ok (.ptr id e k) (.pointer (some ⟨(L.pos e).1, (L.pos e).2 + k, none⟩))
  | vp (b o : Nat) (cs : List AV) (vs : Nat → Value) (hk : ∀ y ∈ cs, AV.cellOk y = true)
      (hc : ∀ i, i < cs.length → w.cell? ⟨b, o + i, none⟩ = some (vs i) ∧ ok b (o + i))
      (hr : ∀ (i : Nat) (x : AV), cs[i]? = some x → Rep w φ ok x (vs i)) : Rep w φ ok (.vp cs) (.pointer (some ⟨b, o, none⟩))
  | sl (id off len cap : Nat) (L : Loc) (a : Option Addr) (c : Nat) (h : φ id = some L) (hs : SlOk L off len cap a c) :
      Rep w φ ok (.sl id off len cap) (.slice a len c)
  | ls (st : Nat) (nil ex : Bool) (xs : List AV) (a : Option Addr) (c : Nat) (vs : Nat → Nat → Value)
      (hl : LsOk nil ex xs.length a c)
      (hn : ∀ (i : Nat) (x : AV), xs[i]? = some x → okCells st x)
      (hc : ∀ b o, a = some ⟨b, o, none⟩ → ∀ i j, i < xs.length → j < st → w.cell? ⟨b, o + i * st + j, none⟩ = some (vs i j) ∧ ok b (o + i * st + j))
      (hr : ∀ (i : Nat) (x : AV) (j : Nat) (y : AV), xs[i]? = some x → x.cells[j]? = some y → Rep w φ ok y (vs i j)) :
      Rep w φ ok (.ls st nil ex xs) (.slice a xs.length c)
  | agg (cs : List AV) (vs : Array Value) (hl : vs.size = cs.length) (hr : ∀ (i : Nat) (x : AV) (v : Value), cs[i]? = some x → vs[i]? = some v → Rep w φ ok x v) :
      Rep w φ ok (.agg cs) (.agg vs)
  | tup (cs : List AV) (vs : Array Value) (hl : vs.size = cs.length) (hr : ∀ (i : Nat) (x : AV) (v : Value), cs[i]? = some x → vs[i]? = some v → Rep w φ ok x v) :
      Rep w φ ok (.tup cs) (.tuple vs)
  | fn (f : FuncId) (cs : List AV) (vs : Array Value) (hl : vs.size = cs.length) (hr : ∀ (i : Nat) (x : AV) (v : Value), cs[i]? = some x → vs[i]? = some v → Rep w φ ok x v) :
      Rep w φ ok (.fn f cs) (.func (.func f) #[] vs)

theorem Rep.mono {w w' : World} {φ φ' : Nat → Option Loc} {ok ok' : Nat → Nat → Prop}
    (hcell : ∀ b o, ok b o → ok' b o ∧ w'.cell? ⟨b, o, none⟩ = w.cell? ⟨b, o, none⟩)
    (hφ : ∀ id L, φ id = some L → φ' id = some L) {x : AV} {v : Value} (h : Rep w φ ok x v) : Rep w' φ' ok' x v := by
  induction h with
  | undef v => exact .undef v
  | int k n => exact .int k n
  | bool b => exact .bool b
  | str s => exact .str s
  | nilp => exact .nilp
  | ptr id e k L h hv => exact .ptr id e k L (hφ _ _ h) hv
  | vp b o cs vs hk hc hr ih => exact .vp b o cs vs hk (fun i hi => ⟨by rw [(hcell _ _ (hc i hi).2).2]; exact (hc i hi).1, (hcell _ _ (hc i hi).2).1⟩) ih
  | sl id off len cap L a c h hs => exact .sl id off len cap L a c (hφ _ _ h) hs
  | ls st nil ex xs a c vs hl hn hc hr ih =>
    exact .ls st nil ex xs a c vs hl hn (fun b o ha i j hi hj => ⟨by rw [(hcell _ _ (hc b o ha i j hi hj).2).2]; exact (hc b o ha i j hi hj).1, (hcell _ _ (hc b o ha i j hi hj).2).1⟩) ih
  | agg cs vs hl hr ih => exact .agg cs vs hl ih
  | tup cs vs hl hr ih => exact .tup cs vs hl ih
  | fn f cs vs hl hr ih => exact .fn f cs vs hl ih

def RepCells (w : World) (φ : Nat → Option Loc) (ok : Nat → Nat → Prop) (cs : List AV) (vs : List Value) : Prop :=
  vs.length = cs.length ∧ ∀ (i : Nat) (x : AV) (v : Value), cs[i]? = some x → vs[i]? = some v → Rep w φ ok x v

theorem Rep.cells {w : World} {φ : Nat → Option Loc} {ok : Nat → Nat → Prop} {x : AV} {v : Value} (h : Rep w φ ok x v) (hx : x ≠ .undef) :
    RepCells w φ ok x.cells v.cells.toList := by
  have one : ∀ (y : AV) (u : Value), Rep w φ ok y u → RepCells w φ ok [y] [u] := by
    intro y u hy
    refine ⟨rfl, fun i a b ha hb => ?_⟩
    cases i with
    | zero => simp at ha hb; subst ha; subst hb; exact hy
    | succ i => simp at ha
  cases h with
  | undef => exact absurd rfl hx
  | agg cs vs hl hr =>
    refine ⟨by simp [AV.cells, Value.cells, hl], fun i a b ha hb => ?_⟩
    simp only [AV.cells, Value.cells] at ha hb
    exact hr i a b ha (by simpa using hb)
  | int k n => exact one _ _ (.int k n)
  | bool b => exact one _ _ (.bool b)
  | str s => exact one _ _ (.str s)
  | nilp => exact one _ _ .nilp
  | ptr id e k L h hv => exact one _ _ (.ptr id e k L h hv)
  | vp b o cs vs hk hc hr => exact one _ _ (.vp b o cs vs hk hc hr)
  | sl id off len cap L a c h hs => exact one _ _ (.sl id off len cap L a c h hs)
  | ls st nil ex xs a c vs hl hn hc hr => exact one _ _ (.ls st nil ex xs a c vs hl hn hc hr)
  | tup cs vs hl hr => exact one _ _ (.tup cs vs hl hr)
  | fn f cs vs hl hr => exact one _ _ (.fn f cs vs hl hr)

def RepAll (w : World) (φ : Nat → Option Loc) (ok : Nat → Nat → Prop) (xs : List AV) (vs : List Value) : Prop :=
  vs.length = xs.length ∧ ∀ (i : Nat) (x : AV) (v : Value), xs[i]? = some x → vs[i]? = some v → Rep w φ ok x v

end Go.Av
namespace Go.Av

def look {α : Type} : List (Nat × α) → Nat → Option α
  | [], _ => none
  | (k, x) :: r, i => if k = i then some x else look r i

structure St where
  env : List (Nat × AV)
  bx : List (Nat × Option Box)
  nx : Nat

def box? (bx : List (Nat × Option Box)) (id : Nat) : Option Box := (look bx id).join

structure Gh where
  w0 : World
  ok0 : Nat → Nat → Prop
  wr : Nat → Prop
  n : Nat
  φ0 : Nat → Option Loc
  nx0 : Nat

def Gh.may (G : Gh) (b : Nat) : Prop := G.w0.heap.size ≤ b ∨ G.wr b

def okB (bx : List (Nat × Option Box)) (φ : Nat → Option Loc) (b o : Nat) : Prop :=
  ∀ id box L, box? bx id = some box → φ id = some L → L.virt = false → L.own b → box.ro = true ∧ o < L.lim box.elems.length b

def OK (G : Gh) (bx : List (Nat × Option Box)) (φ : Nat → Option Loc) (w : World) (b o : Nat) : Prop :=
  b < w.heap.size ∧ okB bx φ b o ∧ (b < G.w0.heap.size → G.ok0 b o ∨ G.wr b)

structure Lies (w : World) (L : Loc) (n : Nat) : Prop where
  blk : ∀ b, L.own b → ∃ cs T fr, w.heap[b]? = some (.cells cs T fr) ∧ cs.size = L.size b ∧ (∀ o, o < L.size b → ¬ (fr.1 ≤ o ∧ o < fr.2))
  own : ∀ e, e < n → L.own (L.pos e).1 ∧ (L.pos e).2 + L.st ≤ L.size (L.pos e).1
  lim : ∀ m e, e < m → m ≤ n → (L.pos e).2 + L.st ≤ L.lim m (L.pos e).1
  dis : ∀ e e', e < n → e' < n → e ≠ e' → (L.pos e).1 = (L.pos e').1 → (L.pos e).2 + L.st ≤ (L.pos e').2 ∨ (L.pos e').2 + L.st ≤ (L.pos e).2

theorem Lies.at' {w : World} {L : Loc} {n : Nat} (h : Lies w L n) (e : Nat) (he : e < n) : L.own (L.pos e).1 ∧ (L.pos e).2 + L.st ≤ L.size (L.pos e).1 ∧ (L.pos e).2 + L.st ≤ L.lim n (L.pos e).1 :=
  ⟨(h.own e he).1, (h.own e he).2, h.lim n e he (Nat.le_refl n)⟩
theorem Lies.take {w : World} {L : Loc} {n m : Nat} (h : Lies w L n) (hm : m ≤ n) : Lies w L m :=
  ⟨h.blk, fun e he => h.own e (Nat.lt_of_lt_of_le he hm), fun k e he hk => h.lim k e he (Nat.le_trans hk hm), fun e e' he he' => h.dis e e' (Nat.lt_of_lt_of_le he hm) (Nat.lt_of_lt_of_le he' hm)⟩

theorem lies_one {w : World} {blk base st size n : Nat} {slack virt : Bool} (h : ∃ cs T fr, w.heap[blk]? = some (.cells cs T fr) ∧ cs.size = size ∧ base + n * st ≤ size ∧ (∀ o, o < size → ¬ (fr.1 ≤ o ∧ o < fr.2))) : Lies w (.one blk base st size slack virt) n := by
  obtain ⟨cs, T, fr, h1, h2, h3, h4⟩ := h
  have lt : ∀ e m, e < m → e * st + st ≤ m * st := fun e m h => by
    have : (e + 1) * st ≤ m * st := Nat.mul_le_mul_right _ h
    rwa [Nat.succ_mul] at this
  refine ⟨fun k hk => ?_, fun e he => ?_, fun m e he hm => ?_, fun e e' he he' hne hb => ?_⟩
  · obtain rfl : k = blk := hk
    exact ⟨cs, T, fr, h1, h2, h4⟩
  · have := lt e n he
    refine ⟨rfl, ?_⟩
    show base + e * st + st ≤ size
    omega
  · have := lt e m he
    show base + e * st + st ≤ base + m * st
    omega
  · show base + e * st + st ≤ base + e' * st ∨ base + e' * st + st ≤ base + e * st
    rcases Nat.lt_or_gt_of_ne hne with k | k
    · have := lt e e' k; omega
    · have := lt e' e k; omega

structure BoxRep (w : World) (φ : Nat → Option Loc) (ok : Nat → Nat → Prop) (L : Loc) (b : Box) : Prop where
  st : b.st = L.st
  slack : b.slack = L.slack
  len : ∀ (i : Nat) (x : AV), b.elems[i]? = some x → okCells L.st x
  virt : L.virt = true → b.elems = []
  lies : L.virt = false → Lies w L b.elems.length
  cont : L.virt = false → ∀ (i : Nat) (x : AV) (j : Nat) (y : AV), b.elems[i]? = some x → x.cells[j]? = some y →
    ∃ v, w.cell? ⟨(L.pos i).1, (L.pos i).2 + j, none⟩ = some v ∧ Rep w φ ok y v

structure Rel (G : Gh) (bx : List (Nat × Option Box)) (nx : Nat) (φ : Nat → Option Loc) (w : World) : Prop where
  os : w.os = G.w0.os
  tape : w.tape = G.w0.tape
  output : w.output = G.w0.output
  size : G.w0.heap.size ≤ w.heap.size
  frame : ∀ b, b < G.w0.heap.size → ¬ G.wr b → w.heap[b]? = G.w0.heap[b]?
  kept : ∀ b o, G.ok0 b o → w.cell? ⟨b, o, none⟩ = G.w0.cell? ⟨b, o, none⟩
  okk : ∀ b o, G.ok0 b o → b < G.w0.heap.size ∧ okB bx φ b o
  box : ∀ id b, box? bx id = some b → ∃ L, φ id = some L ∧ BoxRep w φ (OK G bx φ w) L b ∧ (L.virt = false → ∀ k, L.own k → G.may k)
  apart : ∀ id id' b b' L L', box? bx id = some b → box? bx id' = some b' → id ≠ id' → φ id = some L → φ id' = some L' → L.virt = false → L'.virt = false → ∀ k, L.own k → ¬ L'.own k
  dom : ∀ id, nx ≤ id → φ id = none
  agree : ∀ id, id < G.nx0 → φ id = G.φ0 id
  nxle : G.nx0 ≤ nx

structure RelA (G : Gh) (st : St) (φ : Nat → Option Loc) (a : Act) (w : World) : Prop where
  rel : Rel G st.bx st.nx φ w
  defers : a.defers = []
  sz : a.tmps.size = G.n
  env : ∀ t v, look st.env t = some v → t < G.n ∧ Rep w φ (OK G st.bx φ w) v (a.tmps.getD t Go.undef)

structure Ext (w w' : World) : Prop where
  os : w'.os = w.os
  tape : w'.tape = w.tape
  output : w'.output = w.output
  size : w.heap.size ≤ w'.heap.size
  block : ∀ b, b < w.heap.size → w'.heap[b]? = w.heap[b]?

theorem Ext.refl (w : World) : Ext w w := ⟨rfl, rfl, rfl, Nat.le_refl _, fun _ _ => rfl⟩
theorem Ext.trans {a b c : World} (h : Ext a b) (k : Ext b c) : Ext a c :=
  ⟨k.os.trans h.os, k.tape.trans h.tape, k.output.trans h.output, Nat.le_trans h.size k.size, fun x hx => (k.block x (Nat.lt_of_lt_of_le hx h.size)).trans (h.block x hx)⟩
theorem Ext.drew (w : World) : Ext w w.drew := ⟨rfl, rfl, rfl, Nat.le_refl _, fun _ _ => rfl⟩
theorem Ext.alloc (w : World) (o : Obj) : Ext w (w.alloc o) :=
  ⟨rfl, rfl, rfl, by simp, fun b hb => RowKit.Below.heap_alloc _ _ _ hb⟩

theorem cell_of_block {w w' : World} {b : Nat} (h : w'.heap[b]? = w.heap[b]?) (o : Nat) : w'.cell? ⟨b, o, none⟩ = w.cell? ⟨b, o, none⟩ := by
  simp only [World.cell?, h]

theorem Ext.cell {w w' : World} (h : Ext w w') {b : Nat} (hb : b < w.heap.size) (o : Nat) : w'.cell? ⟨b, o, none⟩ = w.cell? ⟨b, o, none⟩ :=
  cell_of_block (h.block b hb) o

theorem OK.ext {G : Gh} {bx : List (Nat × Option Box)} {φ : Nat → Option Loc} {w w' : World} (h : Ext w w') {b o : Nat} (k : OK G bx φ w b o) :
    OK G bx φ w' b o ∧ w'.cell? ⟨b, o, none⟩ = w.cell? ⟨b, o, none⟩ :=
  ⟨⟨Nat.lt_of_lt_of_le k.1 h.size, k.2.1, k.2.2⟩, h.cell k.1 o⟩

theorem Rep.ext {G : Gh} {bx : List (Nat × Option Box)} {φ : Nat → Option Loc} {w w' : World} (h : Ext w w') {x : AV} {v : Value}
    (r : Rep w φ (OK G bx φ w) x v) : Rep w' φ (OK G bx φ w') x v :=
  r.mono (fun _ _ k => k.ext h) (fun _ _ e => e)

theorem BoxRep.mono {w w' : World} {φ φ' : Nat → Option Loc} {ok ok' : Nat → Nat → Prop} {L : Loc} {b : Box} (h : BoxRep w φ ok L b)
    (hcell : ∀ b o, ok b o → ok' b o ∧ w'.cell? ⟨b, o, none⟩ = w.cell? ⟨b, o, none⟩)
    (hφ : ∀ id L, φ id = some L → φ' id = some L) (hb : L.virt = false → ∀ k, L.own k → w'.heap[k]? = w.heap[k]?) : BoxRep w' φ' ok' L b where
  st := h.st
  slack := h.slack
  len := h.len
  virt := h.virt
  lies hv := ⟨fun k hk => by obtain ⟨cs, T, fr, e, r⟩ := (h.lies hv).blk k hk; exact ⟨cs, T, fr, by rw [hb hv k hk]; exact e, r⟩, (h.lies hv).own, (h.lies hv).lim, (h.lies hv).dis⟩
  cont hv i x j y hx hy := by
    obtain ⟨v, e, r⟩ := h.cont hv i x j y hx hy
    exact ⟨v, by rw [cell_of_block (hb hv _ ((h.lies hv).at' i (List.getElem?_eq_some_iff.1 hx).1).1)]; exact e, r.mono hcell hφ⟩

theorem BoxRep.lt {w : World} {φ : Nat → Option Loc} {ok : Nat → Nat → Prop} {L : Loc} {b : Box} (h : BoxRep w φ ok L b) (hv : L.virt = false) {k0 : Nat} (hk0 : L.own k0) : k0 < w.heap.size := by
  obtain ⟨cs, T, fr, e, _⟩ := (h.lies hv).blk k0 hk0
  rcases Nat.lt_or_ge k0 w.heap.size with k | k
  · exact k
  · simp [Array.getElem?_eq_none k] at e

theorem Rel.ext {G : Gh} {bx : List (Nat × Option Box)} {nx : Nat} {φ : Nat → Option Loc} {w w' : World} (h : Rel G bx nx φ w) (e : Ext w w') : Rel G bx nx φ w' where
  os := e.os.trans h.os
  tape := e.tape.trans h.tape
  output := e.output.trans h.output
  size := Nat.le_trans h.size e.size
  frame b hb hw := (e.block b (Nat.lt_of_lt_of_le hb h.size)).trans (h.frame b hb hw)
  kept b o hk := (e.cell (Nat.lt_of_lt_of_le (h.okk b o hk).1 h.size) o).trans (h.kept b o hk)
  okk := h.okk
  box id b hb := by
    obtain ⟨L, hL, hr, hm⟩ := h.box id b hb
    exact ⟨L, hL, hr.mono (fun _ _ k => k.ext e) (fun _ _ k => k) (fun hv k hk => e.block _ (hr.lt hv hk)), hm⟩
  apart := h.apart
  dom := h.dom
  agree := h.agree
  nxle := h.nxle

theorem RelA.ext {G : Gh} {st : St} {φ : Nat → Option Loc} {a : Act} {w w' : World} (h : RelA G st φ a w) (e : Ext w w') : RelA G st φ a w' :=
  ⟨h.rel.ext e, h.defers, h.sz, fun t v ht => ⟨(h.env t v ht).1, (h.env t v ht).2.ext e⟩⟩

theorem Rel.ok_new {G : Gh} {bx : List (Nat × Option Box)} {nx : Nat} {φ : Nat → Option Loc} {w : World} (h : Rel G bx nx φ w) {w' : World} {b o : Nat}
    (hb : w.heap.size ≤ b) (hb' : b < w'.heap.size) : OK G bx φ w' b o := by
  refine ⟨hb', fun id box L hi hL hv he => ?_, fun hlt => absurd hlt (by have := h.size; omega)⟩
  obtain ⟨L', hL', hr, _⟩ := h.box id box hi
  obtain rfl : L = L' := by rw [hL] at hL'; exact Option.some.inj hL'
  have := hr.lt hv he
  omega

theorem Rel.ok_of_ok0 {G : Gh} {bx : List (Nat × Option Box)} {nx : Nat} {φ : Nat → Option Loc} {w : World} (h : Rel G bx nx φ w) {b o : Nat} (k : G.ok0 b o) : OK G bx φ w b o :=
  ⟨Nat.lt_of_lt_of_le (h.okk b o k).1 h.size, (h.okk b o k).2, fun _ => .inl k⟩

def St.set (st : St) (d : Option Tmp) (v : AV) : St :=
  match d with
  | some t => { st with env := (t, v) :: st.env }
  | none => st

def slotOk (n : Nat) (d : Option Tmp) : Bool := match d with | some t => decide (t < n) | none => true

theorem look_cons {α : Type} (k : Nat) (x : α) (r : List (Nat × α)) (i : Nat) : look ((k, x) :: r) i = if k = i then some x else look r i := rfl

theorem RelA.put {G : Gh} {st : St} {φ : Nat → Option Loc} {a : Act} {w : World} (h : RelA G st φ a w) {d : Option Tmp} (hd : slotOk G.n d = true) {x : AV} {v : Value}
    (hr : Rep w φ (OK G st.bx φ w) x v) : RelA G (st.set d x) φ (a.put d v) w := by
  cases d with
  | none => exact h
  | some t =>
    have ht : t < G.n := by simpa [slotOk] using hd
    refine ⟨h.rel, h.defers, by simp [Act.put, h.sz], fun t' v' hl => ?_⟩
    simp only [St.set, look_cons] at hl
    by_cases e : t = t'
    · subst e
      rw [if_pos rfl] at hl
      obtain rfl := Option.some.inj hl
      refine ⟨ht, ?_⟩
      have : t < a.tmps.size := by rw [h.sz]; exact ht
      have e2 : (a.put (some t) v).tmps.getD t Go.undef = v := by simp [Act.put, Array.getD, this]
      rw [e2]; exact hr
    · rw [if_neg e] at hl
      refine ⟨(h.env t' v' hl).1, ?_⟩
      have hne : (a.put (some t) v).tmps.getD t' Go.undef = a.tmps.getD t' Go.undef := by
        simp only [Act.put, Array.getD_eq_getD_getElem?, Array.getElem?_setIfInBounds, if_neg e]
      rw [hne]
      exact (h.env t' v' hl).2

theorem RelA.put_undef {G : Gh} {st : St} {φ : Nat → Option Loc} {a : Act} {w : World} (h : RelA G st φ a w) {d : Option Tmp} (hd : slotOk G.n d = true) (v : Value) :
    RelA G (st.set d .undef) φ (a.put d v) w := h.put hd (.undef v)

end Go.Av
namespace Go.Av

inductive TK where
  | bool | int (k : IntKind) | str | slice (e : TypeId) | ptr | arr (n : Nat) (e : TypeId) | struct (fs : List (Nat × TypeId)) | other
  deriving Inhabited

structure TI where
  size : Nat
  bytes : Nat
  zero : List AV
  k : TK
  deriving Inhabited

def ofVal : Value → AV
  | .int k n => .int k n
  | .bool b => .bool b
  | .string s => .str s
  | .pointer none => .nilp
  | .slice none 0 0 => .ls 0 true true []
  | _ => .undef

def kOf : TypeDesc → TK
  | .bool => .bool
  | .int k => .int k
  | .string => .str
  | .slice e => .slice e
  | .pointer _ => .ptr
  | .array n e => .arr n e
  | .struct fs => .struct (fs.toList.map fun f => (f.offset, f.type))
  | _ => .other

def tiOf (P : Program) (t : TypeId) : Option TI :=
  match P.underlying t, P.info? t with
  | some d, some i => match i.zero with
    | some z => if z.cells.size = i.size then some ⟨i.size, i.bytes, z.cells.toList.map ofVal, kOf d⟩ else none
    | none => none
  | _, _ => none

def TyOk (P : Program) (ty : TypeId → Option TI) : Prop := ∀ t i, ty t = some i → tiOf P t = some i

structure TyAt (P : Program) (t : TypeId) (i : TI) (d : TypeDesc) (f : TypeInfo) (z : Value) : Prop where
  und : P.underlying t = some d
  info : P.info? t = some f
  zero : f.zero = some z
  size : f.size = i.size
  bytes : f.bytes = i.bytes
  cells : z.cells.size = i.size
  zer : i.zero = z.cells.toList.map ofVal
  kind : i.k = kOf d

theorem TyOk.at {P : Program} {ty : TypeId → Option TI} (h : TyOk P ty) {t : TypeId} {i : TI} (e : ty t = some i) : ∃ d f z, TyAt P t i d f z := by
  have k := h t i e
  unfold tiOf at k
  split at k
  · rename_i d f hd hf
    split at k
    · rename_i z hz
      split at k
      · rename_i hs
        obtain rfl := Option.some.inj k
        exact ⟨d, f, z, hd, hf, hz, rfl, rfl, hs, rfl, rfl⟩
      · cases k
    · cases k
  · cases k

theorem TyAt.slice {P : Program} {t : TypeId} {i : TI} {d : TypeDesc} {f : TypeInfo} {z : Value} (h : TyAt P t i d f z) {e : TypeId} (k : i.k = .slice e) : d = .slice e := by
  rw [h.kind] at k; cases d <;> simp_all [kOf]
theorem TyAt.int {P : Program} {t : TypeId} {i : TI} {d : TypeDesc} {f : TypeInfo} {z : Value} (h : TyAt P t i d f z) {e : IntKind} (k : i.k = .int e) : d = .int e := by
  rw [h.kind] at k; cases d <;> simp_all [kOf]
theorem TyAt.str {P : Program} {t : TypeId} {i : TI} {d : TypeDesc} {f : TypeInfo} {z : Value} (h : TyAt P t i d f z) (k : i.k = .str) : d = .string := by
  rw [h.kind] at k; cases d <;> simp_all [kOf]
theorem TyAt.bool {P : Program} {t : TypeId} {i : TI} {d : TypeDesc} {f : TypeInfo} {z : Value} (h : TyAt P t i d f z) (k : i.k = .bool) : d = .bool := by
  rw [h.kind] at k; cases d <;> simp_all [kOf]
theorem TyAt.arr {P : Program} {t : TypeId} {i : TI} {d : TypeDesc} {f : TypeInfo} {z : Value} (h : TyAt P t i d f z) {n e : Nat} (k : i.k = .arr n e) : d = .array n e := by
  rw [h.kind] at k; cases d <;> simp_all [kOf]
theorem TyAt.struct {P : Program} {t : TypeId} {i : TI} {d : TypeDesc} {f : TypeInfo} {z : Value} (h : TyAt P t i d f z) {fs : List (Nat × TypeId)} (k : i.k = .struct fs) :
    ∃ a, d = .struct a ∧ fs = a.toList.map fun f => (f.offset, f.type) := by
  rw [h.kind] at k; cases d <;> simp_all [kOf]

theorem TyAt.run_sizeOf {P : Program} {t : TypeId} {i : TI} {d : TypeDesc} {f : TypeInfo} {z : Value} (h : TyAt P t i d f z) (w : World) : (sizeOf t).run P w = .ok i.size w := by
  simp [sizeOf, typeInfo, h.info, h.size]
theorem TyAt.run_zero {P : Program} {t : TypeId} {i : TI} {d : TypeDesc} {f : TypeInfo} {z : Value} (h : TyAt P t i d f z) (w : World) : (zeroValue t).run P w = .ok z w := by
  simp [zeroValue, typeInfo, h.info, h.zero]
theorem TyAt.run_info {P : Program} {t : TypeId} {i : TI} {d : TypeDesc} {f : TypeInfo} {z : Value} (h : TyAt P t i d f z) (w : World) : (typeInfo t).run P w = .ok f w := by
  simp [typeInfo, h.info]
theorem TyAt.run_und {P : Program} {t : TypeId} {i : TI} {d : TypeDesc} {f : TypeInfo} {z : Value} (h : TyAt P t i d f z) (w : World) : (underlying t).run P w = .ok d w :=
  run_underlying h.und w

def isAggK : TK → Bool
  | .arr .. | .struct .. => true
  | _ => false

theorem TyAt.run_isAgg {P : Program} {t : TypeId} {i : TI} {d : TypeDesc} {f : TypeInfo} {z : Value} (h : TyAt P t i d f z) (w : World) : (Go.isAgg t).run P w = .ok (isAggK i.k) w := by
  rw [h.kind]
  cases d <;> simp [Go.isAgg, run_underlying h.und, isAggK, kOf]

theorem rep_ofVal (w : World) (φ : Nat → Option Loc) (ok : Nat → Nat → Prop) (v : Value) : Rep w φ ok (ofVal v) v := by
  unfold ofVal
  split
  · exact .int _ _
  · exact .bool _
  · exact .str _
  · exact .nilp
  · refine .ls 0 true true [] none 0 (fun _ _ => Go.undef) ⟨Nat.le_refl _, fun _ => rfl, fun _ _ => rfl, (fun h => by cases h), fun h => absurd h (by omega), fun x h => (by cases h)⟩ ?_ ?_ ?_
    · intro i x h; simp at h
    · intro b o h; cases h
    · intro i x j y h; simp at h
  · exact .undef _

theorem ofVal_cells_one (v : Value) : (ofVal v).cells = [ofVal v] := by
  unfold ofVal; split <;> rfl

theorem rep_zero {P : Program} {t : TypeId} {i : TI} {d : TypeDesc} {f : TypeInfo} {z : Value} (h : TyAt P t i d f z) (w : World) (φ : Nat → Option Loc) (ok : Nat → Nat → Prop) :
    RepCells w φ ok i.zero z.cells.toList := by
  rw [h.zer]
  refine ⟨by simp, fun j x v hx hv => ?_⟩
  rw [List.getElem?_map, hv] at hx
  simp at hx
  subst hx
  exact rep_ofVal w φ ok v

def AV.toI : AV → Int
  | .int _ n => n
  | _ => 0
def AV.toB : AV → Bool
  | .bool b => b
  | _ => false
def AV.toS : AV → ByteArray
  | .str s => s
  | _ => .empty
def AV.lsSt : AV → Nat
  | .ls st _ _ _ => st
  | _ => 0
def AV.lsNil : AV → Bool
  | .ls _ n _ _ => n
  | _ => false
def AV.lsEx : AV → Bool
  | .ls _ _ e _ => e
  | _ => false
def AV.lsXs : AV → List AV
  | .ls _ _ _ xs => xs
  | _ => []

def norm (deep : Bool) (k : TK) (x : AV) : Prop × AV :=
  match k with
  | .int k => (x = .int k x.toI, .int k x.toI)
  | .bool => (x = .bool x.toB, .bool x.toB)
  | .str => (x = .str x.toS, .str x.toS)
  | .slice _ => if deep then (x = .ls x.lsSt x.lsNil x.lsEx x.lsXs, .ls x.lsSt x.lsNil x.lsEx x.lsXs) else (True, x)
  | _ => (True, x)

theorem norm_eq {deep : Bool} {k : TK} {x : AV} (h : (norm deep k x).1) : (norm deep k x).2 = x := by
  unfold norm at *
  cases k <;> simp only at h ⊢ <;> first | exact h.symm | rfl | skip
  split at h <;> rename_i hd <;> simp only [hd] <;> first | exact h.symm | rfl

def cut (deep : Bool) (ti : TI) (cs : List AV) (k : Nat) : Prop × AV :=
  if isAggK ti.k then (k + ti.size ≤ cs.length, .agg ((cs.drop k).take ti.size))
  else (k < cs.length ∧ (norm deep ti.k (cs.getD k .undef)).1, (norm deep ti.k (cs.getD k .undef)).2)

theorem bigmap_get (f : Nat → Value) (n i : Nat) (v : Value) (h : (((List.range n).map f).toArray)[i]? = some v) : i < n ∧ v = f i := by
  by_cases hi : i < n
  · simp [hi] at h; exact ⟨hi, h.symm⟩
  · simp [hi] at h

theorem loadVar_ok {P : Program} {t : TypeId} {ti : TI} {d : TypeDesc} {f : TypeInfo} {z : Value} (ht : TyAt P t ti d f z) {w : World} {φ : Nat → Option Loc} {ok : Nat → Nat → Prop}
    {b o : Nat} {cs : List AV} {k : Nat} {deep : Bool}
    (hc : ∀ (j : Nat) (x : AV), cs[j]? = some x → ∃ v, w.cell? ⟨b, o + j, none⟩ = some v ∧ Rep w φ ok x v)
    (hp : (cut deep ti cs k).1) :
    ∃ v, (loadVar t ⟨b, o + k, none⟩).run P w = .ok v w ∧ Rep w φ ok (cut deep ti cs k).2 v := by
  unfold cut at *
  cases ha : isAggK ti.k with
  | true =>
    simp only [ha, if_true] at hp ⊢
    have hx : ∀ j, j < ti.size → ∃ v, w.cell? ⟨b, o + k + j, none⟩ = some v := by
      intro j hj
      obtain ⟨v, hv, _⟩ := hc (k + j) cs[k + j] (List.getElem?_eq_getElem (by omega))
      exact ⟨v, by rw [Nat.add_assoc]; exact hv⟩
    refine ⟨.agg (((List.range ti.size).map fun j => (w.cell? ⟨b, o + k + j, none⟩).getD Go.undef).toArray), ?_, ?_⟩
    · simp only [loadVar, Sem.run_bind, ht.run_isAgg, Result.andThen_ok, ha, if_true, ht.run_sizeOf]
      rw [run_loadCells w ⟨b, o + k, none⟩ ti.size (fun j => (w.cell? ⟨b, o + k + j, none⟩).getD Go.undef) (fun j hj => by
        obtain ⟨v, hv⟩ := hx j hj
        rw [Addr.add_lit, hv]; rfl)]
      rfl
    · refine .agg _ _ (by simp; omega) (fun i x v hx' hv => ?_)
      obtain ⟨hi, rfl⟩ := bigmap_get _ _ _ _ hv
      rw [List.getElem?_take_of_lt hi, List.getElem?_drop] at hx'
      obtain ⟨v, hv', hr⟩ := hc (k + i) x hx'
      rw [← Nat.add_assoc] at hv'
      simp only [hv', Option.getD_some]
      exact hr
  | false =>
    simp only [ha] at hp ⊢
    obtain ⟨hk, hn⟩ := hp
    obtain ⟨v, hv, hr⟩ := hc k cs[k] (List.getElem?_eq_getElem hk)
    refine ⟨v, ?_, ?_⟩
    · simp only [loadVar, Sem.run_bind, ht.run_isAgg, Result.andThen_ok, ha]
      simp [hv]
    · rw [if_neg (by simp), norm_eq hn]
      simpa [List.getD, List.getElem?_eq_getElem hk] using hr

end Go.Av
namespace Go.Av

def AV.flat : AV → Bool
  | .agg _ => false
  | _ => true

def splice {α : Type} (cs : List α) (off : Nat) (xs : List α) : List α := cs.take off ++ xs ++ cs.drop (off + xs.length)

def fillS (ty : TypeId → Option TI) (fs : List (Nat × TypeId)) : List (Nat × AV) → List AV → Option (Prop × List AV)
  | [], cs => some (True, cs)
  | (i, x) :: r, cs => match fs[i]? with
    | some (off, ft) => match ty ft with
      | some fi => match fillS ty fs r (splice cs off x.cells) with
        | some (p, cs') => some ((x.cells.length = fi.size ∧ off + fi.size ≤ cs.length ∧ x ≠ .undef) ∧ p, cs')
        | none => none
      | none => none
    | none => none

def fillL (size : Nat) : List (Nat × AV) → List AV → Prop × List AV
  | [], cs => (True, cs)
  | (i, x) :: r, cs =>
    ((x.cells.length = size ∧ i * size + size ≤ cs.length ∧ x ≠ .undef) ∧ (fillL size r (splice cs (i * size) x.cells)).1, (fillL size r (splice cs (i * size) x.cells)).2)

def chunk (agg : Bool) (s : Nat) : Nat → List AV → List AV
  | 0, _ => []
  | n + 1, l => (if agg then .agg (l.take s) else l.getD 0 .undef) :: chunk agg s n (l.drop s)

def zeros (s : Nat) (z : List AV) : Nat → List AV
  | 0 => []
  | n + 1 => z.take s ++ zeros s z n

def intBin (op : BinOp) (k : IntKind) (a b : Int) : Option (Prop × AV) :=
  match op with
  | .add => some (True, .int k (k.wrap (a + b)))
  | .sub => some (True, .int k (k.wrap (a - b)))
  | .mul => some (True, .int k (k.wrap (a * b)))
  | .quo => some (b ≠ 0, .int k (k.wrap (a.tdiv b)))
  | .rem => some (b ≠ 0, .int k (a.tmod b))
  | .and | .or | .xor | .andNot => some (True, .int k (bits op k a b))
  | .eql => some (True, .bool (a == b))
  | .neq => some (True, .bool (a != b))
  | .lss => some (True, .bool (decide (a < b)))
  | .leq => some (True, .bool (decide (a ≤ b)))
  | .gtr => some (True, .bool (decide (a > b)))
  | .geq => some (True, .bool (decide (a ≥ b)))
  | _ => none

def strBin (op : BinOp) (a b : ByteArray) : Option (Prop × AV) :=
  match op with
  | .add => some (((a.size + b.size : Nat) : Int) ≤ 9223372036854775807, .str (a ++ b))
  | .eql => some (True, .bool (a.toList == b.toList))
  | .neq => some (True, .bool (!(a.toList == b.toList)))
  | _ => none

def binVal (ty : TypeId → Option TI) (op : BinOp) (t : TypeId) (x y : AV) : Option (Prop × AV) :=
  match x, y with
  | .int k a, .int k' b =>
    match op with
    | .shl => some (0 ≤ b, .int k (k.wrap (a * 2 ^ min b.toNat k.bits)))
    | .shr => some (0 ≤ b, .int k (a.fdiv (2 ^ min b.toNat k.bits)))
    | _ => if k = k' then intBin op k a b else none
  | .str a, .str b => strBin op a b
  | .bool a, .bool b => match (ty t).map TI.k, op with
    | some .bool, .eql => some (True, .bool (a == b))
    | some .bool, .neq => some (True, .bool (!(a == b)))
    | _, _ => none
  | .ls _ n e _, .ls _ true true [] => match (ty t).map TI.k, op with
    | some (.slice _), .eql => some (n = true → e = true, .bool n)
    | some (.slice _), .neq => some (n = true → e = true, .bool (!n))
    | _, _ => none
  | _, _ => none

def unVal (op : UnOp) (x : AV) : Option (Prop × AV) :=
  match op, x with
  | .neg, .int k n => some (True, .int k (k.wrap (0 - n)))
  | .xor, .int k n => some (True, .int k (bits .xor k (if k.signed then -1 else k.max) n))
  | .not, .bool b => some (True, .bool !b)
  | _, _ => none

def IsByte (x : AV) : Prop := x = .int .u8 x.toI
def bytesOf (xs : List AV) : ByteArray := ⟨(xs.map fun x => UInt8.ofNat x.toI.toNat).toArray⟩
def listOf (s : ByteArray) : List AV := s.data.toList.map fun b => .int .u8 b.toNat

def convVal (ty : TypeId → Option TI) (src dst : TypeId) (x : AV) : Option (Prop × AV) :=
  match (ty src).map TI.k, (ty dst).map TI.k, x with
  | some _, some (.int k), .int _ n => some (True, .int k (k.wrap n))
  | some .str, some .str, .str s => some (True, .str s)
  | some (.slice e), some .str, .ls st _ _ xs => match (ty e).map TI.k with
    | some (.int .u8) => some ((st = 1 ∨ xs = []) ∧ ∀ x ∈ xs, IsByte x, .str (bytesOf xs))
    | _ => none
  | some .str, some (.slice e), .str s => match (ty e).map TI.k with
    | some (.int .u8) => some (True, .ls 1 false false (listOf s))
    | _ => none
  | _, _, _ => none

def bound (get : Operand → AV) (dflt : Nat) : Option Operand → Option (Prop × Nat)
  | none => some (True, dflt)
  | some x => match get x with
    | .int _ n => some (0 ≤ n, n.toNat)
    | _ => none

def sliceVal (ty : TypeId → Option TI) (bx : List (Nat × Option Box)) (get : Operand → AV) (t : TypeId) (x : AV) (lo hi mx : Option Operand) : Option (Prop × AV) :=
  match (ty t).map TI.k, x with
  | some .str, .str s => match bound get 0 lo, bound get s.size hi, mx with
    | some (p, l), some (q, h), none => some (p ∧ q ∧ l ≤ h ∧ h ≤ s.size, .str (s.extract l h))
    | _, _, _ => none
  | some (.slice e), .ls st n ex xs => match ty e, bound get 0 lo, bound get xs.length hi, mx with
    | some ei, some (p, l), some (q, h), none =>
      some (p ∧ q ∧ l ≤ h ∧ h ≤ xs.length ∧ (st = ei.size ∨ xs = []), .ls ei.size n (ex && (hi.isNone || decide (h = xs.length))) ((xs.drop l).take (h - l)))
    | some ei, some (p, l), some (q, h), some m => match get m with
      | .int _ m => some (p ∧ q ∧ hi.isSome = true ∧ l ≤ h ∧ (h : Int) ≤ m ∧ m ≤ (xs.length : Int) ∧ (st = ei.size ∨ xs = []), .ls ei.size n ((!n || ex) && decide (m = (h : Int))) ((xs.drop l).take (h - l)))
      | _ => none
    | _, _, _, _ => none
  | some (.slice e), .sl id off len cap => match ty e, box? bx id, bound get 0 lo, bound get len hi, mx with
    | some ei, some b, some (p, l), some (q, h), none => some (p ∧ q ∧ l ≤ h ∧ h ≤ cap ∧ b.st = ei.size, .sl id (off + l) (h - l) (cap - l))
    | _, _, _, _, _ => none
  | _, _ => none

def idx (x : AV) : Option Int := match x with
  | .int _ i => some i
  | _ => none

def opVal (ty : TypeId → Option TI) (bx : List (Nat × Option Box)) (get : Operand → AV) : Op → Option (Prop × AV)
  | .move x => some (True, get x)
  | .assign x => some (True, get x)
  | .pick c a b => match get c with
    | .bool t => some (True, if t then get a else get b)
    | _ => none
  | .build t parts => match ty t with
    | some ti => match ti.k with
      | .struct fs => if fs.all fun f => (ty f.2).isSome then (fillS ty fs (parts.toList.map fun p => (p.1, get p.2)) ti.zero).map fun r => (r.1, .agg r.2) else none
      | _ => none
    | none => none
  | .buildSlice t len parts => match (ty t).map TI.k with
    | some (.slice e) => match ty e with
      | some ei =>
        let r := fillL ei.size (parts.toList.map fun p => (p.1, get p.2)) (zeros ei.size ei.zero len)
        some (r.1 ∧ len * ei.size ≤ 16777216 ∧ 0 < ei.size ∧ (∀ x ∈ chunk (isAggK ei.k) ei.size len r.2, okCells ei.size x ∧ (isAggK ei.k || x.flat) = true), .ls ei.size false true (chunk (isAggK ei.k) ei.size len r.2))
      | none => none
    | _ => none
  | .load t a => match ty t, get a with
    | some ti, .ptr id e k => match box? bx id with
      | some b => some (e < b.elems.length ∧ (cut false ti (b.elems.getD e .undef).cells k).1, (cut false ti (b.elems.getD e .undef).cells k).2)
      | none => none
    | some ti, .vp cs => some (cut true ti cs 0)
    | _, _ => none
  | .nilCheck x => match get x with
    | .ptr id e k => some (True, .ptr id e k)
    | .vp cs => some (True, .vp cs)
    | .fn f c => some (True, .fn f c)
    | _ => none
  | .binOp op t x y _ => binVal ty op t (get x) (get y)
  | .unOp op _ x => unVal op (get x)
  | .convert src dst x => convVal ty src dst (get x)
  | .makeFunc (.func f) first caps => if first.size = 0 then some (True, .fn f (caps.toList.map get)) else none
  | .slice t x lo hi mx => sliceVal ty bx get t (get x) lo hi mx
  | .fieldAddr s x i => match (ty s).map TI.k with
    | some (.struct fs) => match fs[i]? with
      | some (off, ft) => match ty ft with
        | some fi => if fi.size = 0 then none else match get x with
          | .ptr id e k => some (True, .ptr id e (k + off))
          | .vp cs => some (True, .vp (cs.drop off))
          | _ => none
        | none => none
      | none => none
    | _ => none
  | .field s x i => match (ty s).map TI.k, get x with
    | some (.struct fs), .agg cs => match fs[i]? with
      | some (off, ft) => (ty ft).map fun fi => cut false fi cs off
      | none => none
    | _, _ => none
  | .indexAddr t x i => match (ty t).map TI.k, idx (get i) with
    | some (.slice e), some i => match ty e, get x with
      | some ei, .ls st _ _ xs => some (0 ≤ i ∧ i < (xs.length : Int) ∧ st = ei.size, .vp (xs.getD i.toNat .undef).cells)
      | some ei, .sl id off len _ => match box? bx id with
        | some b => some (0 ≤ i ∧ i < (len : Int) ∧ b.st = ei.size, .ptr id (off + i.toNat) 0)
        | none => none
      | _, _ => none
    | some (.arr n e), some i => match ty e, get x with
      | some ei, .ptr id e' k => some (0 ≤ i ∧ i < (n : Int), .ptr id e' (k + i.toNat * ei.size))
      | some ei, .vp cs => some (0 ≤ i ∧ i < (n : Int), .vp (cs.drop (i.toNat * ei.size)))
      | _, _ => none
    | _, _ => none
  | .index t x i => match (ty t).map TI.k, get x, idx (get i) with
    | some (.arr n e), .agg cs, some i => (ty e).map fun ei => (0 ≤ i ∧ i < (n : Int) ∧ (cut false ei cs (i.toNat * ei.size)).1, (cut false ei cs (i.toNat * ei.size)).2)
    | some .str, .str s, some i => some (0 ≤ i ∧ i < (s.size : Int), .int .u8 ((s.data.toList.getD i.toNat 0).toNat : Int))
    | _, _, _ => none
  | .extract x i => match get x with
    | .tup vs => some (i < vs.length, vs.getD i .undef)
    | _ => none
  | .call { callee := .builtin b, args, argTypes } => match b, args.toList, argTypes.toList with
    | .len, [x], [t] => match (ty t).map TI.k, get x with
      | some .str, .str s => some (True, .int .i64 s.size)
      | some (.slice _), .ls _ _ _ xs => some (True, .int .i64 xs.length)
      | some (.slice _), .sl _ _ len _ => some (True, .int .i64 len)
      | some (.arr n _), _ => some (True, .int .i64 n)
      | _, _ => none
    | .cap, [x], [t] => match (ty t).map TI.k, get x with
      | some (.slice _), .ls _ _ true xs => some (True, .int .i64 xs.length)
      | _, _ => none
    | .min, [x, y], _ => match get x, get y with
      | .int k a, .int _ b => some (True, .int k (if b < a then b else a))
      | _, _ => none
    | .max, [x, y], _ => match get x, get y with
      | .int k a, .int _ b => some (True, .int k (if a < b then b else a))
      | _, _ => none
    | _, _, _ => none
  | _ => none

end Go.Av
namespace Go.Av

theorem RepCells.length {w : World} {φ : Nat → Option Loc} {ok : Nat → Nat → Prop} {cs : List AV} {vs : List Value} (h : RepCells w φ ok cs vs) : vs.length = cs.length := h.1

theorem splice_length {α : Type} (cs : List α) (off : Nat) (xs : List α) (h : off + xs.length ≤ cs.length) : (splice cs off xs).length = cs.length := by
  simp [splice]; omega

theorem splice_get {α : Type} (cs : List α) (off : Nat) (xs : List α) (h : off + xs.length ≤ cs.length) (i : Nat) :
    (splice cs off xs)[i]? = if i < off then cs[i]? else if i < off + xs.length then xs[i - off]? else cs[i]? := by
  unfold splice
  rw [List.append_assoc, List.getElem?_append]
  have h1 : (cs.take off).length = off := by simp; omega
  rw [h1]
  split
  · rename_i hi; rw [List.getElem?_take_of_lt hi]
  · rename_i hi
    rw [List.getElem?_append]
    split
    · rename_i hj; rw [if_pos (by omega)]
    · rename_i hj
      rw [if_neg (by omega), List.getElem?_drop]
      congr 1; omega

theorem splice_rep {w : World} {φ : Nat → Option Loc} {ok : Nat → Nat → Prop} {cs xs : List AV} {vs us : List Value} {off : Nat}
    (h : RepCells w φ ok cs vs) (k : RepCells w φ ok xs us) (hb : off + xs.length ≤ cs.length) : RepCells w φ ok (splice cs off xs) (splice vs off us) := by
  have hb' : off + us.length ≤ vs.length := by rw [k.1, h.1]; exact hb
  refine ⟨by rw [splice_length _ _ _ hb, splice_length _ _ _ hb', h.1], fun i x v hx hv => ?_⟩
  rw [splice_get _ _ _ hb] at hx
  rw [splice_get _ _ _ hb', k.1] at hv
  split at hx
  · rename_i hi; rw [if_pos hi] at hv; exact h.2 i x v hx hv
  · rename_i hi
    rw [if_neg hi] at hv
    split at hx
    · rename_i hj; rw [if_pos hj] at hv; exact k.2 _ x v hx hv
    · rename_i hj; rw [if_neg hj] at hv; exact h.2 i x v hx hv

theorem zipIdx_put (off : Nat) : ∀ (us : List Value) (k : Nat) (arr : Array Value), off + k + us.length ≤ arr.size →
    ((us.zipIdx k).foldl (fun cs (p : Value × Nat) => cs.setIfInBounds (off + p.2) p.1) arr).toList = splice arr.toList (off + k) us
  | [], k, arr, h => by simp [splice]
  | u :: us, k, arr, h => by
    simp only [List.zipIdx_cons, List.foldl_cons]
    rw [zipIdx_put off us (k + 1) _ (by simp at h ⊢; omega)]
    apply List.ext_getElem?
    intro i
    simp only [List.length_cons] at h
    rw [splice_get _ _ _ (by simp; omega), splice_get _ _ _ (by simp; omega)]
    simp only [Array.toList_setIfInBounds, List.length_cons]
    by_cases h1 : i < off + k
    · rw [if_pos (by omega), if_pos h1, List.getElem?_set_ne (by omega)]
    · by_cases h2 : i = off + k
      · subst h2
        rw [if_pos (by omega), if_neg (by omega), if_pos (by omega), Nat.sub_self, List.getElem?_set_self (by simp; omega)]
        simp
      · rw [if_neg (by omega), if_neg h1]
        by_cases h3 : i < off + (k + 1) + us.length
        · rw [if_pos h3, if_pos (by omega), show i - (off + k) = (i - (off + (k + 1))) + 1 by omega]
          simp
        · rw [if_neg h3, if_neg (by omega), List.getElem?_set_ne (by omega)]

theorem putCells (cells us : Array Value) (off : Nat) (h : off + us.size ≤ cells.size) :
    (us.zipIdx.foldl (fun cs (p : Value × Nat) => cs.setIfInBounds (off + p.2) p.1) cells).toList = splice cells.toList off us.toList := by
  have := zipIdx_put off us.toList 0 cells (by simpa using h)
  rw [Nat.add_zero] at this
  rw [← this, ← Array.foldl_toList]
  simp

theorem fill_step (place : Nat → Option (Nat × Nat)) (cells : Array Value) (i : Nat) (v : Value) (rest : List (Nat × Value)) (off size : Nat)
    (hp : place i = some (off, size)) (h1 : v.cells.size = size) (h2 : off + size ≤ cells.size) :
    ∃ cells' : Array Value, cells'.toList = splice cells.toList off v.cells.toList ∧ Instr.fill place cells ((i, v) :: rest) = Instr.fill place cells' rest := by
  refine ⟨_, putCells cells v.cells off (by omega), ?_⟩
  simp only [Instr.fill, hp]
  have : ¬ (v.cells.size ≠ size ∨ off + v.cells.size > cells.size) := by omega
  rw [if_neg (by simpa using this)]

theorem fillS_ok {P : Program} {ty : TypeId → Option TI} (hty : TyOk P ty) {w : World} {φ : Nat → Option Loc} {ok : Nat → Nat → Prop} (fs : List (Nat × TypeId))
    (place : Nat → Option (Nat × Nat)) (hplace : ∀ i off ft fi, fs[i]? = some (off, ft) → ty ft = some fi → place i = some (off, fi.size)) :
    ∀ (parts : List (Nat × AV)) (us : List (Nat × Value)) (cs cs' : List AV) (cells : Array Value) (p : Prop), RepCells w φ ok cs cells.toList →
      us.length = parts.length → (∀ (j : Nat) (x : Nat × AV) (u : Nat × Value), parts[j]? = some x → us[j]? = some u → x.1 = u.1 ∧ Rep w φ ok x.2 u.2) →
      fillS ty fs parts cs = some (p, cs') → p → ∃ cells', Instr.fill place cells us = some cells' ∧ RepCells w φ ok cs' cells'.toList
  | [], us, cs, cs', cells, p, h, hl, hr, he, hp => by
    obtain rfl : us = [] := List.length_eq_zero_iff.1 hl
    simp only [fillS, Option.some.injEq, Prod.mk.injEq] at he
    obtain ⟨_, rfl⟩ := he
    exact ⟨cells, rfl, h⟩
  | (i, x) :: r, us, cs, cs', cells, p, h, hl, hr, he, hp => by
    cases us with
    | nil => simp at hl
    | cons u us =>
      obtain ⟨i', v⟩ := u
      obtain ⟨rfl, hx⟩ := hr 0 (i, x) (i', v) rfl rfl
      simp only [fillS] at he
      split at he
      · rename_i off ft hfs
        split at he
        · rename_i fi hfi
          split at he
          · rename_i q cs2 hq
            simp only [Option.some.injEq, Prod.mk.injEq] at he
            obtain ⟨rfl, rfl⟩ := he
            obtain ⟨⟨h1, h2, h3⟩, hq'⟩ := hp
            have hc := hx.cells h3
            have hv : v.cells.size = fi.size := by rw [← h1, ← hc.1]; simp
            have hcl : cells.size = cs.length := by rw [← h.1]; simp
            obtain ⟨cells2, e2, e3⟩ := fill_step place cells i v us off fi.size (hplace i off ft fi hfs hfi) hv (by omega)
            rw [e3]
            exact fillS_ok hty fs place hplace r us _ _ cells2 q (by rw [e2]; exact splice_rep h hc (by rw [h1]; exact h2)) (by simpa using hl)
              (fun j a b ha hb => hr (j + 1) a b (by simpa using ha) (by simpa using hb)) hq hq'
          · cases he
        · cases he
      · cases he

theorem fillL_ok {w : World} {φ : Nat → Option Loc} {ok : Nat → Nat → Prop} (size : Nat) :
    ∀ (parts : List (Nat × AV)) (us : List (Nat × Value)) (cs : List AV) (cells : Array Value), RepCells w φ ok cs cells.toList →
      us.length = parts.length → (∀ (j : Nat) (x : Nat × AV) (u : Nat × Value), parts[j]? = some x → us[j]? = some u → x.1 = u.1 ∧ Rep w φ ok x.2 u.2) →
      (fillL size parts cs).1 → ∃ cells', Instr.fill (fun i => some (i * size, size)) cells us = some cells' ∧ RepCells w φ ok (fillL size parts cs).2 cells'.toList
  | [], us, cs, cells, h, hl, hr, hp => by
    obtain rfl : us = [] := List.length_eq_zero_iff.1 hl
    exact ⟨cells, rfl, h⟩
  | (i, x) :: r, us, cs, cells, h, hl, hr, hp => by
    cases us with
    | nil => simp at hl
    | cons u us =>
      obtain ⟨i', v⟩ := u
      obtain ⟨rfl, hx⟩ := hr 0 (i, x) (i', v) rfl rfl
      simp only [fillL] at hp ⊢
      obtain ⟨⟨h1, h2, h3⟩, hq'⟩ := hp
      have hc := hx.cells h3
      have hv : v.cells.size = size := by rw [← h1, ← hc.1]; simp
      have hcl : cells.size = cs.length := by rw [← h.1]; simp
      obtain ⟨cells2, e2, e3⟩ := fill_step (fun i => some (i * size, size)) cells i v us (i * size) size rfl hv (by omega)
      rw [e3]
      exact fillL_ok size r us _ cells2 (by rw [e2]; exact splice_rep h hc (by rw [h1]; exact h2)) (by simpa using hl)
        (fun j a b ha hb => hr (j + 1) a b (by simpa using ha) (by simpa using hb)) hq'

theorem zeros_length (s : Nat) (z : List AV) (h : z.length = s) : ∀ n, (zeros s z n).length = n * s
  | 0 => by simp [zeros]
  | n + 1 => by simp [zeros, zeros_length s z h n, h, Nat.succ_mul, Nat.add_comm]

theorem zeros_get (s : Nat) (z : List AV) (h : z.length = s) (hs : 0 < s) : ∀ n i, i < n * s → (zeros s z n)[i]? = z[i % s]?
  | 0, i, hi => by simp at hi
  | n + 1, i, hi => by
    simp only [zeros]
    rw [List.getElem?_append]
    have : (z.take s).length = s := by simp [h]
    rw [this]
    split
    · rename_i hlt; rw [List.getElem?_take_of_lt hlt, Nat.mod_eq_of_lt hlt]
    · rename_i hge
      rw [zeros_get s z h hs n (i - s) (by rw [Nat.succ_mul] at hi; omega), Nat.mod_eq_sub_mod (by omega : s ≤ i)]

theorem zeros_rep {w : World} {φ : Nat → Option Loc} {ok : Nat → Nat → Prop} {z : List AV} {zs : Array Value} (h : RepCells w φ ok z zs.toList) {s : Nat} (hs : z.length = s) (hpos : 0 < s) (n : Nat) :
    RepCells w φ ok (zeros s z n) ((Array.range (n * s)).map (zs[· % zs.size]!)).toList := by
  have hz : zs.size = s := by have := h.1; simpa [hs] using this
  refine ⟨by simp [zeros_length s z hs], fun i x v hx hv => ?_⟩
  have hi : i < n * s := by
    have := (List.getElem?_eq_some_iff.1 hx).1
    rwa [zeros_length s z hs] at this
  rw [zeros_get s z hs hpos n i hi] at hx
  have hm : i % s < s := Nat.mod_lt _ hpos
  have hv' : zs[i % s]? = some v := by
    have h2 : i % zs.size < zs.size := by rw [hz]; exact hm
    have e : (zs[i % zs.size]! : Value) = zs[i % zs.size] := by simp [h2]
    simp only [Array.toList_map, Array.toList_range, List.getElem?_map, List.getElem?_range hi, Option.map_some, Option.some.injEq] at hv
    rw [e] at hv
    rw [← hv]
    have : zs[i % s]? = some zs[i % s] := Array.getElem?_eq_getElem (by omega)
    rw [this]; congr 1; simp [hz]
  exact h.2 _ x v hx (by simpa using hv')

theorem chunk_length (agg : Bool) (s : Nat) : ∀ n l, (chunk agg s n l).length = n
  | 0, l => rfl
  | n + 1, l => by simp [chunk, chunk_length agg s n]

theorem chunk_get (agg : Bool) (s : Nat) : ∀ n (l : List AV) i, i < n → (chunk agg s n l)[i]? = some (if agg then .agg ((l.drop (i * s)).take s) else l.getD (i * s) .undef)
  | 0, l, i, h => by omega
  | n + 1, l, i, h => by
    simp only [chunk]
    cases i with
    | zero => cases agg <;> simp
    | succ i =>
      rw [List.getElem?_cons_succ, chunk_get agg s n _ i (by omega)]
      cases agg
      · simp only [Bool.false_eq_true, if_false, List.getD, List.getElem?_drop, Nat.succ_mul, Nat.add_comm s]
      · simp only [if_true, List.drop_drop, Nat.succ_mul, Nat.add_comm s]

theorem AV.cells_flat {x : AV} (h : x.flat = true) : x.cells = [x] := by
  cases x <;> simp_all [AV.flat, AV.cells]

end Go.Av
namespace Go.Av

def Yld (P : Program) (ρ : Operand → Value) (o : Oper) (G : Gh) (bx : List (Nat × Option Box)) (φ : Nat → Option Loc) (w : World) (r : AV) : Prop :=
  ∃ v w', (execOp ρ o).run P w = .ok (.value v) w' ∧ Ext w w' ∧ Rep w' φ (OK G bx φ w') r v

section
variable {P : Program} {ty : TypeId → Option TI} {G : Gh} {bx : List (Nat × Option Box)} {nx : Nat} {φ : Nat → Option Loc} {w : World} {ρ : Operand → Value} {get : Operand → AV}

theorem Yld.same {o : Oper} {r : AV} {v : Value} (h : (execOp ρ o).run P w = .ok (.value v) w) (k : Rep w φ (OK G bx φ w) r v) : Yld P ρ o G bx φ w r :=
  ⟨v, w, h, .refl w, k⟩

theorem run_equalIn_bool {t : TypeId} (h : P.underlying t = some .bool) (a b : Bool) (d : Nat) : (Op.equalIn (d + 1) t (.bool a) (.bool b)).run P w = .ok (a == b) w := by
  simp only [Op.equalIn, Sem.run_bind, run_underlying h, Result.andThen_ok, Sem.run_pure]
theorem run_equal_bool {t : TypeId} (h : P.underlying t = some .bool) (a b : Bool) : (Op.equal t (.bool a) (.bool b)).run P w = .ok (a == b) w :=
  run_equalIn_bool h a b 9999
theorem run_equalIn_nil {t e : TypeId} (h : P.underlying t = some (.slice e)) (a : Option Addr) (n c n' c' : Nat) (d : Nat) :
    (Op.equalIn (d + 1) t (.slice a n c) (.slice none n' c')).run P w = .ok a.isNone w := by
  cases a <;> simp only [Op.equalIn, Sem.run_bind, run_underlying h, Result.andThen_ok, Sem.run_pure, Option.isNone_none, Option.isNone_some]
theorem run_equal_nil {t e : TypeId} (h : P.underlying t = some (.slice e)) (a : Option Addr) (n c n' c' : Nat) :
    (Op.equal t (.slice a n c) (.slice none n' c')).run P w = .ok a.isNone w := run_equalIn_nil h a n c n' c' 9999

theorem intBin_ok {ok : Nat → Nat → Prop} {op : BinOp} {k : IntKind} {a b : Int} {t : TypeId} {p : Prop} {r : AV} (h : intBin op k a b = some (p, r)) (hp : p) :
    ∃ v, (binOp op t (.int k a) (.int k b)).run P w = .ok v w ∧ Rep w φ ok r v := by
  unfold intBin at h
  cases op <;> simp only [Option.some.injEq, Prod.mk.injEq, reduceCtorEq] at h <;>
    (try obtain ⟨rfl, rfl⟩ := h) <;>
    first
    | exact ⟨_, by simp only [binOp_add, binOp_sub, binOp_mul, Op.intArith, Sem.run_pure], .int _ _⟩
    | exact ⟨_, by simp only [binOp_quo, binOp_rem, Op.intDiv, if_neg hp, Sem.run_pure], .int _ _⟩
    | exact ⟨_, by simp only [binOp_and, binOp_or, binOp_xor, binOp_andNot, intBits_and, intBits_or, intBits_xor, intBits_andNot, Sem.run_pure], .int _ _⟩
    | exact ⟨_, by simp only [binOp_eql, binOp_neq, binOp_lss, binOp_leq, binOp_gtr, binOp_geq, Sem.run_pure], .bool _⟩
    | exact absurd h (by simp)

theorem binVal_ok (hty : TyOk P ty) {ok : Nat → Nat → Prop} {op : BinOp} {t : TypeId} {x y : AV} {u v : Value} {p : Prop} {r : AV} {X Y : Operand}
    (hx : Rep w φ ok x u) (hy : Rep w φ ok y v) (h : binVal ty op t x y = some (p, r)) (hp : p) :
    ∃ z, (do eqGuard op t X Y u v; binOp op t u v).run P w = .ok z w ∧ Rep w φ ok r z := by
  unfold binVal at h
  split at h
  · rename_i k a k' b
    cases hx; cases hy
    rw [eqGuard_at_int]
    simp only [pure_bind]
    split at h
    · simp only [Option.some.injEq, Prod.mk.injEq] at h
      obtain ⟨rfl, rfl⟩ := h
      have hn : ¬ (b < 0) := by omega
      exact ⟨_, by simp only [binOp_shl, Op.shift, if_neg hn, Sem.run_pure], .int _ _⟩
    · simp only [Option.some.injEq, Prod.mk.injEq] at h
      obtain ⟨rfl, rfl⟩ := h
      have hn : ¬ (b < 0) := by omega
      exact ⟨_, by simp only [binOp_shr, Op.shift, if_neg hn, Sem.run_pure], .int _ _⟩
    · split at h
      · rename_i e; subst e
        exact intBin_ok h hp
      · cases h
  · cases hx; cases hy
    rw [eqGuard_at_string]
    simp only [pure_bind]
    unfold strBin at h
    split at h <;> simp only [Option.some.injEq, Prod.mk.injEq, reduceCtorEq] at h
    · obtain ⟨rfl, rfl⟩ := h
      refine ⟨_, ?_, .str _⟩
      have hn := hp
      rw [← IntKind.max_i64] at hn
      simp only [binOp, Op.stringOp]
      rw [if_neg (by omega)]
      rfl
    · obtain ⟨rfl, rfl⟩ := h
      exact ⟨_, by simp only [binOp, Op.stringOp, Sem.run_pure], .bool _⟩
    · obtain ⟨rfl, rfl⟩ := h
      exact ⟨_, by simp only [binOp, Op.stringOp, Sem.run_pure], .bool _⟩
  · rename_i a b
    cases hx; cases hy
    rw [eqGuard_at_bool]
    simp only [pure_bind]
    cases ht : ty t with
    | none => simp [ht] at h
    | some ti =>
      obtain ⟨d, f, z, hT⟩ := hty.at ht
      simp only [ht, Option.map_some] at h
      split at h <;> simp only [Option.some.injEq, Prod.mk.injEq, reduceCtorEq] at h
      all_goals
        obtain ⟨rfl, rfl⟩ := h
        rename_i hk
        have hd := hT.bool (by simpa using hk)
        subst hd
        refine ⟨_, ?_, .bool _⟩
        simp only [binOp, Sem.run_bind, run_equal_bool hT.und, Result.andThen_ok, Sem.run_pure]
  · rename_i s n e xs s'
    cases hx with | ls _ _ _ _ a c vs hl hn hc hr =>
    cases hy with | ls _ _ _ _ a' c' vs' hl' hn' hc' hr' =>
    have ha' := hl'.2.2.1 rfl rfl
    subst ha'
    have hc0 := hl'.none.2
    subst hc0
    rw [eqGuard_at_slice]
    simp only [pure_bind]
    cases ht : ty t with
    | none => simp [ht] at h
    | some ti =>
      obtain ⟨d, f, z, hT⟩ := hty.at ht
      simp only [ht, Option.map_some] at h
      have hnil : (n = true → e = true) → a.isNone = n := by
        intro hne
        cases n with
        | true => rw [hl.2.2.1 rfl (hne rfl)]; rfl
        | false => have := hl.2.2.2.1 rfl; cases a <;> simp_all
      split at h <;> simp only [Option.some.injEq, Prod.mk.injEq, reduceCtorEq] at h
      all_goals
        obtain ⟨rfl, rfl⟩ := h
        rename_i hk
        have hd := hT.slice (by simpa using hk)
        subst hd
        refine ⟨_, ?_, .bool _⟩
        simp only [binOp, Sem.run_bind, run_equal_nil hT.und, Result.andThen_ok, Sem.run_pure, hnil hp]
  · cases h

theorem unVal_ok {ok : Nat → Nat → Prop} {op : UnOp} {x : AV} {u : Value} {p : Prop} {r : AV} (hx : Rep w φ ok x u) (h : unVal op x = some (p, r)) :
    ∃ z, (Op.unary op u).run P w = .ok z w ∧ Rep w φ ok r z := by
  unfold unVal at h
  split at h <;> simp only [Option.some.injEq, Prod.mk.injEq, reduceCtorEq] at h <;> obtain ⟨rfl, rfl⟩ := h <;> cases hx
  · exact ⟨_, by simp only [Op.unary, Op.intArith, Sem.run_pure], .int _ _⟩
  · exact ⟨_, by simp only [Op.unary, intBits_xor, Sem.run_pure], .int _ _⟩
  · exact ⟨_, by simp only [Op.unary, Sem.run_pure], .bool _⟩
end

end Go.Av
namespace Go.Av

section
variable {P : Program} {ty : TypeId → Option TI} {G : Gh} {bx : List (Nat × Option Box)} {nx : Nat} {φ : Nat → Option Loc} {w : World}

theorem Rep.ls_cells {ok : Nat → Nat → Prop} {st : Nat} {n e : Bool} {xs : List AV} {a : Option Addr} {l c : Nat} (h : Rep w φ ok (.ls st n e xs) (.slice a l c)) :
    l = xs.length ∧ LsOk n e xs.length a c ∧ ∀ b o, a = some ⟨b, o, none⟩ → ∀ (i : Nat) (x : AV) (j : Nat) (y : AV), xs[i]? = some x → x.cells[j]? = some y →
      ∃ v, w.cell? ⟨b, o + i * st + j, none⟩ = some v ∧ ok b (o + i * st + j) ∧ Rep w φ ok y v := by
  cases h with | ls _ _ _ _ a c vs hl hn hc hr =>
  refine ⟨rfl, hl, fun b o ha i x j y hx hy => ?_⟩
  have hi := (List.getElem?_eq_some_iff.1 hx).1
  have hj := (List.getElem?_eq_some_iff.1 hy).1
  rw [(hn i x hx).1] at hj
  exact ⟨vs i j, (hc b o ha i j hi hj).1, (hc b o ha i j hi hj).2, hr i x j y hx hy⟩

theorem Rep.ls_len {ok : Nat → Nat → Prop} {st : Nat} {n e : Bool} {xs : List AV} {v : Value} (h : Rep w φ ok (.ls st n e xs) v) (i : Nat) (x : AV) (hx : xs[i]? = some x) : okCells st x := by
  cases h with | ls _ _ _ _ a c vs hl hn hc hr => exact hn i x hx

theorem Rep.ls_val {ok : Nat → Nat → Prop} {st : Nat} {n e : Bool} {xs : List AV} {v : Value} (h : Rep w φ ok (.ls st n e xs) v) : ∃ a c, v = .slice a xs.length c := by
  cases h with | ls _ _ _ _ a c vs hl hn hc hr => exact ⟨a, c, rfl⟩

theorem Rep.mk_ls {ok : Nat → Nat → Prop} {st : Nat} {n e : Bool} {xs : List AV} {a : Option Addr} {c : Nat} (hl : LsOk n e xs.length a c)
    (hn : ∀ (i : Nat) (x : AV), xs[i]? = some x → okCells st x)
    (h : ∀ b o, a = some ⟨b, o, none⟩ → ∀ (i : Nat) (x : AV) (j : Nat) (y : AV), xs[i]? = some x → x.cells[j]? = some y →
      ∃ v, w.cell? ⟨b, o + i * st + j, none⟩ = some v ∧ ok b (o + i * st + j) ∧ Rep w φ ok y v) : Rep w φ ok (.ls st n e xs) (.slice a xs.length c) := by
  by_cases hx0 : xs = []
  · subst hx0
    exact .ls st n e [] a c (fun _ _ => Go.undef) hl hn (fun b o h i j hi => absurd hi (by simp)) (fun i x j y h => by simp at h)
  · obtain ⟨b, o, rfl⟩ := hl.addr (List.length_pos_iff.2 hx0)
    refine .ls st n e xs _ c (fun i j => (w.cell? ⟨b, o + i * st + j, none⟩).getD Go.undef) hl hn ?_ ?_
    · intro b' o' he i j hi hj
      simp only [Option.some.injEq, Addr.mk.injEq] at he
      obtain ⟨rfl, rfl, _⟩ := he
      have hx : xs[i]? = some xs[i] := List.getElem?_eq_getElem hi
      have hjl : j < (xs[i]).cells.length := by rw [(hn i _ hx).1]; exact hj
      obtain ⟨v, h1, h2, _⟩ := h b o rfl i _ j _ hx (List.getElem?_eq_getElem hjl)
      exact ⟨by rw [h1]; rfl, h2⟩
    · intro i x j y hx hy
      obtain ⟨v, h1, _, h3⟩ := h b o rfl i x j y hx hy
      simpa [h1] using h3

theorem fold_push : ∀ (ns : List Int) (s : ByteArray), (ns.foldl (fun r n => r.push (UInt8.ofNat n.toNat)) s).data.toList = s.data.toList ++ ns.map fun n => UInt8.ofNat n.toNat
  | [], s => by simp
  | n :: ns, s => by
    rw [List.foldl_cons, fold_push ns]
    simp [ByteArray.push]

theorem bytes_fold (ns : List Int) : ns.foldl (fun r n => r.push (UInt8.ofNat n.toNat)) ByteArray.empty = ⟨(ns.map fun n => UInt8.ofNat n.toNat).toArray⟩ := by
  have h := fold_push ns ByteArray.empty
  apply ByteArray.ext
  apply Array.ext'
  rw [h]
  rfl

theorem rep_bytes (hrel : Rel G bx nx φ w) (e : TypeId) (s : ByteArray) :
    Rep (Lib.bytesWorld w e s) φ (OK G bx φ (Lib.bytesWorld w e s)) (.ls 1 false false (listOf s)) (.slice (some ⟨w.heap.size, 0, none⟩) s.size (grownCap w s.size 0 e)) := by
  have hll : (listOf s).length = s.size := by simp [listOf]
  have hcap : s.size ≤ grownCap w s.size 0 e := by simp [grownCap, Question.cut]
  have hL : LsOk false false (listOf s).length (some ⟨w.heap.size, 0, none⟩) (grownCap w s.size 0 e) :=
    ⟨by rw [hll]; exact hcap, fun h => (by cases h), fun h => (by cases h), fun _ => (by nofun), fun _ => ⟨_, _, rfl⟩, fun x hx => (by cases hx; rfl)⟩
  have key : Rep (Lib.bytesWorld w e s) φ (OK G bx φ (Lib.bytesWorld w e s)) (.ls 1 false false (listOf s)) (.slice (some ⟨w.heap.size, 0, none⟩) (listOf s).length (grownCap w s.size 0 e)) := by
    refine Rep.mk_ls hL ?_ ?_
    · intro i x hx
      simp only [listOf, List.getElem?_map, Option.map_eq_some_iff] at hx
      obtain ⟨_, _, rfl⟩ := hx
      exact ⟨rfl, by simp [AV.cells, AV.cellOk]⟩
    · intro b o hbo i x j y hx hy
      simp only [Option.some.injEq, Addr.mk.injEq] at hbo
      obtain ⟨rfl, rfl, _⟩ := hbo
      have hi : i < s.size := by rw [← hll]; exact (List.getElem?_eq_some_iff.1 hx).1
      simp only [listOf, List.getElem?_map, Option.map_eq_some_iff] at hx
      obtain ⟨q, hq, rfl⟩ := hx
      have hj : j = 0 := by
        have := (List.getElem?_eq_some_iff.1 hy).1
        simp [AV.cells] at this
        exact this
      subst hj
      simp [AV.cells] at hy
      subst hy
      refine ⟨_, by rw [Nat.mul_one, Nat.add_zero, Nat.zero_add]; exact Lib.bytesWorld_cell w e s i hi, hrel.ok_new (Nat.le_refl _) (by rw [Lib.bytesWorld_size]; omega), ?_⟩
      have hq' : s.data[i]? = some q := by simpa using hq
      simp only [List.getD_eq_getElem?_getD, Array.getElem?_toList, hq', Option.getD_some]
      exact .int _ _
  rw [hll] at key
  exact key

theorem convVal_ok (hty : TyOk P ty) (hrel : Rel G bx nx φ w) {src dst : TypeId} {x : AV} {u : Value} {p : Prop} {r : AV}
    (hx : Rep w φ (OK G bx φ w) x u) (h : convVal ty src dst x = some (p, r)) (hp : p) :
    ∃ v w', (convert src dst u).run P w = .ok v w' ∧ Ext w w' ∧ Rep w' φ (OK G bx φ w') r v := by
  unfold convVal at h
  cases hs : ty src with
  | none => simp [hs] at h
  | some si =>
  cases hd : ty dst with
  | none => simp [hs, hd] at h
  | some di =>
  obtain ⟨d1, f1, z1, T1⟩ := hty.at hs
  obtain ⟨d2, f2, z2, T2⟩ := hty.at hd
  simp only [hs, hd, Option.map_some] at h
  split at h
  · rename_i k n hk _
    simp only [Option.some.injEq, Prod.mk.injEq] at h
    obtain ⟨rfl, rfl⟩ := h
    cases hx
    have hd2 := T2.int (Option.some.inj (by assumption))
    subst hd2
    refine ⟨_, w, ?_, .refl w, .int _ _⟩
    simp only [convert, Sem.run_bind, T1.run_und, T2.run_und, Result.andThen_ok]
    simp only [Conv.intToInt, Sem.run_pure]
  · rename_i hk1 hk2 _
    simp only [Option.some.injEq, Prod.mk.injEq] at h
    obtain ⟨rfl, rfl⟩ := h
    cases hx
    have e1 := T1.str (Option.some.inj (by assumption))
    have e2 := T2.str (Option.some.inj (by assumption))
    subst e1; subst e2
    refine ⟨_, w, ?_, .refl w, .str _⟩
    simp only [convert, Sem.run_bind, T1.run_und, T2.run_und, Result.andThen_ok, Sem.run_pure]
  · rename_i e st n ex xs hk1 hk2
    have e1 := T1.slice (Option.some.inj (by assumption))
    have e2 := T2.str (Option.some.inj (by assumption))
    subst e1; subst e2
    cases he : ty e with
    | none => simp [he] at h
    | some ei =>
      obtain ⟨d3, f3, z3, T3⟩ := hty.at he
      simp only [he, Option.map_some] at h
      split at h
      · rename_i hk3
        simp only [Option.some.injEq, Prod.mk.injEq] at h
        obtain ⟨rfl, rfl⟩ := h
        have e3 := T3.int (Option.some.inj (by assumption))
        subst e3
        obtain ⟨a, c, rfl⟩ := hx.ls_val
        obtain ⟨_, hl, hcell⟩ := hx.ls_cells
        have hlen := hx.ls_len
        refine ⟨.string (bytesOf xs), w, ?_, .refl w, .str _⟩
        rw [run_convert_bytes_string w src dst e a _ c T1.und T3.und T2.und]
        obtain ⟨hst, hb⟩ := hp
        by_cases hx0 : xs = []
        · subst hx0
          cases a <;> simp [Conv.bytesToString, bytesOf] <;> rfl
        · obtain ⟨b, o, rfl⟩ := hl.addr (List.length_pos_iff.2 hx0)
          rw [run_bytesToString w ⟨b, o, none⟩ xs.length c (xs.map AV.toI), bytes_fold]
          · simp [bytesOf, Function.comp_def]
          · have := run_loadCells_list (P := P) w ⟨b, o, none⟩ ((xs.map AV.toI).map (Value.int .u8)) (fun j v hv => by
              simp only [List.getElem?_map, Option.map_eq_some_iff] at hv
              obtain ⟨_, ⟨x, hx', rfl⟩, rfl⟩ := hv
              have hbx := hb x (List.mem_of_getElem? hx')
              have hc1 : x.cells[0]? = some x := by rw [hbx]; rfl
              rcases hst with hst | hst
              · obtain ⟨v, h1, _, h3⟩ := hcell b o rfl j x 0 x hx' hc1
                rw [hbx] at h3
                cases h3
                rw [hst] at h1
                rw [Addr.add_lit]
                simpa using h1
              · subst hst; simp at hx')
            simpa using this
      · cases h
  · rename_i e s hk1 hk2
    have e1 := T1.str (Option.some.inj (by assumption))
    have e2 := T2.slice (Option.some.inj (by assumption))
    subst e1; subst e2
    cases he : ty e with
    | none => simp [he] at h
    | some ei =>
      obtain ⟨d3, f3, z3, T3⟩ := hty.at he
      simp only [he, Option.map_some] at h
      split at h
      · rename_i hk3
        simp only [Option.some.injEq, Prod.mk.injEq] at h
        obtain ⟨rfl, rfl⟩ := h
        have e3 := T3.int (Option.some.inj (by assumption))
        subst e3
        cases hx
        have hE : Ext w (Lib.bytesWorld w e s) := ⟨by simp [Lib.bytesWorld, World.freeze, World.alloc, World.drew, -World.alloc_eq, -World.drew_eq], by simp [Lib.bytesWorld, World.freeze, World.alloc, World.drew, -World.alloc_eq, -World.drew_eq],
          by simp [Lib.bytesWorld, World.freeze, World.alloc, World.drew, -World.alloc_eq, -World.drew_eq], by rw [Lib.bytesWorld_size]; omega, fun b hb => Lib.bytesWorld_at_old w e s b hb⟩
        exact ⟨_, _, Lib.run_convert_string_bytes w src dst e s T1.und T2.und T3.und, hE, rep_bytes hrel e s⟩
      · cases h
  · cases h
end

end Go.Av
namespace Go.Av

section
variable {P : Program} {ty : TypeId → Option TI} {G : Gh} {bx : List (Nat × Option Box)} {nx : Nat} {φ : Nat → Option Loc} {w : World} {ok : Nat → Nat → Prop}

def BV (v : Option Value) (d n : Nat) : Prop := (v = none ∧ n = d) ∨ ∃ k i, v = some (.int k i) ∧ 0 ≤ i ∧ i.toNat = n

theorem bound_ok {get : Operand → AV} {ρ : Operand → Value} {d n : Nat} {x : Option Operand} {p : Prop} (hx : ∀ y, x = some y → Rep w φ ok (get y) (ρ y))
    (h : bound get d x = some (p, n)) (hp : p) : BV (x.map ρ) d n := by
  cases x with
  | none => simp only [bound, Option.some.injEq, Prod.mk.injEq] at h; exact .inl ⟨rfl, h.2.symm⟩
  | some y =>
    have r := hx y rfl
    simp only [bound] at h
    split at h
    · rename_i k i e
      simp only [Option.some.injEq, Prod.mk.injEq] at h
      obtain ⟨rfl, rfl⟩ := h
      rw [e] at r
      generalize hv : ρ y = v at r
      cases r
      exact .inr ⟨k, i, by simp [hv], hp, rfl⟩
    · cases h

theorem run_bounds (isS : Bool) (len cap l h : Nat) (lo hi : Option Value) (hl : BV lo 0 l) (hh : BV hi len h) (h1 : l ≤ h) (h2 : h ≤ cap) :
    (Instr.sliceBounds isS len cap lo hi none).run P w = .ok (l, h, cap) w := by
  rcases hl with ⟨rfl, rfl⟩ | ⟨k, i, rfl, h3, rfl⟩ <;> rcases hh with ⟨rfl, rfl⟩ | ⟨k', i', rfl, h4, rfl⟩
  · simp [Instr.sliceBounds]
  · have e : 0 ≤ i' ∧ i' ≤ (cap : Int) := ⟨h4, by omega⟩
    simp [Instr.sliceBounds, Instr.sliceBound, asIntOf, e]
  · have e : 0 ≤ i ∧ i ≤ (h : Int) := ⟨h3, by omega⟩
    simp [Instr.sliceBounds, Instr.sliceBound, asIntOf, e]
  · have e : 0 ≤ i' ∧ i' ≤ (cap : Int) := ⟨h4, by omega⟩
    have e2 : 0 ≤ i ∧ i ≤ max i' 0 := ⟨h3, by omega⟩
    simp [Instr.sliceBounds, Instr.sliceBound, asIntOf, e, e2]

theorem run_bounds3 (isS : Bool) (len cap l h : Nat) (m : Int) (km : IntKind) (lo hi : Option Value) (hl : BV lo 0 l) (hh : BV hi len h) (hs : hi.isSome = true) (h1 : l ≤ h) (h2 : (h : Int) ≤ m) (h3 : m ≤ (cap : Int)) :
    (Instr.sliceBounds isS len cap lo hi (some (.int km m))).run P w = .ok (l, h, m.toNat) w := by
  have em : 0 ≤ m ∧ m ≤ (cap : Int) := ⟨by omega, h3⟩
  rcases hh with ⟨rfl, rfl⟩ | ⟨k', i', rfl, h4, rfl⟩
  · simp at hs
  · rcases hl with ⟨rfl, rfl⟩ | ⟨k, i, rfl, h5, rfl⟩
    · have e : 0 ≤ i' ∧ i' ≤ max m 0 := ⟨h4, by omega⟩
      simp [Instr.sliceBounds, Instr.sliceBound, asIntOf, em, e]
    · have e : 0 ≤ i' ∧ i' ≤ max m 0 := ⟨h4, by omega⟩
      have e2 : 0 ≤ i ∧ i ≤ max i' 0 := ⟨h5, by omega⟩
      simp [Instr.sliceBounds, Instr.sliceBound, asIntOf, em, e, e2]

theorem run_slice_to {t e : TypeId} (ht : P.underlying t = some (.slice e)) {s : Nat} (hs : (sizeOf e).run P w = .ok s w) (a : Option Addr) (len cap l h m : Nat) (lo hi mx : Option Value)
    (hb : (Instr.sliceBounds true len cap lo hi mx).run P w = .ok (l, h, m) w) :
    (Instr.sliceAt t (.slice a len cap) lo hi mx).run P w = .ok (sliced a l h m s) w := by
  have he : P.elem t = e := by simp [Program.elem, ht]
  have ht' : P.underlying t = some (.slice (P.elem t)) := by rw [he]; exact ht
  rw [run_sliceAt_slice w t _ lo hi mx ht', run_slice_any w t a len cap ht' lo hi mx, hb]
  simp only [Result.andThen_ok, he, hs]

theorem ls_sliced {st s : Nat} {n e : Bool} {xs : List AV} {a : Option Addr} {c l h m : Nat} {ex : Bool} (hx : Rep w φ ok (.ls st n e xs) (.slice a xs.length c))
    (hst : st = s ∨ xs = []) (h1 : l ≤ h) (h2 : h ≤ xs.length) (h3 : h ≤ m) (h4 : m ≤ c) (hex : ex = true → m = h ∧ (n = true → e = true)) : Rep w φ ok (.ls s n ex ((xs.drop l).take (h - l))) (sliced a l h m s) := by
  obtain ⟨_, hl, hc⟩ := hx.ls_cells
  have hlen := hx.ls_len
  have hxl : ((xs.drop l).take (h - l)).length = h - l := by simp; omega
  have hget : ∀ (i : Nat) (x : AV), ((xs.drop l).take (h - l))[i]? = some x → xs[l + i]? = some x ∧ i < h - l := by
    intro i x hi
    have := (List.getElem?_eq_some_iff.1 hi).1
    rw [hxl] at this
    rw [List.getElem?_take_of_lt this, List.getElem?_drop] at hi
    exact ⟨hi, this⟩
  have hst' : ∀ (i : Nat) (x : AV), xs[i]? = some x → st = s := by
    intro i x hi
    rcases hst with h | h
    · exact h
    · subst h; simp at hi
  have key : Rep w φ ok (.ls s n ex ((xs.drop l).take (h - l))) (.slice (if m = l then a else a.map (·.add (l * s))) ((xs.drop l).take (h - l)).length (m - l)) := by
    refine Rep.mk_ls ⟨by rw [hxl]; omega, fun k => by rw [hxl, (hex k).1], fun k k' => ?_, fun k => ?_, fun k => ?_, fun x hx' => ?_⟩ ?_ ?_
    · have ha0 := hl.2.2.1 k ((hex k').2 k)
      subst ha0
      split <;> rfl
    · have ha0 := hl.2.2.2.1 k
      split
      · exact ha0
      · cases a <;> simp_all
    · obtain ⟨b, o, rfl⟩ := hl.2.2.2.2.1 (by omega)
      rw [if_neg (by omega)]
      exact ⟨b, o + l * s, by simp [Addr.add_lit]⟩
    · have ha0 := hl.2.2.2.2.2
      split at hx'
      · exact ha0 x hx'
      · cases a with
        | none => cases hx'
        | some y =>
          simp only [Option.map_some, Option.some.injEq] at hx'
          subst hx'
          have := ha0 y rfl
          unfold Addr.add
          split
          · exact this
          · rfl
    · intro i x hi
      obtain ⟨h5, _⟩ := hget i x hi
      rw [← hst' _ _ h5]
      exact hlen _ x h5
    · intro b o ha i x j y hi hj
      obtain ⟨h5, h6⟩ := hget i x hi
      have e := hst' _ _ h5
      subst e
      rw [if_neg (by omega)] at ha
      · obtain ⟨b', o', rfl⟩ := hl.2.2.2.2.1 (by omega)
        simp only [Option.map_some, Addr.add_lit, Option.some.injEq, Addr.mk.injEq] at ha
        obtain ⟨rfl, rfl, _⟩ := ha
        obtain ⟨v, h7, h8, h9⟩ := hc b' o' rfl (l + i) x j y h5 hj
        rw [show o' + l * st + i * st + j = o' + (l + i) * st + j by rw [Nat.add_mul]; omega]
        exact ⟨v, h7, h8, h9⟩
  rw [hxl] at key
  exact key

theorem sliceVal_ok (hty : TyOk P ty) (hbox : ∀ id b, box? bx id = some b → ∃ L, φ id = some L ∧ b.st = L.st) {get : Operand → AV} {ρ : Operand → Value} (hget : ∀ x, Rep w φ ok (get x) (ρ x)) {t : TypeId} {x : AV} {u : Value} {lo hi mx : Option Operand} {p : Prop} {r : AV}
    (hx : Rep w φ ok x u) (h : sliceVal ty bx get t x lo hi mx = some (p, r)) (hp : p) :
    ∃ v, (Instr.sliceAt t u (lo.map ρ) (hi.map ρ) (mx.map ρ)).run P w = .ok v w ∧ Rep w φ ok r v := by
  unfold sliceVal at h
  cases hs : ty t with
  | none => simp [hs] at h
  | some ti =>
  obtain ⟨d, f, z, T⟩ := hty.at hs
  simp only [hs, Option.map_some] at h
  split at h
  · rename_i s hk
    have hd := T.str (Option.some.inj hk)
    subst hd
    split at h
    · rename_i p' l q' hh e1 e2
      simp only [Option.some.injEq, Prod.mk.injEq] at h
      obtain ⟨rfl, rfl⟩ := h
      obtain ⟨hp1, hp2, h1, h2⟩ := hp
      cases hx
      have B1 := bound_ok (fun y _ => hget y) e1 hp1
      have B2 := bound_ok (fun y _ => hget y) e2 hp2
      refine ⟨.string (s.extract l hh), ?_, .str _⟩
      rw [run_sliceAt_string w t _ _ _ _ T.und]
      simp only [Instr.slice, Sem.run_bind, T.run_und, Result.andThen_ok, Option.map_none, Option.isSome_none]
      simp [run_bounds (P := P) false s.size s.size l hh _ _ B1 B2 h1 h2]
    · cases h
  · rename_i e st n ex xs hk
    have hd := T.slice (Option.some.inj hk)
    subst hd
    obtain ⟨a, c, rfl⟩ := hx.ls_val
    obtain ⟨_, hl, _⟩ := hx.ls_cells
    split at h
    · rename_i ei p' l q' hh e0 e1 e2
      simp only [Option.some.injEq, Prod.mk.injEq] at h
      obtain ⟨rfl, rfl⟩ := h
      obtain ⟨hp1, hp2, h1, h2, h3⟩ := hp
      obtain ⟨d', f', z', T'⟩ := hty.at e0
      have B1 := bound_ok (fun y _ => hget y) e1 hp1
      have B2 := bound_ok (fun y _ => hget y) e2 hp2
      refine ⟨sliced a l hh c ei.size, run_slice_to T.und (T'.run_sizeOf w) a xs.length c l hh c _ _ _ (run_bounds true xs.length c l hh _ _ B1 B2 h1 (Nat.le_trans h2 hl.1)), ?_⟩
      refine ls_sliced hx h3 h1 h2 (Nat.le_trans h2 hl.1) (Nat.le_refl _) (fun k => ?_)
      simp only [Bool.and_eq_true, Bool.or_eq_true, decide_eq_true_eq] at k
      have hc := hl.2.1 k.1
      refine ⟨?_, fun _ => k.1⟩
      rcases k.2 with k | k
      · rcases B2 with ⟨_, k2⟩ | ⟨_, _, k2, _⟩
        · omega
        · cases hi with
          | none => cases k2
          | some _ => cases k
      · omega
    · rename_i ei p' l q' hh mo e0 e1 e2
      split at h
      · rename_i km m em
        simp only [Option.some.injEq, Prod.mk.injEq] at h
        obtain ⟨rfl, rfl⟩ := h
        obtain ⟨hp1, hp2, hs', h1, h2, h3, h4⟩ := hp
        obtain ⟨d', f', z', T'⟩ := hty.at e0
        have B1 := bound_ok (fun y _ => hget y) e1 hp1
        have B2 := bound_ok (fun y _ => hget y) e2 hp2
        have rm := hget mo
        rw [em] at rm
        generalize hv : ρ mo = vm at rm
        cases rm
        simp only [Option.map_some, hv]
        have hcap := hl.1
        refine ⟨sliced a l hh m.toNat ei.size, run_slice_to T.und (T'.run_sizeOf w) a xs.length c l hh m.toNat _ _ _
          (run_bounds3 true xs.length c l hh m _ _ _ B1 B2 (by simpa using hs') h1 h2 (by omega)), ?_⟩
        refine ls_sliced hx h4 h1 (by omega) (by omega) (by omega) (fun k => ?_)
        simp only [Bool.and_eq_true, Bool.or_eq_true, Bool.not_eq_true', decide_eq_true_eq] at k
        refine ⟨by omega, fun hn => ?_⟩
        rcases k.1 with k1 | k1
        · rw [hn] at k1; cases k1
        · exact k1
      · cases h
    · cases h
  · rename_i e id off len cap hk
    have hd := T.slice (Option.some.inj hk)
    subst hd
    cases hx with | sl _ _ _ _ L a c hL hS =>
    split at h
    · rename_i ei bb p' l q' hh e0 eb e1 e2
      simp only [Option.some.injEq, Prod.mk.injEq] at h
      obtain ⟨rfl, rfl⟩ := h
      obtain ⟨hp1, hp2, h1, h2, h3⟩ := hp
      obtain ⟨d', f', z', T'⟩ := hty.at e0
      have B1 := bound_ok (fun y _ => hget y) e1 hp1
      have B2 := bound_ok (fun y _ => hget y) e2 hp2
      obtain ⟨L', hL', hst⟩ := hbox id bb eb
      obtain rfl : L = L' := by rw [hL] at hL'; exact Option.some.inj hL'
      obtain ⟨s1, s2, s3, s4, s5⟩ := hS
      refine ⟨sliced a l hh c ei.size, run_slice_to T.und (T'.run_sizeOf w) a len c l hh c _ _ _ (run_bounds true len c l hh _ _ B1 B2 h1 (by omega)), ?_⟩
      refine .sl id (off + l) (hh - l) (cap - l) L _ (c - l) hL ⟨by omega, by omega, fun k => by rw [s3 k], ?_, fun hc => ?_⟩
      · intro y hy
        split at hy
        · exact s4 y hy
        · cases a with
          | none => cases hy
          | some a =>
            have := s4 a rfl
            simp only [Option.map_some, Option.some.injEq] at hy
            subst hy
            unfold Addr.add
            split
            · exact this
            · rfl
      · obtain ⟨s6, ab, ao, s7, s8, s9, s10, s11⟩ := s5 (by omega)
        obtain ⟨k1, k2, k3⟩ := SlOk.part l (c - l) (cap - l) s9 s10 s11 (by omega) (by omega)
        refine ⟨s6, ab, ao + l * L.st, ?_, s8, k1, k2, k3⟩
        subst s7
        rw [if_neg (by omega)]
        simp only [Option.map_some, Addr.add_lit, ← h3, hst]
    · cases h
  · cases h
end

end Go.Av
namespace Go.Av

section
variable {P : Program} {ty : TypeId → Option TI} {G : Gh} {bx : List (Nat × Option Box)} {nx : Nat} {φ : Nat → Option Loc} {w : World} {ok : Nat → Nat → Prop}

theorem Rel.box_st (hrel : Rel G bx nx φ w) : ∀ id b, box? bx id = some b → ∃ L, φ id = some L ∧ b.st = L.st := by
  intro id b hb
  obtain ⟨L, hL, hr, _⟩ := hrel.box id b hb
  exact ⟨L, hL, hr.st⟩

theorem getD_some {α : Type} {l : List α} {i : Nat} {d x : α} (h : l[i]? = some x) : l.getD i d = x := by simp [List.getD, h]

theorem getElem?_getD {α : Type} {l : List α} {i : Nat} (d : α) (h : i < l.length) : l[i]? = some (l.getD i d) := by
  simp [List.getD, List.getElem?_eq_getElem h]

theorem box_cells {L : Loc} {b : Box} (hb : BoxRep w φ ok L b) (hv : L.virt = false) {e : Nat} (he : e < b.elems.length) :
    ∀ (j : Nat) (x : AV), (b.elems.getD e .undef).cells[j]? = some x → ∃ v, w.cell? ⟨(L.pos e).1, (L.pos e).2 + j, none⟩ = some v ∧ Rep w φ ok x v := by
  intro j x hx
  exact hb.cont hv e _ j x (getElem?_getD .undef he) hx

theorem load_ok (hty : TyOk P ty) (hrel : Rel G bx nx φ w) {t : TypeId} {ti : TI} (ht : ty t = some ti) {id e k : Nat} {b : Box} (hb : box? bx id = some b)
    {u : Value} (hu : Rep w φ (OK G bx φ w) (.ptr id e k) u) (he : e < b.elems.length) (hp : (cut false ti (b.elems.getD e .undef).cells k).1) :
    ∃ v, (Instr.loadAt t u).run P w = .ok v w ∧ Rep w φ (OK G bx φ w) (cut false ti (b.elems.getD e .undef).cells k).2 v := by
  obtain ⟨d, f, z, T⟩ := hty.at ht
  obtain ⟨L, hL, hr, _⟩ := hrel.box id b hb
  cases hu with | ptr _ _ _ L' hL' hv =>
  obtain rfl : L = L' := by rw [hL] at hL'; exact Option.some.inj hL'
  obtain ⟨v, h1, h2⟩ := loadVar_ok (P := P) (deep := false) T (b := (L.pos e).1) (o := (L.pos e).2) (box_cells hr hv he) hp
  exact ⟨v, by simpa [Instr.loadAt, Instr.sureAddr] using h1, h2⟩

theorem load_vp_ok (hty : TyOk P ty) {t : TypeId} {ti : TI} (ht : ty t = some ti) {cs : List AV} {u : Value} (hu : Rep w φ ok (.vp cs) u) (hp : (cut true ti cs 0).1) :
    ∃ v, (Instr.loadAt t u).run P w = .ok v w ∧ Rep w φ ok (cut true ti cs 0).2 v := by
  obtain ⟨d, f, z, T⟩ := hty.at ht
  cases hu with | vp b o _ vs hk hc hr =>
  obtain ⟨v, h1, h2⟩ := loadVar_ok (P := P) (deep := true) T (b := b) (o := o) (fun j x hx => ⟨vs j, (hc j ((List.getElem?_eq_some_iff.1 hx).1)).1, hr j x hx⟩) hp
  exact ⟨v, by simpa [Instr.loadAt, Instr.sureAddr] using h1, h2⟩

theorem vp_drop {cs : List AV} {b o : Nat} {n : Nat} (hu : Rep w φ ok (.vp cs) (.pointer (some ⟨b, o, none⟩))) : Rep w φ ok (.vp (cs.drop n)) (.pointer (some ⟨b, o + n, none⟩)) := by
  cases hu with | vp _ _ _ vs hk hc hr =>
  refine .vp b (o + n) _ (fun i => vs (n + i)) (fun y hy => hk y (List.mem_of_mem_drop hy)) (fun i hi => ?_) (fun i x hx => ?_)
  · simp at hi
    have := hc (n + i) (by omega)
    rw [show o + n + i = o + (n + i) by omega]
    exact this
  · rw [List.getElem?_drop] at hx
    exact hr (n + i) x hx

theorem fieldAddr_ok (hty : TyOk P ty) {s : TypeId} {si : TI} (hs : ty s = some si) {fs : List (Nat × TypeId)} (hk : si.k = .struct fs) {i off : Nat} {ft : TypeId} (hf : fs[i]? = some (off, ft))
    {fi : TI} (hfi : ty ft = some fi) (hne : fi.size ≠ 0) (b o : Nat) :
    (Instr.fieldAt s (.pointer (some ⟨b, o, none⟩)) i).run P w = .ok (.pointer (some ⟨b, o + off, none⟩)) w := by
  obtain ⟨d, f, z, T⟩ := hty.at hs
  obtain ⟨d', f', z', T'⟩ := hty.at hfi
  obtain ⟨a, rfl, rfl⟩ := T.struct hk
  rw [List.getElem?_map] at hf
  simp only [Option.map_eq_some_iff] at hf
  obtain ⟨fd, hfd, hh⟩ := hf
  simp only [Prod.mk.injEq] at hh
  obtain ⟨rfl, rfl⟩ := hh
  have hfd' : a[i]? = some fd := by simpa using hfd
  simp [Instr.fieldAt, run_underlying T.und, hfd', Instr.sureAddr, fieldPlace, T'.run_sizeOf, hne, Addr.add_lit]

theorem part_ok (hty : TyOk P ty) {t : TypeId} {ti : TI} (ht : ty t = some ti) {cs : List AV} {vs : Array Value} (hl : vs.size = cs.length)
    (hr : ∀ (i : Nat) (x : AV) (v : Value), cs[i]? = some x → vs[i]? = some v → Rep w φ ok x v) {off : Nat} (hp : (cut false ti cs off).1) :
    ∃ v, (part t vs off).run P w = .ok v w ∧ Rep w φ ok (cut false ti cs off).2 v := by
  obtain ⟨d, f, z, T⟩ := hty.at ht
  unfold cut at *
  cases ha : isAggK ti.k with
  | true =>
    simp only [ha, if_true] at hp ⊢
    refine ⟨.agg (vs.extract off (off + ti.size)), ?_, ?_⟩
    · simp only [part, Sem.run_bind, T.run_isAgg, Result.andThen_ok, ha, if_true, T.run_sizeOf, Sem.run_pure]
    · refine .agg _ _ (by simp; omega) (fun i x v hx hv => ?_)
      have hi : i < ti.size := by
        have := (List.getElem?_eq_some_iff.1 hx).1
        simp at this
        omega
      rw [List.getElem?_take_of_lt hi, List.getElem?_drop] at hx
      rw [Array.getElem?_extract] at hv
      split at hv
      · exact hr _ x v hx hv
      · cases hv
  | false =>
    simp only [ha] at hp ⊢
    obtain ⟨hk, hn⟩ := hp
    have hv : vs[off]? = some vs[off] := Array.getElem?_eq_getElem (by omega)
    refine ⟨vs[off], ?_, ?_⟩
    · simp only [part, Sem.run_bind, T.run_isAgg, Result.andThen_ok, ha]
      simp [hv]
    · rw [if_neg (by simp), norm_eq hn]
      exact hr off _ _ (getElem?_getD .undef hk) hv

theorem field_ok (hty : TyOk P ty) {s : TypeId} {si : TI} (hs : ty s = some si) {fs : List (Nat × TypeId)} (hk : si.k = .struct fs) {i off : Nat} {ft : TypeId} (hf : fs[i]? = some (off, ft))
    {fi : TI} (hfi : ty ft = some fi) {cs : List AV} {u : Value} (hu : Rep w φ ok (.agg cs) u) (hp : (cut false fi cs off).1) :
    ∃ v, (Instr.field s u i).run P w = .ok v w ∧ Rep w φ ok (cut false fi cs off).2 v := by
  obtain ⟨d, f, z, T⟩ := hty.at hs
  obtain ⟨a, rfl, rfl⟩ := T.struct hk
  rw [List.getElem?_map] at hf
  simp only [Option.map_eq_some_iff] at hf
  obtain ⟨fd, hfd, hh⟩ := hf
  simp only [Prod.mk.injEq] at hh
  obtain ⟨rfl, rfl⟩ := hh
  have hfd' : a[i]? = some fd := by simpa using hfd
  cases hu with | agg _ vs hl hr =>
  obtain ⟨v, h1, h2⟩ := part_ok hty hfi hl hr hp
  exact ⟨v, by simpa [Instr.field, run_underlying T.und, hfd', asAgg] using h1, h2⟩

theorem index_arr_ok (hty : TyOk P ty) {t : TypeId} {ti : TI} (ht : ty t = some ti) {n e : Nat} (hk : ti.k = .arr n e) {ei : TI} (hei : ty e = some ei)
    {cs : List AV} {u : Value} (hu : Rep w φ ok (.agg cs) u) {k : IntKind} {i : Int} (h0 : 0 ≤ i) (h1 : i < (n : Int)) (hp : (cut false ei cs (i.toNat * ei.size)).1) :
    ∃ v, (Instr.index t u (.int k i)).run P w = .ok v w ∧ Rep w φ ok (cut false ei cs (i.toNat * ei.size)).2 v := by
  obtain ⟨d, f, z, T⟩ := hty.at ht
  obtain ⟨d', f', z', T'⟩ := hty.at hei
  have hd := T.arr hk
  subst hd
  cases hu with | agg _ vs hl hr =>
  obtain ⟨v, h2, h3⟩ := part_ok hty hei hl hr hp
  exact ⟨v, by simpa [Instr.index, asIntOf, run_underlying T.und, h0, h1, T'.run_sizeOf] using h2, h3⟩

theorem index_str_ok (hty : TyOk P ty) {t : TypeId} {ti : TI} (ht : ty t = some ti) (hk : ti.k = .str) {s : ByteArray} {k : IntKind} {i : Int} (h0 : 0 ≤ i) (h1 : i < (s.size : Int)) :
    (Instr.index t (.string s) (.int k i)).run P w = .ok (.int .u8 ((s.data.toList.getD i.toNat 0).toNat : Int)) w := by
  obtain ⟨d, f, z, T⟩ := hty.at ht
  have hd := T.str hk
  subst hd
  have hi : i.toNat < s.size := by omega
  have hg : s[i.toNat]? = some s[i.toNat] := getElem?_pos s i.toNat hi
  have : s.data.toList.getD i.toNat 0 = s[i.toNat] := by
    simp [List.getD, hi]
    rfl
  simp only [Instr.index, Sem.run_bind, asIntOf, Sem.run_pure, Result.andThen_ok, run_underlying T.und, if_pos h0, hg, this]

theorem index_slice_ok (hty : TyOk P ty) {t : TypeId} {ti : TI} (ht : ty t = some ti) {e : Nat} (hk : ti.k = .slice e) {ei : TI} (hei : ty e = some ei)
    (b o len cap : Nat) {k : IntKind} {i : Int} (h0 : 0 ≤ i) (h1 : i < (len : Int)) :
    (Instr.indexAt t (.slice (some ⟨b, o, none⟩) len cap) (.int k i)).run P w = .ok (.pointer (some ⟨b, o + i.toNat * ei.size, none⟩)) w := by
  obtain ⟨d, f, z, T⟩ := hty.at ht
  obtain ⟨d', f', z', T'⟩ := hty.at hei
  have hd := T.slice hk
  subst hd
  simp [Instr.indexAt, asIntOf, run_underlying T.und, h0, h1, T'.run_sizeOf, Addr.add_lit]

theorem index_array_ok (hty : TyOk P ty) {t : TypeId} {ti : TI} (ht : ty t = some ti) {n e : Nat} (hk : ti.k = .arr n e) {ei : TI} (hei : ty e = some ei)
    (b o : Nat) {k : IntKind} {i : Int} (h0 : 0 ≤ i) (h1 : i < (n : Int)) :
    (Instr.indexAt t (.pointer (some ⟨b, o, none⟩)) (.int k i)).run P w = .ok (.pointer (some ⟨b, o + i.toNat * ei.size, none⟩)) w := by
  obtain ⟨d, f, z, T⟩ := hty.at ht
  obtain ⟨d', f', z', T'⟩ := hty.at hei
  have hd := T.arr hk
  subst hd
  simp [Instr.indexAt, asIntOf, run_underlying T.und, h0, h1, T'.run_sizeOf, Addr.add_lit, Instr.sureAddr]

theorem run_mapM {α β : Type} (f : α → Sem β) (g : α → β) : ∀ (l : List α), (∀ x ∈ l, (f x).run P w = .ok (g x) w) → (l.mapM f).run P w = .ok (l.map g) w
  | [], h => by simp
  | a :: l, h => by
    simp only [List.mapM_cons, Sem.run_bind, h a (by simp), Result.andThen_ok, run_mapM f g l (fun x hx => h x (by simp [hx])), Sem.run_pure, List.map_cons]

theorem build_ok (hty : TyOk P ty) {t : TypeId} {ti : TI} (ht : ty t = some ti) {fs : List (Nat × TypeId)} (hk : ti.k = .struct fs) (hall : (fs.all fun f => (ty f.2).isSome) = true)
    {parts : List (Nat × AV)} {us : List (Nat × Value)} (hl : us.length = parts.length)
    (hr : ∀ (j : Nat) (x : Nat × AV) (u : Nat × Value), parts[j]? = some x → us[j]? = some u → x.1 = u.1 ∧ Rep w φ ok x.2 u.2) {p : Prop} {cs' : List AV}
    (h : fillS ty fs parts ti.zero = some (p, cs')) (hp : p) :
    ∃ v, (Instr.build t us.toArray).run P w = .ok v w ∧ Rep w φ ok (.agg cs') v := by
  obtain ⟨d, f, z, T⟩ := hty.at ht
  obtain ⟨a, rfl, rfl⟩ := T.struct hk
  have hpl : ∀ fd ∈ a.toList, (do pure (fd.offset, ← sizeOf fd.type) : Sem (Nat × Nat)).run P w = .ok (fd.offset, (ty fd.type).elim 0 TI.size) w := by
    intro fd hfd
    rw [List.all_eq_true] at hall
    have := hall (fd.offset, fd.type) (List.mem_map.2 ⟨fd, hfd, rfl⟩)
    obtain ⟨fi, hfi⟩ := Option.isSome_iff_exists.1 this
    obtain ⟨d', f', z', T'⟩ := hty.at hfi
    simp only [Sem.run_bind, T'.run_sizeOf, Result.andThen_ok, Sem.run_pure]
    simp at hfi
    simp [hfi]
  obtain ⟨cells, h1, h2⟩ := fillS_ok hty (a.toList.map fun f => (f.offset, f.type)) (fun (i : Nat) => (a.toList.map fun fd => (fd.offset, (ty fd.type).elim 0 TI.size))[i]?)
    (fun (i : Nat) off ft fi hfs hfi => by
      rw [List.getElem?_map] at hfs ⊢
      simp only [Option.map_eq_some_iff] at hfs
      obtain ⟨fd, hfd, hh⟩ := hfs
      simp only [Prod.mk.injEq] at hh
      obtain ⟨rfl, rfl⟩ := hh
      simp [hfd, hfi]) parts us ti.zero cs' z.cells p (rep_zero T w φ ok) hl hr h hp
  refine ⟨.agg cells, ?_, .agg _ _ (by have := h2.1; simpa using this) (fun i x v hx hv => h2.2 i x v hx (by simpa using hv))⟩
  simp only [Instr.build, Sem.run_bind, T.run_zero, Result.andThen_ok, run_underlying T.und]
  rw [Array.mapM_eq_mapM_toList]
  simp only [Sem.run_map, run_mapM (P := P) (w := w) _ _ a.toList hpl, Result.andThen_ok]
  have e : (fun (i : Nat) => ((a.toList.map fun fd => (fd.offset, (ty fd.type).elim 0 TI.size)).toArray)[i]?) = fun (i : Nat) => (a.toList.map fun fd => (fd.offset, (ty fd.type).elim 0 TI.size))[i]? := by
    funext i; simp
  rw [e, h1]
  rfl

theorem buildSlice_ok (hty : TyOk P ty) (hrel : Rel G bx nx φ w) {t : TypeId} {ti : TI} (ht : ty t = some ti) {e : TypeId} (hk : ti.k = .slice e) {ei : TI} (hei : ty e = some ei)
    {parts : List (Nat × AV)} {us : List (Nat × Value)} (hl : us.length = parts.length) (len : Nat)
    (hr : ∀ (j : Nat) (x : Nat × AV) (u : Nat × Value), parts[j]? = some x → us[j]? = some u → x.1 = u.1 ∧ Rep w φ (OK G bx φ w) x.2 u.2)
    (hp : (fillL ei.size parts (zeros ei.size ei.zero len)).1) (hlim : len * ei.size ≤ 16777216) (hpos : 0 < ei.size)
    (hch : ∀ x ∈ chunk (isAggK ei.k) ei.size len (fillL ei.size parts (zeros ei.size ei.zero len)).2, okCells ei.size x ∧ (isAggK ei.k || x.flat) = true) :
    ∃ v w', (Instr.buildSlice t len us.toArray).run P w = .ok v w' ∧ Ext w w' ∧
      Rep w' φ (OK G bx φ w') (.ls ei.size false true (chunk (isAggK ei.k) ei.size len (fillL ei.size parts (zeros ei.size ei.zero len)).2)) v := by
  obtain ⟨d, f, z, T⟩ := hty.at ht
  obtain ⟨d', f', z', T'⟩ := hty.at hei
  have hd := T.slice hk
  subst hd
  have hzl : ei.zero.length = ei.size := by rw [T'.zer]; simp [T'.cells]
  have hz : RepCells w φ (OK G bx φ w) (zeros ei.size ei.zero len) ((Array.range (len * ei.size)).map (z'.cells[· % z'.cells.size]!)).toList :=
    zeros_rep (rep_zero T' w φ _) hzl hpos len
  obtain ⟨cells, h1, h2⟩ := fillL_ok ei.size parts us _ _ hz hl hr hp
  have hlen : (fillL ei.size parts (zeros ei.size ei.zero len)).2.length = len * ei.size := by
    have key : ∀ (parts : List (Nat × AV)) (cs : List AV), (fillL ei.size parts cs).1 → (fillL ei.size parts cs).2.length = cs.length := by
      intro parts
      induction parts with
      | nil => intro cs _; rfl
      | cons q r ih =>
        intro cs h
        simp only [fillL] at h ⊢
        rw [ih _ h.2, splice_length _ _ _ (by rw [h.1.1]; exact h.1.2.1)]
    rw [key _ _ hp, zeros_length _ _ hzl]
  have hE : Ext w (w.alloc (.cells cells e)) := .alloc w _
  refine ⟨.slice (some ⟨w.heap.size, 0, none⟩) len len, w.alloc (.cells cells e), ?_, hE, ?_⟩
  · have hn : ¬ (len * ei.size > 2 ^ 24) := by
      have : (2 : Nat) ^ 24 = 16777216 := by decide
      omega
    by_cases h0 : len * ei.size = 0
    · have e0 : ((Array.range (len * ei.size)).map ((#[] : Array Value)[· % (#[] : Array Value).size]!)) = (Array.range (len * ei.size)).map (z'.cells[· % z'.cells.size]!) := by
        simp [h0, Array.range_zero']
      simp only [Instr.buildSlice, Sem.run_bind, run_underlying T.und, Result.andThen_ok, T'.run_sizeOf, if_neg hn, if_pos h0, Sem.run_pure, e0, h1]
      simp [newRow]
    · simp only [Instr.buildSlice, Sem.run_bind, run_underlying T.und, Result.andThen_ok, T'.run_sizeOf, if_neg hn, if_neg h0, T'.run_zero, Sem.run_pure, h1]
      simp [newRow]
  · have hcl := chunk_length (isAggK ei.k) ei.size len (fillL ei.size parts (zeros ei.size ei.zero len)).2
    have key : Rep (w.alloc (.cells cells e)) φ (OK G bx φ (w.alloc (.cells cells e))) (.ls ei.size false true (chunk (isAggK ei.k) ei.size len (fillL ei.size parts (zeros ei.size ei.zero len)).2))
        (.slice (some ⟨w.heap.size, 0, none⟩) (chunk (isAggK ei.k) ei.size len (fillL ei.size parts (zeros ei.size ei.zero len)).2).length len) := by
      refine Rep.mk_ls ⟨by omega, fun _ => by omega, fun h => (by cases h), fun _ => (by nofun), fun _ => ⟨_, _, rfl⟩, fun x hx => (by cases hx; rfl)⟩ (fun i x hx => (hch x (List.mem_of_getElem? hx)).1) ?_
      intro b o hbo i x j y hx hy
      simp only [Option.some.injEq, Addr.mk.injEq] at hbo
      obtain ⟨rfl, rfl, _⟩ := hbo
      have hi : i < len := by rw [← hcl]; exact (List.getElem?_eq_some_iff.1 hx).1
      obtain ⟨⟨hxl, _⟩, hxf⟩ := hch x (List.mem_of_getElem? hx)
      have hj : j < ei.size := by rw [← hxl]; exact (List.getElem?_eq_some_iff.1 hy).1
      have hlt : i * ei.size + j < len * ei.size := by
        have : (i + 1) * ei.size ≤ len * ei.size := Nat.mul_le_mul_right _ hi
        rw [Nat.succ_mul] at this
        omega
      have hcy : (fillL ei.size parts (zeros ei.size ei.zero len)).2[i * ei.size + j]? = some y := by
        rw [chunk_get _ _ _ _ _ hi] at hx
        cases hag : isAggK ei.k with
        | true =>
          rw [hag] at hx
          simp only [if_true, Option.some.injEq] at hx
          subst hx
          simp only [AV.cells] at hy
          rw [List.getElem?_take_of_lt hj, List.getElem?_drop] at hy
          exact hy
        | false =>
          rw [hag] at hx
          simp only [Bool.false_eq_true, if_false, Option.some.injEq] at hx
          have hq : (fillL ei.size parts (zeros ei.size ei.zero len)).2[i * ei.size]? = some x := by
            rw [getElem?_getD AV.undef (by omega), hx]
          rw [hag, Bool.false_or] at hxf
          rw [AV.cells_flat hxf] at hxl hy
          have hj0 : j = 0 := by
            have := (List.getElem?_eq_some_iff.1 hy).1
            simp at this
            exact this
          subst hj0
          simp at hy
          subst hy
          exact hq
      obtain ⟨cv, hcv⟩ : ∃ cv, cells[i * ei.size + j]? = some cv :=
        ⟨_, Array.getElem?_eq_getElem (by have := h2.1; simp at this; omega)⟩
      refine ⟨cv, ?_, hrel.ok_new (Nat.le_refl _) (by simp), ?_⟩
      · rw [World.cell?_alloc_new, Nat.zero_add]; exact hcv
      · exact (h2.2 _ y _ hcy (by simpa using hcv)).ext hE
    rw [hcl] at key
    exact key
theorem buildSlice_at (hty : TyOk P ty) (hrel : Rel G bx nx φ w) {t : TypeId} {ti : TI} (ht : ty t = some ti) {e : TypeId} (hk : ti.k = .slice e) {ei : TI} (hei : ty e = some ei)
    {parts : List (Nat × AV)} {us : List (Nat × Value)} (hl : us.length = parts.length) (len : Nat)
    (hr : ∀ (j : Nat) (x : Nat × AV) (u : Nat × Value), parts[j]? = some x → us[j]? = some u → x.1 = u.1 ∧ Rep w φ (OK G bx φ w) x.2 u.2)
    (hp : (fillL ei.size parts (zeros ei.size ei.zero len)).1) (hlim : len * ei.size ≤ 16777216) (hpos : 0 < ei.size)
    (hch : ∀ x ∈ chunk (isAggK ei.k) ei.size len (fillL ei.size parts (zeros ei.size ei.zero len)).2, okCells ei.size x ∧ (isAggK ei.k || x.flat) = true) :
    ∃ cells, (Instr.buildSlice t len us.toArray).run P w = .ok (.slice (some ⟨w.heap.size, 0, none⟩) len len) (w.alloc (.cells cells e)) ∧ cells.size = len * ei.size ∧
      ∀ (i : Nat) (x : AV) (j : Nat) (y : AV), (chunk (isAggK ei.k) ei.size len (fillL ei.size parts (zeros ei.size ei.zero len)).2)[i]? = some x → x.cells[j]? = some y →
        ∃ cv, (w.alloc (.cells cells e)).cell? ⟨w.heap.size, 0 + i * ei.size + j, none⟩ = some cv ∧ Rep w φ (OK G bx φ w) y cv := by
  obtain ⟨d, f, z, T⟩ := hty.at ht
  obtain ⟨d', f', z', T'⟩ := hty.at hei
  have hd := T.slice hk
  subst hd
  have hzl : ei.zero.length = ei.size := by rw [T'.zer]; simp [T'.cells]
  have hz : RepCells w φ (OK G bx φ w) (zeros ei.size ei.zero len) ((Array.range (len * ei.size)).map (z'.cells[· % z'.cells.size]!)).toList :=
    zeros_rep (rep_zero T' w φ _) hzl hpos len
  obtain ⟨cells, h1, h2⟩ := fillL_ok ei.size parts us _ _ hz hl hr hp
  have hlen : (fillL ei.size parts (zeros ei.size ei.zero len)).2.length = len * ei.size := by
    have key : ∀ (parts : List (Nat × AV)) (cs : List AV), (fillL ei.size parts cs).1 → (fillL ei.size parts cs).2.length = cs.length := by
      intro parts
      induction parts with
      | nil => intro cs _; rfl
      | cons q r ih =>
        intro cs h
        simp only [fillL] at h ⊢
        rw [ih _ h.2, splice_length _ _ _ (by rw [h.1.1]; exact h.1.2.1)]
    rw [key _ _ hp, zeros_length _ _ hzl]
  have hE : Ext w (w.alloc (.cells cells e)) := .alloc w _
  have hcs : cells.size = len * ei.size := by have := h2.1; simp at this; omega
  refine ⟨cells, ?_, hcs, ?_⟩
  · have hn : ¬ (len * ei.size > 2 ^ 24) := by
      have : (2 : Nat) ^ 24 = 16777216 := by decide
      omega
    by_cases h0 : len * ei.size = 0
    · have e0 : ((Array.range (len * ei.size)).map ((#[] : Array Value)[· % (#[] : Array Value).size]!)) = (Array.range (len * ei.size)).map (z'.cells[· % z'.cells.size]!) := by
        simp [h0, Array.range_zero']
      simp only [Instr.buildSlice, Sem.run_bind, run_underlying T.und, Result.andThen_ok, T'.run_sizeOf, if_neg hn, if_pos h0, Sem.run_pure, e0, h1]
      simp [newRow]
    · simp only [Instr.buildSlice, Sem.run_bind, run_underlying T.und, Result.andThen_ok, T'.run_sizeOf, if_neg hn, if_neg h0, T'.run_zero, Sem.run_pure, h1]
      simp [newRow]
  · have hcl := chunk_length (isAggK ei.k) ei.size len (fillL ei.size parts (zeros ei.size ei.zero len)).2
    · intro i x j y hx hy
      have hi : i < len := by rw [← hcl]; exact (List.getElem?_eq_some_iff.1 hx).1
      obtain ⟨⟨hxl, _⟩, hxf⟩ := hch x (List.mem_of_getElem? hx)
      have hj : j < ei.size := by rw [← hxl]; exact (List.getElem?_eq_some_iff.1 hy).1
      have hlt : i * ei.size + j < len * ei.size := by
        have : (i + 1) * ei.size ≤ len * ei.size := Nat.mul_le_mul_right _ hi
        rw [Nat.succ_mul] at this
        omega
      have hcy : (fillL ei.size parts (zeros ei.size ei.zero len)).2[i * ei.size + j]? = some y := by
        rw [chunk_get _ _ _ _ _ hi] at hx
        cases hag : isAggK ei.k with
        | true =>
          rw [hag] at hx
          simp only [if_true, Option.some.injEq] at hx
          subst hx
          simp only [AV.cells] at hy
          rw [List.getElem?_take_of_lt hj, List.getElem?_drop] at hy
          exact hy
        | false =>
          rw [hag] at hx
          simp only [Bool.false_eq_true, if_false, Option.some.injEq] at hx
          have hq : (fillL ei.size parts (zeros ei.size ei.zero len)).2[i * ei.size]? = some x := by
            rw [getElem?_getD AV.undef (by omega), hx]
          rw [hag, Bool.false_or] at hxf
          rw [AV.cells_flat hxf] at hxl hy
          have hj0 : j = 0 := by
            have := (List.getElem?_eq_some_iff.1 hy).1
            simp at this
            exact this
          subst hj0
          simp at hy
          subst hy
          exact hq
      obtain ⟨cv, hcv⟩ : ∃ cv, cells[i * ei.size + j]? = some cv :=
        ⟨_, Array.getElem?_eq_getElem (by have := h2.1; simp at this; omega)⟩
      refine ⟨cv, ?_, ?_⟩
      · rw [World.cell?_alloc_new, Nat.zero_add]; exact hcv
      · exact h2.2 _ y _ hcy (by simpa using hcv)
end

end Go.Av
namespace Go.Av

section
variable {P : Program} {ty : TypeId → Option TI} {G : Gh} {bx : List (Nat × Option Box)} {nx : Nat} {φ : Nat → Option Loc} {w : World}

theorem Yld.mk {ρ : Operand → Value} {dst : Option Tmp} {op : Op} {type : TypeId} {pos : String} {after : Array Edge} {guard : Option (Nat × Bool)} {r : AV} {s : Sem Value} {v : Value}
    (he : execOp ρ ⟨dst, op, type, pos, after, guard⟩ = (do pure (.value (← s)))) (h : s.run P w = .ok v w) (k : Rep w φ (OK G bx φ w) r v) : Yld P ρ ⟨dst, op, type, pos, after, guard⟩ G bx φ w r := by
  refine ⟨v, w, ?_, .refl w, k⟩
  rw [he]
  simp [h]

theorem Yld.mk' {ρ : Operand → Value} {dst : Option Tmp} {op : Op} {type : TypeId} {pos : String} {after : Array Edge} {guard : Option (Nat × Bool)} {r : AV} {s : Sem Value} {v : Value} {w' : World}
    (he : execOp ρ ⟨dst, op, type, pos, after, guard⟩ = (do pure (.value (← s)))) (h : s.run P w = .ok v w') (hE : Ext w w') (k : Rep w' φ (OK G bx φ w') r v) : Yld P ρ ⟨dst, op, type, pos, after, guard⟩ G bx φ w r := by
  refine ⟨v, w', ?_, hE, k⟩
  rw [he]
  simp [h]

theorem idx_some {x : AV} {i : Int} (h : idx x = some i) : ∃ k, x = .int k i := by
  unfold idx at h
  split at h
  · rename_i k n; obtain rfl := Option.some.inj h; exact ⟨k, rfl⟩
  · cases h

theorem Rep.int_inv {ok : Nat → Nat → Prop} {k : IntKind} {n : Int} {v : Value} (h : Rep w φ ok (.int k n) v) : v = .int k n := by cases h; rfl
theorem Rep.bool_inv {ok : Nat → Nat → Prop} {b : Bool} {v : Value} (h : Rep w φ ok (.bool b) v) : v = .bool b := by cases h; rfl
theorem Rep.str_inv {ok : Nat → Nat → Prop} {b : ByteArray} {v : Value} (h : Rep w φ ok (.str b) v) : v = .string b := by cases h; rfl

theorem opVal_ok (hty : TyOk P ty) (hrel : Rel G bx nx φ w) {get : Operand → AV} {ρ : Operand → Value} (hget : ∀ x, Rep w φ (OK G bx φ w) (get x) (ρ x)) {o : Oper} {p : Prop} {r : AV}
    (h : opVal ty bx get o.op = some (p, r)) (hp : p) : Yld P ρ o G bx φ w r := by
  obtain ⟨dst, op, type, pos, after, guard⟩ := o
  cases op with
  | move x =>
    simp only [opVal, Option.some.injEq, Prod.mk.injEq] at h
    obtain ⟨rfl, rfl⟩ := h
    exact Yld.same (by simp [execOp]) (hget x)
  | assign x =>
    simp only [opVal, Option.some.injEq, Prod.mk.injEq] at h
    obtain ⟨rfl, rfl⟩ := h
    exact Yld.same (by simp [execOp]) (hget x)
  | pick c a b =>
    simp only [opVal] at h
    split at h
    · rename_i t hc
      simp only [Option.some.injEq, Prod.mk.injEq] at h
      obtain ⟨rfl, rfl⟩ := h
      have h1 := hget c
      rw [hc] at h1
      have h2 := h1.bool_inv
      refine Yld.same (v := if t then ρ a else ρ b) (by simp [execOp, h2, asBool]) ?_
      cases t
      · exact hget b
      · exact hget a
    · cases h
  | build t parts =>
    simp only [opVal] at h
    split at h
    · rename_i ti ht
      split at h
      · rename_i fs hk
        split at h
        · rename_i hall
          cases hf : fillS ty fs (parts.toList.map fun p => (p.1, get p.2)) ti.zero with
          | none => simp [hf] at h
          | some q =>
            obtain ⟨q, cs⟩ := q
            simp only [hf, Option.map_some, Option.some.injEq, Prod.mk.injEq] at h
            obtain ⟨rfl, rfl⟩ := h
            obtain ⟨v, h1, h2⟩ := build_ok (P := P) hty ht hk hall (us := parts.toList.map fun p => (p.1, ρ p.2)) (by simp) (fun j x u hx hu => by
              rw [List.getElem?_map] at hx hu
              simp only [Option.map_eq_some_iff] at hx hu
              obtain ⟨a, ha, rfl⟩ := hx
              obtain ⟨b, hb, rfl⟩ := hu
              rw [ha] at hb
              obtain rfl := Option.some.inj hb
              exact ⟨rfl, hget _⟩) hf hp
            refine Yld.mk rfl (v := v) ?_ h2
            rw [← h1]
            congr 2
            apply Array.ext'
            simp
        · cases h
      · cases h
    · cases h
  | buildSlice t len parts =>
    simp only [opVal] at h
    split at h
    · rename_i e hk
      cases ht : ty t with
      | none => simp [ht] at hk
      | some ti =>
      simp only [ht, Option.map_some, Option.some.injEq] at hk
      split at h
      · rename_i ei hei
        simp only [Option.some.injEq, Prod.mk.injEq] at h
        obtain ⟨rfl, rfl⟩ := h
        obtain ⟨h1, h2, h3, h4⟩ := hp
        obtain ⟨v, w', h5, h6, h7⟩ := buildSlice_ok (P := P) hty hrel ht hk hei (us := parts.toList.map fun p => (p.1, ρ p.2)) (by simp) len (fun j x u hx hu => by
              rw [List.getElem?_map] at hx hu
              simp only [Option.map_eq_some_iff] at hx hu
              obtain ⟨a, ha, rfl⟩ := hx
              obtain ⟨b, hb, rfl⟩ := hu
              rw [ha] at hb
              obtain rfl := Option.some.inj hb
              exact ⟨rfl, hget _⟩) h1 h2 h3 h4
        refine Yld.mk' rfl (v := v) (w' := w') ?_ h6 h7
        rw [← h5]
        congr 2
        apply Array.ext'
        simp
      · cases h
    · cases h
  | load t a =>
    simp only [opVal] at h
    split at h
    · rename_i ti id e k ht ha
      split at h
      · rename_i b hb
        simp only [Option.some.injEq, Prod.mk.injEq] at h
        obtain ⟨rfl, rfl⟩ := h
        have hu := hget a
        rw [ha] at hu
        obtain ⟨v, h1, h2⟩ := load_ok (P := P) hty hrel ht hb hu hp.1 hp.2
        exact Yld.mk rfl h1 h2
      · cases h
    · rename_i ti cs ht ha
      simp only [Option.some.injEq] at h
      have hu := hget a
      rw [ha] at hu
      have hp' : (cut true ti cs 0).1 := by rw [h]; exact hp
      obtain ⟨v, h1, h2⟩ := load_vp_ok (P := P) hty ht hu hp'
      rw [h] at h2
      exact Yld.mk rfl h1 h2
    · cases h
  | nilCheck x =>
    simp only [opVal] at h
    have hu := hget x
    split at h <;> simp only [Option.some.injEq, Prod.mk.injEq, reduceCtorEq] at h <;> obtain ⟨rfl, rfl⟩ := h <;> rename_i hx <;> rw [hx] at hu <;> generalize hv : ρ x = v at hu
    · cases hu with | ptr _ _ _ L hL hw => exact Yld.same (by simp [execOp, hv]) (.ptr _ _ _ L hL hw)
    · cases hu with | vp b o _ vs hk hc hr => exact Yld.same (by simp [execOp, hv]) (.vp b o _ vs hk hc hr)
    · cases hu with | fn _ _ vs hl hr => exact Yld.same (by simp [execOp, hv]) (.fn _ _ vs hl hr)
  | binOp op t x y yt =>
    simp only [opVal] at h
    obtain ⟨v, h1, h2⟩ := binVal_ok (P := P) (X := x) (Y := y) hty (hget x) (hget y) h hp
    exact Yld.mk rfl h1 h2
  | unOp op t x =>
    simp only [opVal] at h
    obtain ⟨v, h1, h2⟩ := unVal_ok (P := P) (hget x) h
    exact Yld.mk rfl h1 h2
  | convert s d x =>
    simp only [opVal] at h
    obtain ⟨v, w', h1, h2, h3⟩ := convVal_ok (P := P) hty hrel (hget x) h hp
    exact Yld.mk' rfl h1 h2 h3
  | makeFunc f first caps =>
    cases f with
    | func f =>
      simp only [opVal] at h
      split at h
      · rename_i hf
        simp only [Option.some.injEq, Prod.mk.injEq] at h
        obtain ⟨rfl, rfl⟩ := h
        obtain rfl : first = #[] := by simpa using hf
        refine Yld.same (v := .func (.func f) #[] (caps.map ρ)) (by simp [execOp, Instr.makeFunc]) (.fn f _ _ (by simp) (fun i x v hx hv => ?_))
        simp only [List.getElem?_map, Array.getElem?_toList, Option.map_eq_some_iff, Array.getElem?_map] at hx hv
        obtain ⟨a, ha, rfl⟩ := hx
        obtain ⟨b, hb, rfl⟩ := hv
        rw [ha] at hb
        obtain rfl := Option.some.inj hb
        exact hget a
      · cases h
    | _ => simp [opVal] at h
  | slice t x lo hi mx =>
    simp only [opVal] at h
    obtain ⟨v, h1, h2⟩ := sliceVal_ok (P := P) hty hrel.box_st hget (hget x) h hp
    exact Yld.mk rfl h1 h2
  | fieldAddr s x i =>
    simp only [opVal] at h
    split at h
    · rename_i fs hk
      cases ht : ty s with
      | none => simp [ht] at hk
      | some si =>
      simp only [ht, Option.map_some, Option.some.injEq] at hk
      split at h
      · rename_i off ft hf
        split at h
        · rename_i fi hfi
          split at h
          · cases h
          · rename_i hne
            have hu := hget x
            split at h <;> simp only [Option.some.injEq, Prod.mk.injEq, reduceCtorEq] at h <;> obtain ⟨rfl, rfl⟩ := h <;> rename_i hx <;> rw [hx] at hu <;> generalize hv : ρ x = v at hu
            · cases hu with | ptr _ _ _ L hL hw =>
              refine Yld.mk rfl (v := .pointer (some ⟨(L.pos _).1, (L.pos _).2 + _ + off, none⟩)) (by rw [hv]; exact fieldAddr_ok hty ht hk hf hfi hne _ _) ?_
              rw [Nat.add_assoc]
              exact .ptr _ _ _ L hL hw
            · cases hu with | vp b o _ vs hk' hc hr =>
              exact Yld.mk rfl (by rw [hv]; exact fieldAddr_ok hty ht hk hf hfi hne _ _) (vp_drop (.vp b o _ vs hk' hc hr))
        · cases h
      · cases h
    · cases h
  | field s x i =>
    simp only [opVal] at h
    split at h
    · rename_i fs cs hk hx
      cases ht : ty s with
      | none => simp [ht] at hk
      | some si =>
      simp only [ht, Option.map_some, Option.some.injEq] at hk
      split at h
      · rename_i off ft hf
        cases hfi : ty ft with
        | none => simp [hfi] at h
        | some fi =>
          simp only [hfi, Option.map_some, Option.some.injEq] at h
          have hu := hget x
          rw [hx] at hu
          have hp' : (cut false fi cs off).1 := by rw [h]; exact hp
          obtain ⟨v, h1, h2⟩ := field_ok (P := P) hty ht hk hf hfi hu hp'
          rw [h] at h2
          exact Yld.mk rfl h1 h2
      · cases h
    · cases h
  | indexAddr t x i =>
    simp only [opVal] at h
    split at h
    · rename_i e iv hk hi
      cases ht : ty t with
      | none => simp [ht] at hk
      | some ti =>
      simp only [ht, Option.map_some, Option.some.injEq] at hk
      obtain ⟨ik, hik⟩ := idx_some hi
      have hi' := hget i
      rw [hik] at hi'
      have hi2 := hi'.int_inv
      have hu := hget x
      split at h
      · rename_i ei st n ex xs hei hx
        simp only [Option.some.injEq, Prod.mk.injEq] at h
        obtain ⟨rfl, rfl⟩ := h
        obtain ⟨h0, h1, h2⟩ := hp
        rw [hx] at hu
        generalize hv : ρ x = v at hu
        obtain ⟨a, c, rfl⟩ := hu.ls_val
        obtain ⟨_, hl, hc⟩ := hu.ls_cells
        have hlen := hu.ls_len
        have hit : iv.toNat < xs.length := by omega
        obtain ⟨b, o', rfl⟩ := hl.addr (by omega)
        refine Yld.mk rfl (by rw [hv, hi2]; exact index_slice_ok hty ht hk hei b o' xs.length c h0 h1) ?_
        have hxi := getElem?_getD AV.undef hit
        refine .vp b _ _ (fun j => (w.cell? ⟨b, o' + iv.toNat * ei.size + j, none⟩).getD Go.undef) (hlen _ _ hxi).2 (fun j hj => ?_) (fun j y hy => ?_)
        · obtain ⟨v, e1, e2, _⟩ := hc b o' rfl _ _ j _ hxi (List.getElem?_eq_getElem hj)
          rw [h2] at e1 e2
          exact ⟨by rw [e1]; rfl, e2⟩
        · obtain ⟨v, e1, _, e3⟩ := hc b o' rfl _ _ j y hxi hy
          rw [h2] at e1
          simpa [e1] using e3
      · rename_i ei id off len cap hei hx
        split at h
        · rename_i bb hb
          simp only [Option.some.injEq, Prod.mk.injEq] at h
          obtain ⟨rfl, rfl⟩ := h
          obtain ⟨h0, h1, h2⟩ := hp
          rw [hx] at hu
          obtain ⟨L, hL, hst⟩ := hrel.box_st id bb hb
          generalize hv : ρ x = v at hu
          cases hu with | sl _ _ _ _ L' a c hL' hS =>
          obtain rfl : L = L' := by rw [hL] at hL'; exact Option.some.inj hL'
          obtain ⟨s1, s2, s3, s4, s5⟩ := hS
          obtain ⟨s6, ab, ao, s7, s8, s9, s10, s11⟩ := s5 (by omega)
          subst s7
          refine Yld.mk rfl (by rw [hv, hi2]; exact index_slice_ok hty ht hk hei _ _ len c h0 h1) ?_
          have key := Rep.ptr (w := w) (φ := φ) (ok := OK G bx φ w) id (off + iv.toNat) 0 L hL s6
          rw [s10 iv.toNat (by omega)] at key
          rw [show ao + iv.toNat * ei.size = ao + iv.toNat * L.st + 0 by rw [← h2, hst]; omega]
          exact key
        · cases h
      · cases h
    · rename_i n e iv hk hi
      cases ht : ty t with
      | none => simp [ht] at hk
      | some ti =>
      simp only [ht, Option.map_some, Option.some.injEq] at hk
      obtain ⟨ik, hik⟩ := idx_some hi
      have hi' := hget i
      rw [hik] at hi'
      have hi2 := hi'.int_inv
      have hu := hget x
      split at h
      · rename_i ei id e' k hei hx
        simp only [Option.some.injEq, Prod.mk.injEq] at h
        obtain ⟨rfl, rfl⟩ := h
        rw [hx] at hu
        generalize hv : ρ x = v at hu
        cases hu with | ptr _ _ _ L hL hw =>
        refine Yld.mk rfl (by rw [hv, hi2]; exact index_array_ok hty ht hk hei _ _ hp.1 hp.2) ?_
        rw [Nat.add_assoc]
        exact .ptr _ _ _ L hL hw
      · rename_i ei cs hei hx
        simp only [Option.some.injEq, Prod.mk.injEq] at h
        obtain ⟨rfl, rfl⟩ := h
        rw [hx] at hu
        generalize hv : ρ x = v at hu
        cases hu with | vp b o _ vs hk' hc hr =>
        exact Yld.mk rfl (by rw [hv, hi2]; exact index_array_ok hty ht hk hei _ _ hp.1 hp.2) (vp_drop (.vp b o _ vs hk' hc hr))
      · cases h
    · cases h
  | index t x i =>
    simp only [opVal] at h
    split at h
    · rename_i n e cs iv hk hx hi
      cases ht : ty t with
      | none => simp [ht] at hk
      | some ti =>
      simp only [ht, Option.map_some, Option.some.injEq] at hk
      obtain ⟨ik, hik⟩ := idx_some hi
      have hi' := hget i
      rw [hik] at hi'
      have hi2 := hi'.int_inv
      have hu := hget x
      rw [hx] at hu
      cases hei : ty e with
      | none => simp [hei] at h
      | some ei =>
        simp only [hei, Option.map_some, Option.some.injEq, Prod.mk.injEq] at h
        obtain ⟨rfl, rfl⟩ := h
        obtain ⟨v, h1, h2⟩ := index_arr_ok (P := P) hty ht hk hei hu (k := ik) hp.1 hp.2.1 hp.2.2
        exact Yld.mk rfl (by rw [hi2]; exact h1) h2
    · rename_i s iv hk hx hi
      cases ht : ty t with
      | none => simp [ht] at hk
      | some ti =>
      simp only [ht, Option.map_some, Option.some.injEq] at hk
      obtain ⟨ik, hik⟩ := idx_some hi
      have hi' := hget i
      rw [hik] at hi'
      have hi2 := hi'.int_inv
      have hu := hget x
      rw [hx] at hu
      have hu2 := hu.str_inv
      simp only [Option.some.injEq, Prod.mk.injEq] at h
      obtain ⟨rfl, rfl⟩ := h
      exact Yld.mk rfl (by rw [hi2, hu2]; exact index_str_ok hty ht hk hp.1 hp.2) (.int _ _)
    · cases h
  | extract x i =>
    simp only [opVal] at h
    split at h
    · rename_i vs hx
      simp only [Option.some.injEq, Prod.mk.injEq] at h
      obtain ⟨rfl, rfl⟩ := h
      have hu := hget x
      rw [hx] at hu
      generalize hv : ρ x = v at hu
      cases hu with | tup _ us hl hr =>
      have hg : us[i]? = some us[i] := Array.getElem?_eq_getElem (by omega)
      exact Yld.mk rfl (v := us[i]) (by rw [hv]; simp [Instr.extract, hg]) (hr i _ _ (getElem?_getD _ hp) hg)
    · cases h
  | call c =>
    obtain ⟨cal, args, argTypes⟩ := c
    cases cal with
    | builtin b =>
      obtain ⟨args⟩ := args
      obtain ⟨argTypes⟩ := argTypes
      simp only [opVal] at h
      split at h
      · rename_i x t
        cases ht : ty t with
        | none => simp [ht] at h
        | some ti =>
        simp only [ht, Option.map_some] at h
        obtain ⟨d, f, z, T⟩ := hty.at ht
        have hu := hget x
        split at h
        · rename_i s hk hx
          simp only [Option.some.injEq, Prod.mk.injEq] at h
          obtain ⟨rfl, rfl⟩ := h
          rw [hx] at hu
          have hu2 := hu.str_inv
          have hd := T.str (Option.some.inj hk)
          subst hd
          exact Yld.same (by simp [execOp, resolve, invoke, builtin, Builtin.len_, run_underlying T.und, hu2, goInt]) (.int _ _)
        · rename_i e st n ex xs hk hx
          simp only [Option.some.injEq, Prod.mk.injEq] at h
          obtain ⟨rfl, rfl⟩ := h
          rw [hx] at hu
          obtain ⟨a, c, hu2⟩ := hu.ls_val
          have hd := T.slice (Option.some.inj hk)
          subst hd
          exact Yld.same (by simp [execOp, resolve, invoke, builtin, Builtin.len_, run_underlying T.und, hu2, goInt]) (.int _ _)
        · rename_i e id off len cap hk hx
          simp only [Option.some.injEq, Prod.mk.injEq] at h
          obtain ⟨rfl, rfl⟩ := h
          rw [hx] at hu
          have hd := T.slice (Option.some.inj hk)
          subst hd
          generalize hv : ρ x = v at hu
          cases hu with | sl _ _ _ _ L a c hL hS =>
          exact Yld.same (by simp [execOp, resolve, invoke, builtin, Builtin.len_, run_underlying T.und, hv, goInt]) (.int _ _)
        · rename_i n e y hk
          simp only [Option.some.injEq, Prod.mk.injEq] at h
          obtain ⟨rfl, rfl⟩ := h
          have hd := T.arr (Option.some.inj hk)
          subst hd
          exact Yld.same (by simp [execOp, resolve, invoke, builtin, Builtin.len_, run_underlying T.und, goInt]) (.int _ _)
        · cases h
      · rename_i x t
        cases ht : ty t with
        | none => simp [ht] at h
        | some ti =>
        simp only [ht, Option.map_some] at h
        obtain ⟨d, f, z, T⟩ := hty.at ht
        have hu := hget x
        split at h
        · rename_i e st n xs hk hx
          simp only [Option.some.injEq, Prod.mk.injEq] at h
          obtain ⟨rfl, rfl⟩ := h
          rw [hx] at hu
          have hd := T.slice (Option.some.inj hk)
          subst hd
          generalize hv : ρ x = v at hu
          obtain ⟨a, c, rfl⟩ := hu.ls_val
          obtain ⟨_, hl, _⟩ := hu.ls_cells
          have hc := hl.2.1 rfl
          exact Yld.same (by simp [execOp, resolve, invoke, builtin, Builtin.cap_, run_underlying T.und, hv, goInt, hc]) (.int _ _)
        · cases h
      · rename_i x y
        have hu := hget x
        have hu' := hget y
        split at h
        · rename_i k a k' b hx hy
          simp only [Option.some.injEq, Prod.mk.injEq] at h
          obtain ⟨rfl, rfl⟩ := h
          rw [hx] at hu
          rw [hy] at hu'
          exact Yld.same (by simp [execOp, resolve, invoke, builtin, Builtin.min_, Builtin.min2, hu.int_inv, hu'.int_inv]) (.int _ _)
        · cases h
      · rename_i x y
        have hu := hget x
        have hu' := hget y
        split at h
        · rename_i k a k' b hx hy
          simp only [Option.some.injEq, Prod.mk.injEq] at h
          obtain ⟨rfl, rfl⟩ := h
          rw [hx] at hu
          rw [hy] at hu'
          exact Yld.same (by simp [execOp, resolve, invoke, builtin, Builtin.max_, Builtin.max2, hu.int_inv, hu'.int_inv]) (.int _ _)
        · cases h
      · cases h
    | _ => simp [opVal] at h
  | _ => simp [opVal] at h
end

end Go.Av
