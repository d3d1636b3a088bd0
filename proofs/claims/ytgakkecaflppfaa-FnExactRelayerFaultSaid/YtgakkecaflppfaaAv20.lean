/- Contracts of functions, and calls by them. -/
import Derived.Test.YtgakkecaflppfaaAv19
set_option linter.unusedSimpArgs false
namespace Go.Av

def NoLoc : Nat → Option Loc := fun _ => none

def Callee (P : Program) (f : FuncId) : Prop := ∃ fn, P.funcs[f]? = some fn ∧ (fn.name == "runtime.NumGoroutine") = false ∧ fn.body.isNone = false

/-- Called with values that are told by value, the function returns what R tells, by value, and turns nothing that was there. -/
def CV (P : Program) (f : FuncId) (args : List AV) (R : AV → Prop) : Prop :=
  Callee P f ∧ ∀ (ok0 : Nat → Nat → Prop) (w : World) (vs : Array Value), (∀ b o, ok0 b o → b < w.heap.size) → RepAll w NoLoc ok0 args vs.toList →
    Calls P f vs w fun e w' => ∃ v r, e = .returned v ∧ R r ∧ Ext w w' ∧ Rep w' NoLoc (fun b o => b < w'.heap.size ∧ (b < w.heap.size → ok0 b o)) r v

/-- Called with boxes that are lent (and may be turned), the function returns what R tells, with the boxes that are then. -/
def CR (P : Program) (f : FuncId) (args : List AV) (bs : List (Nat × Option Box)) (nx : Nat) (R : AV → List (Nat × Option Box) → Nat → Prop) : Prop :=
  Callee P f ∧ ∀ (G : Gh) (φ : Nat → Option Loc) (w : World) (vs : Array Value), G.w0 = w → G.φ0 = φ → G.nx0 = nx → Rel G bs nx φ w → RepAll w φ (OK G bs φ w) args vs.toList →
    Calls P f vs w fun e w' => ∃ v r bs' nx' φ', e = .returned v ∧ R r bs' nx' ∧ Rel G bs' nx' φ' w' ∧ Rep w' φ' (OK G bs' φ' w') r v

theorem CV.mono {P : Program} {f : FuncId} {args : List AV} {R R' : AV → Prop} (h : CV P f args R) (k : ∀ r, R r → R' r) : CV P f args R' :=
  ⟨h.1, fun ok0 w vs h1 h2 => (h.2 ok0 w vs h1 h2).mono fun _ _ ⟨v, r, e, hr, hx⟩ => ⟨v, r, e, k r hr, hx⟩⟩

theorem CR.mono {P : Program} {f : FuncId} {args : List AV} {bs : List (Nat × Option Box)} {nx : Nat} {R R' : AV → List (Nat × Option Box) → Nat → Prop} (h : CR P f args bs nx R) (k : ∀ r b n, R r b n → R' r b n) : CR P f args bs nx R' :=
  ⟨h.1, fun G φ w vs h1 h2 h3 h4 h5 => (h.2 G φ w vs h1 h2 h3 h4 h5).mono fun _ _ ⟨v, r, b, n, φ', e, hr, hx⟩ => ⟨v, r, b, n, φ', e, k r b n hr, hx⟩⟩

/-- A value that names no box. -/
def Pure (x : AV) : Prop := ∀ w φ ok v, Rep w φ ok x v → Rep w NoLoc ok x v

theorem pure_undef : Pure .undef := fun _ _ _ v _ => .undef v
theorem pure_int (k : IntKind) (n : Int) : Pure (.int k n) := fun _ _ _ _ h => by cases h; exact .int _ _
theorem pure_bool (b : Bool) : Pure (.bool b) := fun _ _ _ _ h => by cases h; exact .bool _
theorem pure_str (s : ByteArray) : Pure (.str s) := fun _ _ _ _ h => by cases h; exact .str _
theorem pure_nilp : Pure .nilp := fun _ _ _ _ h => by cases h; exact .nilp
theorem pure_agg {cs : List AV} (h : ∀ y ∈ cs, Pure y) : Pure (.agg cs) := fun w φ ok _ k => by
  cases k with | agg _ vs hl hr => exact .agg _ vs hl fun i x v hx hv => h x (List.mem_of_getElem? hx) w φ ok v (hr i x v hx hv)
theorem pure_tup {cs : List AV} (h : ∀ y ∈ cs, Pure y) : Pure (.tup cs) := fun w φ ok _ k => by
  cases k with | tup _ vs hl hr => exact .tup _ vs hl fun i x v hx hv => h x (List.mem_of_getElem? hx) w φ ok v (hr i x v hx hv)
theorem pure_fn {f : FuncId} {cs : List AV} (h : ∀ y ∈ cs, Pure y) : Pure (.fn f cs) := fun w φ ok _ k => by
  cases k with | fn _ _ vs hl hr => exact .fn f _ vs hl fun i x v hx hv => h x (List.mem_of_getElem? hx) w φ ok v (hr i x v hx hv)
theorem pure_vp {cs : List AV} (h : ∀ y ∈ cs, Pure y) : Pure (.vp cs) := fun w φ ok _ k => by
  cases k with | vp b o _ vs hk hc hr => exact .vp b o _ vs hk hc fun i x hx => h x (List.mem_of_getElem? hx) w φ ok _ (hr i x hx)
theorem pure_ls {st : Nat} {n e : Bool} {xs : List AV} (h : ∀ x ∈ xs, ∀ y ∈ x.cells, Pure y) : Pure (.ls st n e xs) := fun w φ ok _ k => by
  cases k with | ls _ _ _ _ a c vs hl hn hc hr =>
  exact .ls st n e xs a c vs hl hn hc fun i x j y hx hy => h x (List.mem_of_getElem? hx) y (List.mem_of_getElem? hy) w φ ok _ (hr i x j y hx hy)

section
variable {P : Program} {ty : TypeId → Option TI} {G : Gh} {st : St} {Q : Exit → St → Prop}

/-- What a value is, told by value: what names a box that is read alone is its elements. -/
def Vw (bx : List (Nat × Option Box)) (x : AV) (Y : AV → Prop) : Prop :=
  ∀ G nx φ w v, Rel G bx nx φ w → Rep w φ (OK G bx φ w) x v → ∃ y, Y y ∧ Rep w NoLoc (OK G bx φ w) y v

theorem vw_pure {bx : List (Nat × Option Box)} {x : AV} (h : Pure x) : Vw bx x (· = x) := fun _ _ _ _ _ _ k => ⟨x, rfl, h _ _ _ _ k⟩
theorem Vw.mono {bx : List (Nat × Option Box)} {x : AV} {Y Y' : AV → Prop} (h : Vw bx x Y) (k : ∀ y, Y y → Y' y) : Vw bx x Y' :=
  fun G nx φ w v h1 h2 => let ⟨y, h3, h4⟩ := h G nx φ w v h1 h2; ⟨y, k y h3, h4⟩

/-- A slice of a box that is read alone, whose elements name no box. -/
theorem vw_sl {bx : List (Nat × Option Box)} {id off len cap : Nat} {b : Box} (hb : box? bx id = some b) (hro : b.ro = true) (hfit : off + len ≤ b.elems.length)
    (hp : ∀ x ∈ (b.elems.drop off).take len, ∀ y ∈ x.cells, Pure y) :
    Vw bx (.sl id off len cap) (· = .ls b.st true false ((b.elems.drop off).take len)) := by
  intro G nx φ w v hrel hr
  obtain ⟨L, hL, hB, hm⟩ := hrel.box id b hb
  cases hr with | sl _ _ _ _ L' a c hL' hS =>
  obtain rfl : L = L' := by rw [hL] at hL'; exact Option.some.inj hL'
  obtain ⟨s1, s2, s3, s4, s5⟩ := hS
  have hyl : ((b.elems.drop off).take len).length = len := by simp; omega
  have hget : ∀ (i : Nat) (x : AV), ((b.elems.drop off).take len)[i]? = some x → b.elems[off + i]? = some x ∧ i < len := by
    intro i x hi
    have := (List.getElem?_eq_some_iff.1 hi).1
    rw [hyl] at this
    rw [List.getElem?_take_of_lt this, List.getElem?_drop] at hi
    exact ⟨hi, this⟩
  have hlen : ∀ (i : Nat) (x : AV), ((b.elems.drop off).take len)[i]? = some x → okCells b.st x := fun i x hi => by rw [hB.st]; exact hB.len _ x (hget i x hi).1
  by_cases hc : c = 0
  · have h0 : len = 0 := by omega
    subst h0
    have he : (b.elems.drop off).take 0 = [] := by simp
    rw [he]
    refine ⟨.ls b.st true false [], rfl, ?_⟩
    subst hc
    exact Rep.mk_ls (xs := []) ⟨Nat.le_refl _, fun h => (by cases h), fun _ h => (by cases h), fun h => (by cases h), fun h => absurd h (by omega)⟩ (fun i x h => (by simp at h)) (fun b o h i x j y hx => (by simp at hx))
  · obtain ⟨s6, s7, s8⟩ := s5 hc
    subst s7
    refine ⟨.ls b.st true false ((b.elems.drop off).take len), rfl, ?_⟩
    have key : Rep w NoLoc (OK G bx φ w) (.ls b.st true false ((b.elems.drop off).take len)) (.slice (some ⟨L.blk, L.base + off * L.st, none⟩) ((b.elems.drop off).take len).length c) := by
      refine Rep.mk_ls ⟨by rw [hyl]; omega, fun h => (by cases h), fun _ h => (by cases h), fun h => (by cases h), fun _ => ⟨_, _, rfl⟩⟩ hlen ?_
      intro b' o' hbo i x j y hx hy
      simp only [Option.some.injEq, Addr.mk.injEq] at hbo
      obtain ⟨rfl, rfl, _⟩ := hbo
      obtain ⟨g1, g2⟩ := hget i x hx
      obtain ⟨v, e1, e2⟩ := hB.cont s6 _ x j y g1 hy
      rw [show L.base + (off + i) * L.st + j = L.base + off * L.st + i * b.st + j by rw [hB.st, Nat.add_mul]; omega] at e1
      have hj : j < L.st := by
        have := (List.getElem?_eq_some_iff.1 hy).1
        rw [(hlen i x hx).1, hB.st] at this
        exact this
      refine ⟨v, e1, ⟨hB.lt s6, ?_, ?_⟩, hp x (List.mem_of_getElem? hx) y (List.mem_of_getElem? hy) _ _ _ _ e2⟩
      · intro id2 box2 L2 h1 h2 hv2 he2
        by_cases hid : id2 = id
        · subst hid
          rw [hb] at h1
          obtain rfl := Option.some.inj h1
          rw [hL] at h2
          obtain rfl := Option.some.inj h2
          refine ⟨hro, ?_⟩
          have : (off + i + 1) * L.st ≤ b.elems.length * L.st := Nat.mul_le_mul_right _ (by omega)
          rw [hB.st]
          rw [Nat.succ_mul, Nat.add_mul] at this
          omega
        · exact absurd he2 (hrel.apart id2 id box2 b L2 L h1 hb hid h2 hL hv2 s6)
      · intro hlt
        rcases hm s6 with h | h
        · omega
        · exact .inr h
    rw [hyl] at key
    exact key
end

end Go.Av
