/- Operations that make or turn boxes: a function on pictures; stores, variables, rows made. -/
import Derived.Test.YtgakkecaflppfaaAv11
namespace Go.Av

def zeroE (ti : TI) : AV := if isAggK ti.k then .agg ti.zero else ti.zero.getD 0 .undef

def flatC (xs : List AV) : List AV := xs.flatMap AV.cells

section
variable {P : Program} {ty : TypeId → Option TI} {G : Gh} {bx : List (Nat × Option Box)} {nx : Nat} {φ : Nat → Option Loc} {w : World}

/-- A box is turned in place and keeps its name. -/
theorem Rel.store_box (hrel : Rel G bx nx φ w) {w' : World} {id : Nat} {b : Box} (hid : box? bx id = some b) {L : Loc} (hL : φ id = some L) (hv : L.virt = false)
    {o : Nat} {vs : List Value} {cs : Array Value} {T : TypeId} {fr : Nat × Nat} (hw : Wrote w w' L.blk o vs cs T fr) (hcs : w.heap[L.blk]? = some (.cells cs T fr))
    (hro : b.ro = false) {b' : Box} (hst : b'.st = b.st) (hsl : b'.slack = b.slack) (hro' : b'.ro = false) (hll : b'.elems.length = b.elems.length) (hlen : ∀ (i : Nat) (x : AV), b'.elems[i]? = some x → okCells L.st x)
    (hcont : ∀ (i : Nat) (x : AV) (j : Nat) (y : AV), b'.elems[i]? = some x → x.cells[j]? = some y → ∃ v, w'.cell? ⟨L.blk, L.base + i * L.st + j, none⟩ = some v ∧ Rep w φ (OK G bx φ w) y v) :
    Adv G bx φ w ((id, some b') :: bx) nx φ w' := by
  obtain ⟨L0, hL0, hr, hm⟩ := hrel.box id b hid
  obtain rfl : L = L0 := by rw [hL] at hL0; exact Option.some.inj hL0
  have hback : ∀ i box, box? ((id, some b') :: bx) i = some box → (i = id ∧ box = b') ∨ (i ≠ id ∧ box? bx i = some box) := by
    intro i box h1
    rw [box?_cons] at h1
    by_cases e : id = i
    · subst e
      simp at h1
      exact .inl ⟨rfl, h1.symm⟩
    · rw [if_neg e] at h1
      exact .inr ⟨fun h => e h.symm, h1⟩
  have hcell : ∀ b1 o1, OK G bx φ w b1 o1 → OK G ((id, some b') :: bx) φ w' b1 o1 ∧ w'.cell? ⟨b1, o1, none⟩ = w.cell? ⟨b1, o1, none⟩ := by
    intro b1 o1 k
    have hne : b1 ≠ L.blk := by
      intro e; subst e
      have := (k.2.1 id b L hid hL hv rfl).1
      rw [hro] at this; cases this
    refine ⟨⟨by rw [hw.size]; exact k.1, ?_, k.2.2⟩, cell_of_block (hw.other b1 hne) o1⟩
    intro i box L1 h1 h2 hv1 he
    rcases hback i box h1 with ⟨rfl, rfl⟩ | ⟨_, h3⟩
    · rw [hL] at h2; obtain rfl := Option.some.inj h2; exact absurd he.symm hne
    · exact k.2.1 i box L1 h3 h2 hv1 he
  refine ⟨?_, hcell, fun _ _ h => h⟩
  constructor
  · exact hw.os.trans hrel.os
  · exact hw.tape.trans hrel.tape
  · exact hw.output.trans hrel.output
  · rw [hw.size]; exact hrel.size
  · intro b1 hb hwr
    by_cases e : b1 = L.blk
    · subst e
      rcases hm hv with h | h
      · omega
      · exact absurd h hwr
    · exact (hw.other b1 e).trans (hrel.frame b1 hb hwr)
  · intro b1 o1 hk
    exact (hcell b1 o1 (hrel.ok_of_ok0 hk)).2.trans (hrel.kept b1 o1 hk)
  · intro b1 o1 hk
    exact ⟨(hrel.okk b1 o1 hk).1, (hcell b1 o1 (hrel.ok_of_ok0 hk)).1.2.1⟩
  · intro i box hi
    rcases hback i box hi with ⟨rfl, rfl⟩ | ⟨hne, h3⟩
    · refine ⟨L, hL, ⟨hst.trans hr.st, hsl.trans hr.slack, hlen, fun h => (by rw [hv] at h; cases h), fun _ => ?_, fun _ i x j y hx hy => ?_⟩, hm⟩
      · obtain ⟨cs', e1, e2, _⟩ := hw.here
        obtain ⟨cs0, T0, fr0, f1, f2, f3, f4⟩ := hr.lies hv
        rw [hcs] at f1
        simp only [Option.some.injEq, Obj.cells.injEq] at f1
        obtain ⟨rfl, rfl, rfl⟩ := f1
        exact ⟨cs', T, fr, e1, by rw [e2, f2], by rw [hll]; exact f3, f4⟩
      · obtain ⟨v, h1, h2⟩ := hcont i x j y hx hy
        exact ⟨v, h1, h2.mono hcell (fun _ _ h => h)⟩
    · obtain ⟨L1, hL1, hr1, hm1⟩ := hrel.box i box h3
      refine ⟨L1, hL1, hr1.mono hcell (fun _ _ h => h) (fun hv1 => hw.other _ ?_), hm1⟩
      exact fun h => hrel.apart id i b box L L1 hid h3 (fun h => hne h.symm) hL hL1 hv hv1 h.symm
  · intro i i' c c' L1 L2 h1 h2 hne h3 h4 hv1 hv2
    have g : ∀ i c, box? ((id, some b') :: bx) i = some c → ∃ c, box? bx i = some c := by
      intro i c h
      rcases hback i c h with ⟨rfl, rfl⟩ | ⟨_, h⟩
      · exact ⟨b, hid⟩
      · exact ⟨c, h⟩
    obtain ⟨c1, g1⟩ := g i c h1
    obtain ⟨c2, g2⟩ := g i' c' h2
    exact hrel.apart i i' c1 c2 L1 L2 g1 g2 hne h3 h4 hv1 hv2
  · exact hrel.dom
  · exact hrel.agree
  · exact hrel.nxle

/-- What is forgotten, or held to be read alone, makes a weaker picture. -/
theorem Rel.weaken (hrel : Rel G bx nx φ w) {bx' : List (Nat × Option Box)} {nx' : Nat} (hnx : nx ≤ nx')
    (h : ∀ id b', box? bx' id = some b' → ∃ b, box? bx id = some b ∧ b'.elems = b.elems ∧ b'.st = b.st ∧ b'.slack = b.slack ∧ (b.ro = true → b'.ro = true)) :
    Adv G bx φ w bx' nx' φ w := by
  have hok : ∀ b o, okB bx φ b o → okB bx' φ b o := by
    intro b o k id box L h1 h2 hv he
    obtain ⟨c, h3, h4, _, _, h5⟩ := h id box h1
    obtain ⟨h6, h7⟩ := k id c L h3 h2 hv he
    exact ⟨h5 h6, by rw [h4]; exact h7⟩
  have hcell : ∀ b o, OK G bx φ w b o → OK G bx' φ w b o ∧ w.cell? ⟨b, o, none⟩ = w.cell? ⟨b, o, none⟩ := fun b o k => ⟨⟨k.1, hok b o k.2.1, k.2.2⟩, rfl⟩
  refine ⟨?_, hcell, fun _ _ h => h⟩
  constructor
  · exact hrel.os
  · exact hrel.tape
  · exact hrel.output
  · exact hrel.size
  · exact hrel.frame
  · exact hrel.kept
  · exact fun b o k => ⟨(hrel.okk b o k).1, hok b o (hrel.okk b o k).2⟩
  · intro id b' hb
    obtain ⟨b, h1, h2, h3, h4, h5⟩ := h id b' hb
    obtain ⟨L, hL, hr, hm⟩ := hrel.box id b h1
    refine ⟨L, hL, ⟨by rw [h3]; exact hr.st, by rw [h4]; exact hr.slack, by rw [h2]; exact hr.len, by rw [h2]; exact hr.virt, by rw [h2]; exact hr.lies, ?_⟩, hm⟩
    rw [h2]
    intro hv i x j y hx hy
    obtain ⟨v, e1, e2⟩ := hr.cont hv i x j y hx hy
    exact ⟨v, e1, e2.mono hcell (fun _ _ h => h)⟩
  · intro i i' c c' L1 L2 h1 h2 hne h3 h4
    obtain ⟨c1, g1, _⟩ := h i c h1
    obtain ⟨c2, g2, _⟩ := h i' c' h2
    exact hrel.apart i i' c1 c2 L1 L2 g1 g2 hne h3 h4
  · exact fun id hid => hrel.dom id (by omega)
  · exact hrel.agree
  · exact Nat.le_trans hrel.nxle hnx

theorem flatC_length {st : Nat} : ∀ (xs : List AV), (∀ (i : Nat) (x : AV), xs[i]? = some x → x.cells.length = st) → (flatC xs).length = xs.length * st
  | [], _ => by simp [flatC]
  | x :: xs, h => by
    have h0 := h 0 x rfl
    have ih := flatC_length xs (fun i y hy => h (i + 1) y (by simpa using hy))
    simp only [flatC, List.flatMap_cons, List.length_append, List.length_cons, Nat.succ_mul] at ih ⊢
    rw [h0, ih, Nat.add_comm]

theorem flatC_get {st : Nat} : ∀ (xs : List AV), (∀ (i : Nat) (x : AV), xs[i]? = some x → x.cells.length = st) → ∀ (i : Nat) (x : AV) (j : Nat) (y : AV), xs[i]? = some x → x.cells[j]? = some y →
    (flatC xs)[i * st + j]? = some y
  | [], _, i, x, j, y, hx, _ => by simp at hx
  | a :: xs, h, i, x, j, y, hx, hy => by
    have h0 := h 0 a rfl
    simp only [flatC, List.flatMap_cons]
    cases i with
    | zero =>
      simp at hx
      subst hx
      have := (List.getElem?_eq_some_iff.1 hy).1
      rw [List.getElem?_append_left (by simpa using this)]
      simpa using hy
    | succ i =>
      have ih := flatC_get xs (fun i y hy => h (i + 1) y (by simpa using hy)) i x j y (by simpa using hx) hy
      rw [List.getElem?_append_right (by rw [Nat.succ_mul]; omega), h0, show (i + 1) * st + j - st = i * st + j by rw [Nat.succ_mul]; omega]
      exact ih

theorem flatC_at {st : Nat} : ∀ (xs : List AV), (∀ (i : Nat) (x : AV), xs[i]? = some x → x.cells.length = st) → ∀ (k : Nat) (y : AV), (flatC xs)[k]? = some y →
    ∃ x : AV, xs[k / st]? = some x ∧ x.cells[k % st]? = some y ∧ k % st < st
  | [], _, k, y, hy => by simp [flatC] at hy
  | a :: xs, h, k, y, hy => by
    have h0 := h 0 a rfl
    simp only [flatC, List.flatMap_cons] at hy
    by_cases hk : k < st
    · rw [List.getElem?_append_left (by omega)] at hy
      exact ⟨a, by rw [Nat.div_eq_of_lt hk]; rfl, by rw [Nat.mod_eq_of_lt hk]; exact hy, by rw [Nat.mod_eq_of_lt hk]; exact hk⟩
    · rw [List.getElem?_append_right (by omega), h0] at hy
      have hpos : 0 < st := by
        rcases Nat.eq_zero_or_pos st with e | e
        · exfalso
          have hz := flatC_length (st := st) xs (fun i y hy => h (i + 1) y (by simpa using hy))
          have := (List.getElem?_eq_some_iff.1 hy).1
          simp only [flatC] at hz
          rw [hz, e] at this
          simp at this
        · exact e
      obtain ⟨x, h1, h2, h3⟩ := flatC_at xs (fun i y hy => h (i + 1) y (by simpa using hy)) (k - st) y hy
      refine ⟨x, ?_, ?_, ?_⟩
      · rw [Nat.div_eq_sub_div hpos (by omega)]
        simpa using h1
      · rw [Nat.mod_eq_sub_mod (by omega)]; exact h2
      · exact Nat.mod_lt _ hpos
end

end Go.Av
