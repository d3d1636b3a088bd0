/- Rows that are written; boxes that are new, turned, or taken over. -/
import Derived.Test.YtgakkecaflppfaaAv10
namespace Go.Av

def wrow (w : World) (b o : Nat) : List Value → World
  | [] => w
  | v :: r => wrow (w.setCell ⟨b, o, none⟩ v) b (o + 1) r

structure Wrote (w w' : World) (b o : Nat) (vs : List Value) (cs : Array Value) (T : TypeId) (fr : Nat × Nat) : Prop where
  os : w'.os = w.os
  tape : w'.tape = w.tape
  output : w'.output = w.output
  size : w'.heap.size = w.heap.size
  other : ∀ k, k ≠ b → w'.heap[k]? = w.heap[k]?
  here : ∃ cs', w'.heap[b]? = some (.cells cs' T fr) ∧ cs'.size = cs.size ∧ ∀ i : Nat, cs'[i]? = if o ≤ i ∧ i < o + vs.length then vs[i - o]? else cs[i]?

theorem setCell_here {w : World} {b o : Nat} {cs : Array Value} {T : TypeId} {fr : Nat × Nat} (h : w.heap[b]? = some (.cells cs T fr)) (v : Value) :
    (w.setCell ⟨b, o, none⟩ v).heap[b]? = some (.cells (cs.setIfInBounds o v) T fr) := by
  simp [World.setCell, Array.getElem?_modify, h]

theorem wrote {b : Nat} {T : TypeId} {fr : Nat × Nat} : ∀ (vs : List Value) (w : World) (o : Nat) (cs : Array Value), w.heap[b]? = some (.cells cs T fr) → o + vs.length ≤ cs.size →
    Wrote w (wrow w b o vs) b o vs cs T fr
  | [], w, o, cs, h, hs => ⟨rfl, rfl, rfl, rfl, fun _ _ => rfl, cs, h, rfl, fun i => by rw [if_neg (by intro h; simp at h; omega)]⟩
  | v :: r, w, o, cs, h, hs => by
    have ih := wrote (b := b) (T := T) (fr := fr) r (w.setCell ⟨b, o, none⟩ v) (o + 1) (cs.setIfInBounds o v) (setCell_here h v) (by simp at hs ⊢; omega)
    obtain ⟨cs', e1, e2, e3⟩ := ih.here
    refine ⟨ih.os, ih.tape, ih.output, by rw [wrow, ih.size]; simp, fun k hk => by rw [wrow, ih.other k hk, RowKit.Below.heap_setCell _ _ _ _ hk], cs', e1, by simpa using e2, fun i => ?_⟩
    rw [e3 i]
    simp only [List.length_cons] at hs ⊢
    by_cases h1 : i = o
    · subst h1
      have hlt : i < cs.size := by omega
      rw [if_neg (by omega), if_pos (by omega), Nat.sub_self]
      simp [hlt]
    · by_cases h2 : o + 1 ≤ i ∧ i < o + 1 + r.length
      · rw [if_pos h2, if_pos (by omega), show i - o = (i - (o + 1)) + 1 by omega]
        simp
      · rw [if_neg h2, if_neg (by omega)]
        rw [Array.getElem?_setIfInBounds, if_neg (by omega)]

theorem run_storeCells {P : Program} {b : Nat} {T : TypeId} {fr : Nat × Nat} (o : Nat) : ∀ (vs : List Value) (w : World) (i : Nat) (cs : Array Value), w.heap[b]? = some (.cells cs T fr) → o + i + vs.length ≤ cs.size →
    (∀ k, k < cs.size → ¬ (fr.1 ≤ k ∧ k < fr.2)) → (∀ v ∈ vs, v.oneCell' = true) → (storeCells ⟨b, o, none⟩ vs i).run P w = .ok () (wrow w b (o + i) vs)
  | [], w, i, cs, h, hs, hf, ho => rfl
  | v :: r, w, i, cs, h, hs, hf, ho => by
    simp only [List.length_cons] at hs
    have hc : w.cell? ⟨b, o + i, none⟩ = cs[o + i]? := by simp [World.cell?, h]
    have hlt : o + i < cs.size := by omega
    have hfz : w.frozen? ⟨b, o + i, none⟩ = false := by
      have := hf (o + i) hlt
      obtain ⟨lo, hi⟩ := fr
      simp only [World.frozen?, h]
      simpa using this
    rw [storeCells]
    simp only [Sem.run_bind, Addr.add_lit, run_store P w ⟨b, o + i, none⟩ v .plain (ho v (by simp)), hc, Array.getElem?_eq_getElem hlt, hfz, Bool.false_eq_true, if_false, Result.andThen_ok]
    rw [run_storeCells o r _ (i + 1) (cs.setIfInBounds (o + i) v) (setCell_here h v) (by simp; omega) (by simpa using hf) (fun u hu => ho u (by simp [hu]))]
    rfl

theorem Rep.oneCell {w : World} {φ : Nat → Option Loc} {ok : Nat → Nat → Prop} {x : AV} {v : Value} (h : Rep w φ ok x v) (hk : x.cellOk = true) : v.oneCell' = true := by
  cases h <;> simp_all [AV.cellOk, Value.oneCell']

def upd (φ : Nat → Option Loc) (id : Nat) (L : Loc) : Nat → Option Loc := fun i => if i = id then some L else φ i

theorem box?_cons (bx : List (Nat × Option Box)) (k : Nat) (b : Option Box) (id : Nat) : box? ((k, b) :: bx) id = if k = id then b else box? bx id := by
  simp only [box?, look_cons]
  split <;> rfl

/-- How one step leaves all that is told. -/
structure Adv (G : Gh) (bx : List (Nat × Option Box)) (φ : Nat → Option Loc) (w : World) (bx' : List (Nat × Option Box)) (nx' : Nat) (φ' : Nat → Option Loc) (w' : World) : Prop where
  rel : Rel G bx' nx' φ' w'
  cell : ∀ b o, OK G bx φ w b o → OK G bx' φ' w' b o ∧ w'.cell? ⟨b, o, none⟩ = w.cell? ⟨b, o, none⟩
  loc : ∀ id L, φ id = some L → φ' id = some L

section
variable {G : Gh} {bx : List (Nat × Option Box)} {nx : Nat} {φ : Nat → Option Loc} {w : World}

theorem Adv.rep {bx' : List (Nat × Option Box)} {nx' : Nat} {φ' : Nat → Option Loc} {w' : World} (h : Adv G bx φ w bx' nx' φ' w') {x : AV} {v : Value} (r : Rep w φ (OK G bx φ w) x v) :
    Rep w' φ' (OK G bx' φ' w') x v := r.mono h.cell h.loc

theorem Adv.relA {st : St} {φ : Nat → Option Loc} {a : Act} {w : World} {bx' : List (Nat × Option Box)} {nx' : Nat} {φ' : Nat → Option Loc} {w' : World} (h : Adv G st.bx φ w bx' nx' φ' w') (r : RelA G st φ a w) :
    RelA G ⟨st.env, bx', nx'⟩ φ' a w' :=
  ⟨h.rel, r.defers, r.sz, fun t v e => ⟨(r.env t v e).1, h.rep (r.env t v e).2⟩⟩

/-- A new box. -/
theorem Rel.add_box (hrel : Rel G bx nx φ w) {w' : World} (hE : Ext w w') {L : Loc} {b : Box} (hnew : L.virt = false → w.heap.size ≤ L.blk)
    (hst : b.st = L.st) (hsl : b.slack = L.slack) (hlen : ∀ (i : Nat) (x : AV), b.elems[i]? = some x → okCells L.st x) (hvirt : L.virt = true → b.elems = [])
    (hlies : L.virt = false → ∃ cs T fr, w'.heap[L.blk]? = some (.cells cs T fr) ∧ cs.size = L.size ∧ L.base + b.elems.length * L.st ≤ L.size ∧ (∀ o, o < L.size → ¬ (fr.1 ≤ o ∧ o < fr.2)))
    (hcont : L.virt = false → ∀ (i : Nat) (x : AV) (j : Nat) (y : AV), b.elems[i]? = some x → x.cells[j]? = some y → ∃ v, w'.cell? ⟨L.blk, L.base + i * L.st + j, none⟩ = some v ∧ Rep w φ (OK G bx φ w) y v) :
    Adv G bx φ w ((nx, some b) :: bx) (nx + 1) (upd φ nx L) w' := by
  have hloc : ∀ id L', φ id = some L' → upd φ nx L id = some L' := by
    intro id L' h
    have : id ≠ nx := by intro e; subst e; rw [hrel.dom id (Nat.le_refl _)] at h; cases h
    simp [upd, this, h]
  have hback : ∀ id box L', box? ((nx, some b) :: bx) id = some box → upd φ nx L id = some L' → (id = nx ∧ box = b ∧ L' = L) ∨ (id ≠ nx ∧ box? bx id = some box ∧ φ id = some L') := by
    intro id box L' h1 h2
    rw [box?_cons] at h1
    by_cases e : nx = id
    · subst e
      simp [upd] at h1 h2
      exact .inl ⟨rfl, h1.symm, h2.symm⟩
    · rw [if_neg e] at h1
      have e' : id ≠ nx := fun h => e h.symm
      simp only [upd, if_neg e'] at h2
      exact .inr ⟨e', h1, h2⟩
  have hcell : ∀ b' o, OK G bx φ w b' o → OK G ((nx, some b) :: bx) (upd φ nx L) w' b' o ∧ w'.cell? ⟨b', o, none⟩ = w.cell? ⟨b', o, none⟩ := by
    intro b' o k
    refine ⟨⟨Nat.lt_of_lt_of_le k.1 hE.size, ?_, k.2.2⟩, hE.cell k.1 o⟩
    intro id box L' h1 h2 hv he
    rcases hback id box L' h1 h2 with ⟨rfl, rfl, rfl⟩ | ⟨_, h3, h4⟩
    · have := hnew hv; have := k.1; omega
    · exact k.2.1 id box L' h3 h4 hv he
  refine ⟨?_, hcell, hloc⟩
  constructor
  · exact hE.os.trans hrel.os
  · exact hE.tape.trans hrel.tape
  · exact hE.output.trans hrel.output
  · exact Nat.le_trans hrel.size hE.size
  · intro b' hb hw; exact (hE.block b' (Nat.lt_of_lt_of_le hb hrel.size)).trans (hrel.frame b' hb hw)
  · intro b' o hk; exact (hE.cell (Nat.lt_of_lt_of_le (hrel.okk b' o hk).1 hrel.size) o).trans (hrel.kept b' o hk)
  · intro b' o hk
    refine ⟨(hrel.okk b' o hk).1, ?_⟩
    intro id box L' h1 h2 hv he
    rcases hback id box L' h1 h2 with ⟨rfl, rfl, rfl⟩ | ⟨_, h3, h4⟩
    · have h5 := hnew hv; have h6 := (hrel.okk b' o hk).1; have h7 := hrel.size; omega
    · exact (hrel.okk b' o hk).2 id box L' h3 h4 hv he
  · intro id box hi
    rw [box?_cons] at hi
    by_cases e : nx = id
    · subst e
      rw [if_pos rfl] at hi
      obtain rfl := Option.some.inj hi
      refine ⟨L, by simp [upd], ⟨hst, hsl, hlen, hvirt, hlies, fun hv i x j y hx hy => ?_⟩, fun hv => .inl (Nat.le_trans hrel.size (hnew hv))⟩
      obtain ⟨v, h1, h2⟩ := hcont hv i x j y hx hy
      exact ⟨v, h1, h2.mono hcell hloc⟩
    · rw [if_neg e] at hi
      obtain ⟨L', hL', hr, hm⟩ := hrel.box id box hi
      exact ⟨L', hloc _ _ hL', hr.mono hcell hloc (fun hv => hE.block _ (hr.lt hv)), hm⟩
  · intro id id' c c' L1 L2 h1 h2 hne h3 h4 hv1 hv2
    rcases hback id c L1 h1 h3 with ⟨rfl, rfl, rfl⟩ | ⟨_, h5, h6⟩
    · rcases hback id' c' L2 h2 h4 with ⟨rfl, rfl, rfl⟩ | ⟨_, h7, h8⟩
      · exact absurd rfl hne
      · obtain ⟨L', hL', hr, _⟩ := hrel.box id' c' h7
        obtain rfl : L2 = L' := by rw [h8] at hL'; exact Option.some.inj hL'
        have := hr.lt hv2; have := hnew hv1; omega
    · rcases hback id' c' L2 h2 h4 with ⟨rfl, rfl, rfl⟩ | ⟨_, h7, h8⟩
      · obtain ⟨L', hL', hr, _⟩ := hrel.box id c h5
        obtain rfl : L1 = L' := by rw [h6] at hL'; exact Option.some.inj hL'
        have := hr.lt hv1; have := hnew hv2; omega
      · exact hrel.apart id id' c c' L1 L2 h5 h7 hne h6 h8 hv1 hv2
  · intro id hid
    have : id ≠ nx := by omega
    simp only [upd, if_neg this]
    exact hrel.dom id (by omega)
  · intro i hi
    have : i ≠ nx := by have := hrel.nxle; omega
    simp only [upd, if_neg this]
    exact hrel.agree i hi
  · have := hrel.nxle; omega

/-- A box is turned in place: its own cells, or cells behind what was known of it, are written. It may go on under another name. -/
theorem Rel.turn_box (hrel : Rel G bx nx φ w) {w' : World} {id : Nat} {b : Box} (hid : box? bx id = some b) {L : Loc} (hL : φ id = some L) (hv : L.virt = false)
    {o : Nat} {vs : List Value} {cs : Array Value} {T : TypeId} {fr : Nat × Nat} (hw : Wrote w w' L.blk o vs cs T fr) (hcs : w.heap[L.blk]? = some (.cells cs T fr))
    (hro : b.ro = true → L.base + b.elems.length * L.st ≤ o)
    {b' : Box} {L' : Loc} (hblk : L'.blk = L.blk) (hv' : L'.virt = false) (hsz : L'.size = L.size) (hst : b'.st = L'.st) (hsl : b'.slack = L'.slack) (hlen : ∀ (i : Nat) (x : AV), b'.elems[i]? = some x → okCells L'.st x)
    (hfit : L'.base + b'.elems.length * L'.st ≤ L'.size) (hro' : b.ro = true → b'.ro = true ∧ L.base + b.elems.length * L.st ≤ L'.base + b'.elems.length * L'.st)
    (hcont : ∀ (i : Nat) (x : AV) (j : Nat) (y : AV), b'.elems[i]? = some x → x.cells[j]? = some y → ∃ v, w'.cell? ⟨L.blk, L'.base + i * L'.st + j, none⟩ = some v ∧ Rep w φ (OK G bx φ w) y v) :
    Adv G bx φ w ((nx, some b') :: (id, none) :: bx) (nx + 1) (upd φ nx L') w' := by
  obtain ⟨L0, hL0, hr, hm⟩ := hrel.box id b hid
  obtain rfl : L = L0 := by rw [hL] at hL0; exact Option.some.inj hL0
  have hidn : id ≠ nx := by intro e; subst e; rw [hrel.dom id (Nat.le_refl _)] at hL; cases hL
  have hloc : ∀ i L1, φ i = some L1 → upd φ nx L' i = some L1 := by
    intro i L1 h
    have : i ≠ nx := by intro e; subst e; rw [hrel.dom i (Nat.le_refl _)] at h; cases h
    simp [upd, this, h]
  have hback : ∀ i box L1, box? ((nx, some b') :: (id, none) :: bx) i = some box → upd φ nx L' i = some L1 → (i = nx ∧ box = b' ∧ L1 = L') ∨ (i ≠ nx ∧ i ≠ id ∧ box? bx i = some box ∧ φ i = some L1) := by
    intro i box L1 h1 h2
    rw [box?_cons, box?_cons] at h1
    by_cases e : nx = i
    · subst e
      simp [upd] at h1 h2
      exact .inl ⟨rfl, h1.symm, h2.symm⟩
    · rw [if_neg e] at h1
      have e' : i ≠ nx := fun h => e h.symm
      simp only [upd, if_neg e'] at h2
      by_cases e2 : id = i
      · rw [if_pos e2] at h1; cases h1
      · rw [if_neg e2] at h1
        exact .inr ⟨e', fun h => e2 h.symm, h1, h2⟩
  have hcell : ∀ b1 o1, OK G bx φ w b1 o1 → OK G ((nx, some b') :: (id, none) :: bx) (upd φ nx L') w' b1 o1 ∧ w'.cell? ⟨b1, o1, none⟩ = w.cell? ⟨b1, o1, none⟩ := by
    intro b1 o1 k
    have hsame : w'.cell? ⟨b1, o1, none⟩ = w.cell? ⟨b1, o1, none⟩ := by
      by_cases e : b1 = L.blk
      · subst e
        obtain ⟨h1, h2⟩ := k.2.1 id b L hid hL hv rfl
        obtain ⟨cs', e1, e2, e3⟩ := hw.here
        have := hro h1
        simp only [World.cell?, e1, hcs, Option.isSome_none, Bool.false_eq_true, if_false]
        rw [e3 o1, if_neg (by omega)]
      · exact cell_of_block (hw.other b1 e) o1
    refine ⟨⟨by rw [hw.size]; exact k.1, ?_, k.2.2⟩, hsame⟩
    intro i box L1 h1 h2 hv1 he
    rcases hback i box L1 h1 h2 with ⟨rfl, rfl, rfl⟩ | ⟨_, _, h3, h4⟩
    · obtain ⟨h5, h6⟩ := k.2.1 id b L hid hL hv (by rw [← hblk, he])
      obtain ⟨h7, h8⟩ := hro' h5
      exact ⟨h7, by omega⟩
    · exact k.2.1 i box L1 h3 h4 hv1 he
  refine ⟨?_, hcell, hloc⟩
  constructor
  · exact hw.os.trans hrel.os
  · exact hw.tape.trans hrel.tape
  · exact hw.output.trans hrel.output
  · rw [hw.size]; exact hrel.size
  · intro b1 hb hwr
    by_cases e : b1 = L.blk
    · subst e
      rcases hm hv with h | h
      · omega
      · exact absurd h hwr
    · exact (hw.other b1 e).trans (hrel.frame b1 hb hwr)
  · intro b1 o1 hk
    exact (hcell b1 o1 (hrel.ok_of_ok0 hk)).2.trans (hrel.kept b1 o1 hk)
  · intro b1 o1 hk
    exact ⟨(hrel.okk b1 o1 hk).1, (hcell b1 o1 (hrel.ok_of_ok0 hk)).1.2.1⟩
  · intro i box hi
    rw [box?_cons, box?_cons] at hi
    by_cases e : nx = i
    · subst e
      rw [if_pos rfl] at hi
      obtain rfl := Option.some.inj hi
      refine ⟨L', by simp [upd], ⟨hst, hsl, hlen, fun h => (by rw [hv'] at h; cases h), fun _ => ?_, fun _ i x j y hx hy => ?_⟩, fun _ => by rw [hblk]; exact hm hv⟩
      · obtain ⟨cs', e1, e2, _⟩ := hw.here
        obtain ⟨cs0, T0, fr0, f1, f2, f3, f4⟩ := hr.lies hv
        rw [hcs] at f1
        simp only [Option.some.injEq, Obj.cells.injEq] at f1
        obtain ⟨rfl, rfl, rfl⟩ := f1
        exact ⟨cs', T, fr, by rw [hblk]; exact e1, by rw [hsz, e2, f2], hfit, by rw [hsz]; exact f4⟩
      · obtain ⟨v, h1, h2⟩ := hcont i x j y hx hy
        exact ⟨v, by rw [hblk]; exact h1, h2.mono hcell hloc⟩
    · rw [if_neg e] at hi
      by_cases e2 : id = i
      · rw [if_pos e2] at hi; cases hi
      · rw [if_neg e2] at hi
        obtain ⟨L1, hL1, hr1, hm1⟩ := hrel.box i box hi
        refine ⟨L1, hloc _ _ hL1, hr1.mono hcell hloc (fun hv1 => hw.other _ ?_), hm1⟩
        exact fun h => hrel.apart id i b box L L1 hid hi (fun h => e2 h) hL hL1 hv hv1 h.symm
  · intro i i' c c' L1 L2 h1 h2 hne h3 h4 hv1 hv2
    rcases hback i c L1 h1 h3 with ⟨rfl, rfl, rfl⟩ | ⟨_, g1, h5, h6⟩
    · rcases hback i' c' L2 h2 h4 with ⟨rfl, rfl, rfl⟩ | ⟨_, g2, h7, h8⟩
      · exact absurd rfl hne
      · rw [hblk]
        exact hrel.apart id i' b c' L L2 hid h7 (fun h => g2 h.symm) hL h8 hv hv2
    · rcases hback i' c' L2 h2 h4 with ⟨rfl, rfl, rfl⟩ | ⟨_, g2, h7, h8⟩
      · rw [hblk]
        exact hrel.apart i id c b L1 L h5 hid g1 h6 hL hv1 hv
      · exact hrel.apart i i' c c' L1 L2 h5 h7 hne h6 h8 hv1 hv2
  · intro i hi
    have : i ≠ nx := by omega
    simp only [upd, if_neg this]
    exact hrel.dom i (by omega)
  · intro i hi
    have : i ≠ nx := by have := hrel.nxle; omega
    simp only [upd, if_neg this]
    exact hrel.agree i hi
  · have := hrel.nxle; omega
end

end Go.Av
