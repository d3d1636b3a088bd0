/- A small logic for code over pictures of values and boxes: part 2. -/
import Derived.Test.YtmaginepopldnaaDoorGa
set_option linter.unusedSimpArgs false
set_option linter.unusedVariables false
namespace Go.Av

def wrow (w : World) (b o : Nat) : List Value → World
  | [] => w
  | v :: r => wrow (w.setCell ⟨b, o, none⟩ v) b (o + 1) r

structure Wrote (w w' : World) (b o : Nat) (vs : List Value) (cs : Array Value) (T : TypeId) (fr : Nat × Nat) : Prop where
  os : w'.os = w.os
  tape : w'.tape = w.tape
  output : w'.output = w.output
  size : w'.heap.size = w.heap.size
  other : ∀ k, k ≠ b → w'.heap[k]? = w.heap[k]?
  here : ∃ cs', w'.heap[b]? = some (.cells cs' T fr) ∧ cs'.size = cs.size ∧ ∀ i : Nat, cs'[i]? = if o ≤ i ∧ i < o + vs.length then vs[i - o]? else cs[i]?

theorem setCell_here {w : World} {b o : Nat} {cs : Array Value} {T : TypeId} {fr : Nat × Nat} (h : w.heap[b]? = some (.cells cs T fr)) (v : Value) :
    (w.setCell ⟨b, o, none⟩ v).heap[b]? = some (.cells (cs.setIfInBounds o v) T fr) := by
  simp [World.setCell, Array.getElem?_modify, h]

theorem wrote {b : Nat} {T : TypeId} {fr : Nat × Nat} : ∀ (vs : List Value) (w : World) (o : Nat) (cs : Array Value), w.heap[b]? = some (.cells cs T fr) → o + vs.length ≤ cs.size →
    Wrote w (wrow w b o vs) b o vs cs T fr
  | [], w, o, cs, h, hs => ⟨rfl, rfl, rfl, rfl, fun _ _ => rfl, cs, h, rfl, fun i => by rw [if_neg (by intro h; simp at h; omega)]⟩
  | v :: r, w, o, cs, h, hs => by
    have ih := wrote (b := b) (T := T) (fr := fr) r (w.setCell ⟨b, o, none⟩ v) (o + 1) (cs.setIfInBounds o v) (setCell_here h v) (by simp at hs ⊢; omega)
    obtain ⟨cs', e1, e2, e3⟩ := ih.here
    refine ⟨ih.os, ih.tape, ih.output, by rw [wrow, ih.size]; simp, fun k hk => by rw [wrow, ih.other k hk, RowKit.Below.heap_setCell _ _ _ _ hk], cs', e1, by simpa using e2, fun i => ?_⟩
    rw [e3 i]
    simp only [List.length_cons] at hs ⊢
    by_cases h1 : i = o
    · subst h1
      have hlt : i < cs.size := by omega
      rw [if_neg (by omega), if_pos (by omega), Nat.sub_self]
      simp [hlt]
    · by_cases h2 : o + 1 ≤ i ∧ i < o + 1 + r.length
      · rw [if_pos h2, if_pos (by omega), show i - o = (i - (o + 1)) + 1 by omega]
        simp
      · rw [if_neg h2, if_neg (by omega)]
        rw [Array.getElem?_setIfInBounds, if_neg (by omega)]

theorem run_storeCells {P : Program} {b : Nat} {T : TypeId} {fr : Nat × Nat} (o : Nat) : ∀ (vs : List Value) (w : World) (i : Nat) (cs : Array Value), w.heap[b]? = some (.cells cs T fr) → o + i + vs.length ≤ cs.size →
    (∀ k, k < cs.size → ¬ (fr.1 ≤ k ∧ k < fr.2)) → (∀ v ∈ vs, v.oneCell' = true) → (storeCells ⟨b, o, none⟩ vs i).run P w = .ok () (wrow w b (o + i) vs)
  | [], w, i, cs, h, hs, hf, ho => rfl
  | v :: r, w, i, cs, h, hs, hf, ho => by
    simp only [List.length_cons] at hs
    have hc : w.cell? ⟨b, o + i, none⟩ = cs[o + i]? := by simp [World.cell?, h]
    have hlt : o + i < cs.size := by omega
    have hfz : w.frozen? ⟨b, o + i, none⟩ = false := by
      have := hf (o + i) hlt
      obtain ⟨lo, hi⟩ := fr
      simp only [World.frozen?, h]
      simpa using this
    rw [storeCells]
    simp only [Sem.run_bind, Addr.add_lit, run_store P w ⟨b, o + i, none⟩ v .plain (ho v (by simp)), hc, Array.getElem?_eq_getElem hlt, hfz, Bool.false_eq_true, if_false, Result.andThen_ok]
    rw [run_storeCells o r _ (i + 1) (cs.setIfInBounds (o + i) v) (setCell_here h v) (by simp; omega) (by simpa using hf) (fun u hu => ho u (by simp [hu]))]
    rfl

theorem Rep.oneCell {w : World} {φ : Nat → Option Loc} {ok : Nat → Nat → Prop} {x : AV} {v : Value} (h : Rep w φ ok x v) (hk : x.cellOk = true) : v.oneCell' = true := by
  cases h <;> simp_all [AV.cellOk, Value.oneCell']

def upd (φ : Nat → Option Loc) (id : Nat) (L : Loc) : Nat → Option Loc := fun i => if i = id then some L else φ i

theorem box?_cons (bx : List (Nat × Option Box)) (k : Nat) (b : Option Box) (id : Nat) : box? ((k, b) :: bx) id = if k = id then b else box? bx id := by
  simp only [box?, look_cons]
  split <;> rfl

structure Adv (G : Gh) (bx : List (Nat × Option Box)) (φ : Nat → Option Loc) (w : World) (bx' : List (Nat × Option Box)) (nx' : Nat) (φ' : Nat → Option Loc) (w' : World) : Prop where
  rel : Rel G bx' nx' φ' w'
  cell : ∀ b o, OK G bx φ w b o → OK G bx' φ' w' b o ∧ w'.cell? ⟨b, o, none⟩ = w.cell? ⟨b, o, none⟩
  loc : ∀ id L, φ id = some L → φ' id = some L

section
variable {G : Gh} {bx : List (Nat × Option Box)} {nx : Nat} {φ : Nat → Option Loc} {w : World}

theorem Adv.rep {bx' : List (Nat × Option Box)} {nx' : Nat} {φ' : Nat → Option Loc} {w' : World} (h : Adv G bx φ w bx' nx' φ' w') {x : AV} {v : Value} (r : Rep w φ (OK G bx φ w) x v) :
    Rep w' φ' (OK G bx' φ' w') x v := r.mono h.cell h.loc

theorem Adv.relA {st : St} {φ : Nat → Option Loc} {a : Act} {w : World} {bx' : List (Nat × Option Box)} {nx' : Nat} {φ' : Nat → Option Loc} {w' : World} (h : Adv G st.bx φ w bx' nx' φ' w') (r : RelA G st φ a w) :
    RelA G ⟨st.env, bx', nx'⟩ φ' a w' :=
  ⟨h.rel, r.defers, r.sz, fun t v e => ⟨(r.env t v e).1, h.rep (r.env t v e).2⟩⟩

theorem Rel.add_box (hrel : Rel G bx nx φ w) {w' : World} (hE : Ext w w') {L : Loc} {b : Box} (hnew : L.virt = false → ∀ k, L.own k → w.heap.size ≤ k)
    (hst : b.st = L.st) (hsl : b.slack = L.slack) (hlen : ∀ (i : Nat) (x : AV), b.elems[i]? = some x → okCells L.st x) (hvirt : L.virt = true → b.elems = [])
    (hlies : L.virt = false → Lies w' L b.elems.length)
    (hcont : L.virt = false → ∀ (i : Nat) (x : AV) (j : Nat) (y : AV), b.elems[i]? = some x → x.cells[j]? = some y → ∃ v, w'.cell? ⟨(L.pos i).1, (L.pos i).2 + j, none⟩ = some v ∧ Rep w φ (OK G bx φ w) y v) :
    Adv G bx φ w ((nx, some b) :: bx) (nx + 1) (upd φ nx L) w' := by
  have hloc : ∀ id L', φ id = some L' → upd φ nx L id = some L' := by
    intro id L' h
    have : id ≠ nx := by intro e; subst e; rw [hrel.dom id (Nat.le_refl _)] at h; cases h
    simp [upd, this, h]
  have hback : ∀ id box L', box? ((nx, some b) :: bx) id = some box → upd φ nx L id = some L' → (id = nx ∧ box = b ∧ L' = L) ∨ (id ≠ nx ∧ box? bx id = some box ∧ φ id = some L') := by
    intro id box L' h1 h2
    rw [box?_cons] at h1
    by_cases e : nx = id
    · subst e
      simp [upd] at h1 h2
      exact .inl ⟨rfl, h1.symm, h2.symm⟩
    · rw [if_neg e] at h1
      have e' : id ≠ nx := fun h => e h.symm
      simp only [upd, if_neg e'] at h2
      exact .inr ⟨e', h1, h2⟩
  have hcell : ∀ b' o, OK G bx φ w b' o → OK G ((nx, some b) :: bx) (upd φ nx L) w' b' o ∧ w'.cell? ⟨b', o, none⟩ = w.cell? ⟨b', o, none⟩ := by
    intro b' o k
    refine ⟨⟨Nat.lt_of_lt_of_le k.1 hE.size, ?_, k.2.2⟩, hE.cell k.1 o⟩
    intro id box L' h1 h2 hv he
    rcases hback id box L' h1 h2 with ⟨rfl, rfl, rfl⟩ | ⟨_, h3, h4⟩
    · have := hnew hv _ he; have := k.1; omega
    · exact k.2.1 id box L' h3 h4 hv he
  refine ⟨?_, hcell, hloc⟩
  constructor
  · exact hE.os.trans hrel.os
  · exact hE.tape.trans hrel.tape
  · exact hE.output.trans hrel.output
  · exact Nat.le_trans hrel.size hE.size
  · intro b' hb hw; exact (hE.block b' (Nat.lt_of_lt_of_le hb hrel.size)).trans (hrel.frame b' hb hw)
  · intro b' o hk; exact (hE.cell (Nat.lt_of_lt_of_le (hrel.okk b' o hk).1 hrel.size) o).trans (hrel.kept b' o hk)
  · intro b' o hk
    refine ⟨(hrel.okk b' o hk).1, ?_⟩
    intro id box L' h1 h2 hv he
    rcases hback id box L' h1 h2 with ⟨rfl, rfl, rfl⟩ | ⟨_, h3, h4⟩
    · have h5 := hnew hv _ he; have h6 := (hrel.okk b' o hk).1; have h7 := hrel.size; omega
    · exact (hrel.okk b' o hk).2 id box L' h3 h4 hv he
  · intro id box hi
    rw [box?_cons] at hi
    by_cases e : nx = id
    · subst e
      rw [if_pos rfl] at hi
      obtain rfl := Option.some.inj hi
      refine ⟨L, by simp [upd], ⟨hst, hsl, hlen, hvirt, hlies, fun hv i x j y hx hy => ?_⟩, fun hv k hk => .inl (Nat.le_trans hrel.size (hnew hv k hk))⟩
      obtain ⟨v, h1, h2⟩ := hcont hv i x j y hx hy
      exact ⟨v, h1, h2.mono hcell hloc⟩
    · rw [if_neg e] at hi
      obtain ⟨L', hL', hr, hm⟩ := hrel.box id box hi
      exact ⟨L', hloc _ _ hL', hr.mono hcell hloc (fun hv k hk => hE.block _ (hr.lt hv hk)), hm⟩
  · intro id id' c c' L1 L2 h1 h2 hne h3 h4 hv1 hv2 kb q1 q2
    rcases hback id c L1 h1 h3 with ⟨rfl, rfl, rfl⟩ | ⟨_, h5, h6⟩
    · rcases hback id' c' L2 h2 h4 with ⟨rfl, rfl, rfl⟩ | ⟨_, h7, h8⟩
      · exact absurd rfl hne
      · obtain ⟨L', hL', hr, _⟩ := hrel.box id' c' h7
        obtain rfl : L2 = L' := by rw [h8] at hL'; exact Option.some.inj hL'
        have := hr.lt hv2 q2; have := hnew hv1 _ q1; omega
    · rcases hback id' c' L2 h2 h4 with ⟨rfl, rfl, rfl⟩ | ⟨_, h7, h8⟩
      · obtain ⟨L', hL', hr, _⟩ := hrel.box id c h5
        obtain rfl : L1 = L' := by rw [h6] at hL'; exact Option.some.inj hL'
        have := hr.lt hv1 q1; have := hnew hv2 _ q2; omega
      · exact hrel.apart id id' c c' L1 L2 h5 h7 hne h6 h8 hv1 hv2 kb q1 q2
  · intro id hid
    have : id ≠ nx := by omega
    simp only [upd, if_neg this]
    exact hrel.dom id (by omega)
  · intro i hi
    have : i ≠ nx := by have := hrel.nxle; omega
    simp only [upd, if_neg this]
    exact hrel.agree i hi
  · have := hrel.nxle; omega

theorem Rel.turn_box (hrel : Rel G bx nx φ w) {w' : World} {id : Nat} {b : Box} (hid : box? bx id = some b) {L : Loc} (hL : φ id = some L) (hv : L.virt = false)
    {B o : Nat} (hB : L.own B) {vs : List Value} {cs : Array Value} {T : TypeId} {fr : Nat × Nat} (hw : Wrote w w' B o vs cs T fr) (hcs : w.heap[B]? = some (.cells cs T fr))
    (hro : b.ro = true → L.lim b.elems.length B ≤ o)
    {b' : Box} {L' : Loc} (hblk : ∀ k, L'.own k → L.own k) (hv' : L'.virt = false) (hst : b'.st = L'.st) (hsl : b'.slack = L'.slack) (hlen : ∀ (i : Nat) (x : AV), b'.elems[i]? = some x → okCells L'.st x)
    (hlies : Lies w' L' b'.elems.length) (hro' : b.ro = true → b'.ro = true ∧ ∀ k, L'.own k → L.lim b.elems.length k ≤ L'.lim b'.elems.length k)
    (hcont : ∀ (i : Nat) (x : AV) (j : Nat) (y : AV), b'.elems[i]? = some x → x.cells[j]? = some y → ∃ v, w'.cell? ⟨(L'.pos i).1, (L'.pos i).2 + j, none⟩ = some v ∧ Rep w φ (OK G bx φ w) y v) :
    Adv G bx φ w ((nx, some b') :: (id, none) :: bx) (nx + 1) (upd φ nx L') w' := by
  obtain ⟨L0, hL0, hr, hm⟩ := hrel.box id b hid
  obtain rfl : L = L0 := by rw [hL] at hL0; exact Option.some.inj hL0
  have hidn : id ≠ nx := by intro e; subst e; rw [hrel.dom id (Nat.le_refl _)] at hL; cases hL
  have hloc : ∀ i L1, φ i = some L1 → upd φ nx L' i = some L1 := by
    intro i L1 h
    have : i ≠ nx := by intro e; subst e; rw [hrel.dom i (Nat.le_refl _)] at h; cases h
    simp [upd, this, h]
  have hback : ∀ i box L1, box? ((nx, some b') :: (id, none) :: bx) i = some box → upd φ nx L' i = some L1 → (i = nx ∧ box = b' ∧ L1 = L') ∨ (i ≠ nx ∧ i ≠ id ∧ box? bx i = some box ∧ φ i = some L1) := by
    intro i box L1 h1 h2
    rw [box?_cons, box?_cons] at h1
    by_cases e : nx = i
    · subst e
      simp [upd] at h1 h2
      exact .inl ⟨rfl, h1.symm, h2.symm⟩
    · rw [if_neg e] at h1
      have e' : i ≠ nx := fun h => e h.symm
      simp only [upd, if_neg e'] at h2
      by_cases e2 : id = i
      · rw [if_pos e2] at h1; cases h1
      · rw [if_neg e2] at h1
        exact .inr ⟨e', fun h => e2 h.symm, h1, h2⟩
  have hcell : ∀ b1 o1, OK G bx φ w b1 o1 → OK G ((nx, some b') :: (id, none) :: bx) (upd φ nx L') w' b1 o1 ∧ w'.cell? ⟨b1, o1, none⟩ = w.cell? ⟨b1, o1, none⟩ := by
    intro b1 o1 k
    have hsame : w'.cell? ⟨b1, o1, none⟩ = w.cell? ⟨b1, o1, none⟩ := by
      by_cases e : b1 = B
      · subst e
        obtain ⟨h1, h2⟩ := k.2.1 id b L hid hL hv hB
        obtain ⟨cs', e1, e2, e3⟩ := hw.here
        have := hro h1
        simp only [World.cell?, e1, hcs, Option.isSome_none, Bool.false_eq_true, if_false]
        rw [e3 o1, if_neg (by omega)]
      · exact cell_of_block (hw.other b1 e) o1
    refine ⟨⟨by rw [hw.size]; exact k.1, ?_, k.2.2⟩, hsame⟩
    intro i box L1 h1 h2 hv1 he
    rcases hback i box L1 h1 h2 with ⟨rfl, rfl, rfl⟩ | ⟨_, _, h3, h4⟩
    · obtain ⟨h5, h6⟩ := k.2.1 id b L hid hL hv (hblk _ he)
      obtain ⟨h7, h8⟩ := hro' h5
      exact ⟨h7, Nat.lt_of_lt_of_le h6 (h8 _ he)⟩
    · exact k.2.1 i box L1 h3 h4 hv1 he
  refine ⟨?_, hcell, hloc⟩
  constructor
  · exact hw.os.trans hrel.os
  · exact hw.tape.trans hrel.tape
  · exact hw.output.trans hrel.output
  · rw [hw.size]; exact hrel.size
  · intro b1 hb hwr
    by_cases e : b1 = B
    · subst e
      rcases hm hv _ hB with h | h
      · omega
      · exact absurd h hwr
    · exact (hw.other b1 e).trans (hrel.frame b1 hb hwr)
  · intro b1 o1 hk
    exact (hcell b1 o1 (hrel.ok_of_ok0 hk)).2.trans (hrel.kept b1 o1 hk)
  · intro b1 o1 hk
    exact ⟨(hrel.okk b1 o1 hk).1, (hcell b1 o1 (hrel.ok_of_ok0 hk)).1.2.1⟩
  · intro i box hi
    rw [box?_cons, box?_cons] at hi
    by_cases e : nx = i
    · subst e
      rw [if_pos rfl] at hi
      obtain rfl := Option.some.inj hi
      refine ⟨L', by simp [upd], ⟨hst, hsl, hlen, fun h => (by rw [hv'] at h; cases h), fun _ => hlies, fun _ i x j y hx hy => ?_⟩, fun _ k hk => hm hv k (hblk k hk)⟩
      obtain ⟨v, h1, h2⟩ := hcont i x j y hx hy
      exact ⟨v, h1, h2.mono hcell hloc⟩
    · rw [if_neg e] at hi
      by_cases e2 : id = i
      · rw [if_pos e2] at hi; cases hi
      · rw [if_neg e2] at hi
        obtain ⟨L1, hL1, hr1, hm1⟩ := hrel.box i box hi
        refine ⟨L1, hloc _ _ hL1, hr1.mono hcell hloc (fun hv1 k hk => hw.other _ ?_), hm1⟩
        exact fun h => hrel.apart id i b box L L1 hid hi (fun h => e2 h) hL hL1 hv hv1 k (h ▸ hB) hk
  · intro i i' c c' L1 L2 h1 h2 hne h3 h4 hv1 hv2 kb q1 q2
    rcases hback i c L1 h1 h3 with ⟨rfl, rfl, rfl⟩ | ⟨_, g1, h5, h6⟩
    · rcases hback i' c' L2 h2 h4 with ⟨rfl, rfl, rfl⟩ | ⟨_, g2, h7, h8⟩
      · exact absurd rfl hne
      · exact hrel.apart id i' b c' L L2 hid h7 (fun h => g2 h.symm) hL h8 hv hv2 kb (hblk kb q1) q2
    · rcases hback i' c' L2 h2 h4 with ⟨rfl, rfl, rfl⟩ | ⟨_, g2, h7, h8⟩
      · exact hrel.apart i id c b L1 L h5 hid g1 h6 hL hv1 hv kb q1 (hblk kb q2)
      · exact hrel.apart i i' c c' L1 L2 h5 h7 hne h6 h8 hv1 hv2 kb q1 q2
  · intro i hi
    have : i ≠ nx := by omega
    simp only [upd, if_neg this]
    exact hrel.dom i (by omega)
  · intro i hi
    have : i ≠ nx := by have := hrel.nxle; omega
    simp only [upd, if_neg this]
    exact hrel.agree i hi
  · have := hrel.nxle; omega
end

end Go.Av
namespace Go.Av

def zeroE (ti : TI) : AV := if isAggK ti.k then .agg ti.zero else ti.zero.getD 0 .undef

def flatC (xs : List AV) : List AV := xs.flatMap AV.cells

section
variable {P : Program} {ty : TypeId → Option TI} {G : Gh} {bx : List (Nat × Option Box)} {nx : Nat} {φ : Nat → Option Loc} {w : World}

theorem Lies.wrote {w w' : World} {L : Loc} {n B o : Nat} {vs : List Value} {cs : Array Value} {T : TypeId} {fr : Nat × Nat} (h : Lies w L n) (hw : Wrote w w' B o vs cs T fr) (hcs : w.heap[B]? = some (.cells cs T fr)) : Lies w' L n := by
  refine ⟨fun k hk => ?_, h.own, h.lim, h.dis⟩
  obtain ⟨cs0, T0, fr0, f1, f2, f3⟩ := h.blk k hk
  by_cases e : k = B
  · subst e
    obtain ⟨cs', e1, e2, _⟩ := hw.here
    rw [hcs] at f1
    simp only [Option.some.injEq, Obj.cells.injEq] at f1
    obtain ⟨rfl, rfl, rfl⟩ := f1
    exact ⟨cs', T, fr, e1, by rw [e2, f2], f3⟩
  · exact ⟨cs0, T0, fr0, by rw [hw.other k e]; exact f1, f2, f3⟩

theorem Rel.store_box (hrel : Rel G bx nx φ w) {w' : World} {id : Nat} {b : Box} (hid : box? bx id = some b) {L : Loc} (hL : φ id = some L) (hv : L.virt = false)
    {B o : Nat} (hB : L.own B) {vs : List Value} {cs : Array Value} {T : TypeId} {fr : Nat × Nat} (hw : Wrote w w' B o vs cs T fr) (hcs : w.heap[B]? = some (.cells cs T fr))
    (hro : b.ro = false) {b' : Box} (hst : b'.st = b.st) (hsl : b'.slack = b.slack) (hro' : b'.ro = false) (hll : b'.elems.length = b.elems.length) (hlen : ∀ (i : Nat) (x : AV), b'.elems[i]? = some x → okCells L.st x)
    (hcont : ∀ (i : Nat) (x : AV) (j : Nat) (y : AV), b'.elems[i]? = some x → x.cells[j]? = some y → ∃ v, w'.cell? ⟨(L.pos i).1, (L.pos i).2 + j, none⟩ = some v ∧ Rep w φ (OK G bx φ w) y v) :
    Adv G bx φ w ((id, some b') :: bx) nx φ w' := by
  obtain ⟨L0, hL0, hr, hm⟩ := hrel.box id b hid
  obtain rfl : L = L0 := by rw [hL] at hL0; exact Option.some.inj hL0
  have hback : ∀ i box, box? ((id, some b') :: bx) i = some box → (i = id ∧ box = b') ∨ (i ≠ id ∧ box? bx i = some box) := by
    intro i box h1
    rw [box?_cons] at h1
    by_cases e : id = i
    · subst e
      simp at h1
      exact .inl ⟨rfl, h1.symm⟩
    · rw [if_neg e] at h1
      exact .inr ⟨fun h => e h.symm, h1⟩
  have hcell : ∀ b1 o1, OK G bx φ w b1 o1 → OK G ((id, some b') :: bx) φ w' b1 o1 ∧ w'.cell? ⟨b1, o1, none⟩ = w.cell? ⟨b1, o1, none⟩ := by
    intro b1 o1 k
    have hne : b1 ≠ B := by
      intro e; subst e
      have := (k.2.1 id b L hid hL hv hB).1
      rw [hro] at this; cases this
    refine ⟨⟨by rw [hw.size]; exact k.1, ?_, k.2.2⟩, cell_of_block (hw.other b1 hne) o1⟩
    intro i box L1 h1 h2 hv1 he
    rcases hback i box h1 with ⟨rfl, rfl⟩ | ⟨_, h3⟩
    · rw [hL] at h2; obtain rfl := Option.some.inj h2; have := (k.2.1 i b L hid hL hv he).1; rw [hro] at this; cases this
    · exact k.2.1 i box L1 h3 h2 hv1 he
  refine ⟨?_, hcell, fun _ _ h => h⟩
  constructor
  · exact hw.os.trans hrel.os
  · exact hw.tape.trans hrel.tape
  · exact hw.output.trans hrel.output
  · rw [hw.size]; exact hrel.size
  · intro b1 hb hwr
    by_cases e : b1 = B
    · subst e
      rcases hm hv _ hB with h | h
      · omega
      · exact absurd h hwr
    · exact (hw.other b1 e).trans (hrel.frame b1 hb hwr)
  · intro b1 o1 hk
    exact (hcell b1 o1 (hrel.ok_of_ok0 hk)).2.trans (hrel.kept b1 o1 hk)
  · intro b1 o1 hk
    exact ⟨(hrel.okk b1 o1 hk).1, (hcell b1 o1 (hrel.ok_of_ok0 hk)).1.2.1⟩
  · intro i box hi
    rcases hback i box hi with ⟨rfl, rfl⟩ | ⟨hne, h3⟩
    · refine ⟨L, hL, ⟨hst.trans hr.st, hsl.trans hr.slack, hlen, fun h => (by rw [hv] at h; cases h), fun _ => ?_, fun _ i x j y hx hy => ?_⟩, hm⟩
      · rw [hll]
        exact (hr.lies hv).wrote hw hcs
      · obtain ⟨v, h1, h2⟩ := hcont i x j y hx hy
        exact ⟨v, h1, h2.mono hcell (fun _ _ h => h)⟩
    · obtain ⟨L1, hL1, hr1, hm1⟩ := hrel.box i box h3
      refine ⟨L1, hL1, hr1.mono hcell (fun _ _ h => h) (fun hv1 k hk => hw.other _ ?_), hm1⟩
      exact fun h => hrel.apart id i b box L L1 hid h3 (fun h => hne h.symm) hL hL1 hv hv1 k (h ▸ hB) hk
  · intro i i' c c' L1 L2 h1 h2 hne h3 h4 hv1 hv2
    have g : ∀ i c, box? ((id, some b') :: bx) i = some c → ∃ c, box? bx i = some c := by
      intro i c h
      rcases hback i c h with ⟨rfl, rfl⟩ | ⟨_, h⟩
      · exact ⟨b, hid⟩
      · exact ⟨c, h⟩
    obtain ⟨c1, g1⟩ := g i c h1
    obtain ⟨c2, g2⟩ := g i' c' h2
    exact hrel.apart i i' c1 c2 L1 L2 g1 g2 hne h3 h4 hv1 hv2
  · exact hrel.dom
  · exact hrel.agree
  · exact hrel.nxle

theorem Rel.weaken (hrel : Rel G bx nx φ w) {bx' : List (Nat × Option Box)} {nx' : Nat} (hnx : nx ≤ nx')
    (h : ∀ id b', box? bx' id = some b' → ∃ b, box? bx id = some b ∧ b'.elems = b.elems ∧ b'.st = b.st ∧ b'.slack = b.slack ∧ (b.ro = true → b'.ro = true)) :
    Adv G bx φ w bx' nx' φ w := by
  have hok : ∀ b o, okB bx φ b o → okB bx' φ b o := by
    intro b o k id box L h1 h2 hv he
    obtain ⟨c, h3, h4, _, _, h5⟩ := h id box h1
    obtain ⟨h6, h7⟩ := k id c L h3 h2 hv he
    exact ⟨h5 h6, by rw [h4]; exact h7⟩
  have hcell : ∀ b o, OK G bx φ w b o → OK G bx' φ w b o ∧ w.cell? ⟨b, o, none⟩ = w.cell? ⟨b, o, none⟩ := fun b o k => ⟨⟨k.1, hok b o k.2.1, k.2.2⟩, rfl⟩
  refine ⟨?_, hcell, fun _ _ h => h⟩
  constructor
  · exact hrel.os
  · exact hrel.tape
  · exact hrel.output
  · exact hrel.size
  · exact hrel.frame
  · exact hrel.kept
  · exact fun b o k => ⟨(hrel.okk b o k).1, hok b o (hrel.okk b o k).2⟩
  · intro id b' hb
    obtain ⟨b, h1, h2, h3, h4, h5⟩ := h id b' hb
    obtain ⟨L, hL, hr, hm⟩ := hrel.box id b h1
    refine ⟨L, hL, ⟨by rw [h3]; exact hr.st, by rw [h4]; exact hr.slack, by rw [h2]; exact hr.len, by rw [h2]; exact hr.virt, by rw [h2]; exact hr.lies, ?_⟩, hm⟩
    rw [h2]
    intro hv i x j y hx hy
    obtain ⟨v, e1, e2⟩ := hr.cont hv i x j y hx hy
    exact ⟨v, e1, e2.mono hcell (fun _ _ h => h)⟩
  · intro i i' c c' L1 L2 h1 h2 hne h3 h4
    obtain ⟨c1, g1, _⟩ := h i c h1
    obtain ⟨c2, g2, _⟩ := h i' c' h2
    exact hrel.apart i i' c1 c2 L1 L2 g1 g2 hne h3 h4
  · exact fun id hid => hrel.dom id (by omega)
  · exact hrel.agree
  · exact Nat.le_trans hrel.nxle hnx

theorem flatC_length {st : Nat} : ∀ (xs : List AV), (∀ (i : Nat) (x : AV), xs[i]? = some x → x.cells.length = st) → (flatC xs).length = xs.length * st
  | [], _ => by simp [flatC]
  | x :: xs, h => by
    have h0 := h 0 x rfl
    have ih := flatC_length xs (fun i y hy => h (i + 1) y (by simpa using hy))
    simp only [flatC, List.flatMap_cons, List.length_append, List.length_cons, Nat.succ_mul] at ih ⊢
    rw [h0, ih, Nat.add_comm]

theorem flatC_get {st : Nat} : ∀ (xs : List AV), (∀ (i : Nat) (x : AV), xs[i]? = some x → x.cells.length = st) → ∀ (i : Nat) (x : AV) (j : Nat) (y : AV), xs[i]? = some x → x.cells[j]? = some y →
    (flatC xs)[i * st + j]? = some y
  | [], _, i, x, j, y, hx, _ => by simp at hx
  | a :: xs, h, i, x, j, y, hx, hy => by
    have h0 := h 0 a rfl
    simp only [flatC, List.flatMap_cons]
    cases i with
    | zero =>
      simp at hx
      subst hx
      have := (List.getElem?_eq_some_iff.1 hy).1
      rw [List.getElem?_append_left (by simpa using this)]
      simpa using hy
    | succ i =>
      have ih := flatC_get xs (fun i y hy => h (i + 1) y (by simpa using hy)) i x j y (by simpa using hx) hy
      rw [List.getElem?_append_right (by rw [Nat.succ_mul]; omega), h0, show (i + 1) * st + j - st = i * st + j by rw [Nat.succ_mul]; omega]
      exact ih

theorem flatC_at {st : Nat} : ∀ (xs : List AV), (∀ (i : Nat) (x : AV), xs[i]? = some x → x.cells.length = st) → ∀ (k : Nat) (y : AV), (flatC xs)[k]? = some y →
    ∃ x : AV, xs[k / st]? = some x ∧ x.cells[k % st]? = some y ∧ k % st < st
  | [], _, k, y, hy => by simp [flatC] at hy
  | a :: xs, h, k, y, hy => by
    have h0 := h 0 a rfl
    simp only [flatC, List.flatMap_cons] at hy
    by_cases hk : k < st
    · rw [List.getElem?_append_left (by omega)] at hy
      exact ⟨a, by rw [Nat.div_eq_of_lt hk]; rfl, by rw [Nat.mod_eq_of_lt hk]; exact hy, by rw [Nat.mod_eq_of_lt hk]; exact hk⟩
    · rw [List.getElem?_append_right (by omega), h0] at hy
      have hpos : 0 < st := by
        rcases Nat.eq_zero_or_pos st with e | e
        · exfalso
          have hz := flatC_length (st := st) xs (fun i y hy => h (i + 1) y (by simpa using hy))
          have := (List.getElem?_eq_some_iff.1 hy).1
          simp only [flatC] at hz
          rw [hz, e] at this
          simp at this
        · exact e
      obtain ⟨x, h1, h2, h3⟩ := flatC_at xs (fun i y hy => h (i + 1) y (by simpa using hy)) (k - st) y hy
      refine ⟨x, ?_, ?_, ?_⟩
      · rw [Nat.div_eq_sub_div hpos (by omega)]
        simpa using h1
      · rw [Nat.mod_eq_sub_mod (by omega)]; exact h2
      · exact Nat.mod_lt _ hpos
end

end Go.Av
namespace Go.Av

section
variable {P : Program} {ty : TypeId → Option TI} {G : Gh} {bx : List (Nat × Option Box)} {nx : Nat} {φ : Nat → Option Loc} {w : World}

theorem cont_row {ok : Nat → Nat → Prop} {w' : World} {B o m st : Nat} {ys : List AV} {us : List Value} {cs : Array Value} {T : TypeId} {fr : Nat × Nat}
    (hw : Wrote w w' B (o + m * st) us cs T fr) (hcs : w.heap[B]? = some (.cells cs T fr)) (hus : RepCells w φ ok (flatC ys) us)
    (hys : ∀ (i : Nat) (x : AV), ys[i]? = some x → okCells st x) {E : List AV} (hlen : ∀ (i : Nat) (x : AV), E[i]? = some x → okCells st x)
    (hold : ∀ (i : Nat) (x : AV) (j : Nat) (y : AV), i < m → E[i]? = some x → x.cells[j]? = some y → ∃ v, w.cell? ⟨B, o + i * st + j, none⟩ = some v ∧ Rep w φ ok y v)
    (hE : ∀ i : Nat, m ≤ i → E[i]? = ys[i - m]?) :
    ∀ (i : Nat) (x : AV) (j : Nat) (y : AV), E[i]? = some x → x.cells[j]? = some y → ∃ v, w'.cell? ⟨B, o + i * st + j, none⟩ = some v ∧ Rep w φ ok y v := by
  intro i x j y hx hy
  have hj : j < st := by
    have := (List.getElem?_eq_some_iff.1 hy).1
    rwa [(hlen i x hx).1] at this
  obtain ⟨cs', e1, e2, e3⟩ := hw.here
  have hul : us.length = ys.length * st := by rw [hus.1, flatC_length ys (fun i x h => (hys i x h).1)]
  have hcell : w'.cell? ⟨B, o + i * st + j, none⟩ = cs'[o + i * st + j]? := by simp [World.cell?, e1]
  have hwc : ∀ c : Nat, w.cell? ⟨B, c, none⟩ = cs[c]? := fun c => by simp [World.cell?, hcs]
  rw [hcell, e3]
  by_cases hi : i < m
  · obtain ⟨v, h1, h2⟩ := hold i x j y hi hx hy
    rw [hwc] at h1
    have : (i + 1) * st ≤ m * st := Nat.mul_le_mul_right _ hi
    rw [Nat.succ_mul] at this
    rw [if_neg (by omega)]
    exact ⟨v, h1, h2⟩
  · rw [hE i (by omega)] at hx
    have hlt := (List.getElem?_eq_some_iff.1 hx).1
    have hfy := flatC_get ys (fun i x h => (hys i x h).1) _ x j y hx hy
    have hsub : (i - m) * st = i * st - m * st := Nat.sub_mul _ _ _
    have h3 : m * st ≤ i * st := Nat.mul_le_mul_right _ (by omega)
    have h4 : (i - m + 1) * st ≤ ys.length * st := Nat.mul_le_mul_right _ (by omega)
    rw [Nat.succ_mul] at h4
    rw [if_pos (by omega)]
    obtain ⟨v, hvv⟩ : ∃ v, us[(i - m) * st + j]? = some v := ⟨_, List.getElem?_eq_getElem (by omega)⟩
    refine ⟨v, ?_, hus.2 _ y v hfy hvv⟩
    rw [← hvv]
    congr 1
    omega

theorem cont_in {ok : Nat → Nat → Prop} {w' : World} {L : Loc} {b : Box} (hr : BoxRep w φ ok L b) (hv : L.virt = false) {B o k : Nat} {ys : List AV} {us : List Value} {cs : Array Value} {T : TypeId} {fr : Nat × Nat}
    (hw : Wrote w w' B o us cs T fr) (hcs : w.heap[B]? = some (.cells cs T fr)) (hpos : ∀ i, i < ys.length → L.pos (k + i) = (B, o + i * L.st)) (hfit : k + ys.length ≤ b.elems.length)
    (hus : RepCells w φ ok (flatC ys) us) (hys : ∀ (i : Nat) (x : AV), ys[i]? = some x → okCells L.st x) {E : List AV}
    (hE : ∀ i : Nat, E[i]? = if i < k then b.elems[i]? else if i < k + ys.length then ys[i - k]? else b.elems[i]?) :
    (∀ (i : Nat) (x : AV), E[i]? = some x → okCells L.st x) ∧
    ∀ (i : Nat) (x : AV) (j : Nat) (y : AV), E[i]? = some x → x.cells[j]? = some y → ∃ v, w'.cell? ⟨(L.pos i).1, (L.pos i).2 + j, none⟩ = some v ∧ Rep w φ ok y v := by
  have hlen : ∀ (i : Nat) (x : AV), E[i]? = some x → okCells L.st x := by
    intro i x hx
    rw [hE] at hx
    split at hx
    · exact hr.len _ x hx
    · split at hx
      · exact hys _ x hx
      · exact hr.len _ x hx
  refine ⟨hlen, fun i x j y hx hy => ?_⟩
  have hj : j < L.st := by
    have := (List.getElem?_eq_some_iff.1 hy).1
    rwa [(hlen i x hx).1] at this
  obtain ⟨cs', e1, e2, e3⟩ := hw.here
  have hul : us.length = ys.length * L.st := by rw [hus.1, flatC_length ys (fun i x h => (hys i x h).1)]
  have rest : ¬ (k ≤ i ∧ i < k + ys.length) → b.elems[i]? = some x → ∃ v, w'.cell? ⟨(L.pos i).1, (L.pos i).2 + j, none⟩ = some v ∧ Rep w φ ok y v := by
    intro hi hx
    obtain ⟨v, h1, h2⟩ := hr.cont hv i x j y hx hy
    refine ⟨v, ?_, h2⟩
    by_cases hB : (L.pos i).1 = B
    · rw [hB] at h1 ⊢
      have hold : w.cell? ⟨B, (L.pos i).2 + j, none⟩ = cs[(L.pos i).2 + j]? := by simp [World.cell?, hcs]
      have hcell : w'.cell? ⟨B, (L.pos i).2 + j, none⟩ = cs'[(L.pos i).2 + j]? := by simp [World.cell?, e1]
      rw [hcell, e3, if_neg, ← hold]
      · exact h1
      · intro ⟨q1, q2⟩
        have hst : 0 < L.st := by omega
        generalize hc : (L.pos i).2 + j = c at q1 q2
        have hd := Nat.div_add_mod (c - o) L.st
        have hm := Nat.mod_lt (c - o) hst
        have hq : (c - o) / L.st < ys.length := by
          apply Nat.lt_of_mul_lt_mul_left (a := L.st)
          rw [Nat.mul_comm L.st ys.length]
          omega
        generalize (c - o) / L.st = d at hd hq
        rw [Nat.mul_comm] at hd
        have hp := hpos d hq
        have := (hr.lies hv).dis i (k + d) (List.getElem?_eq_some_iff.1 hx).1 (by omega) (by omega) (by rw [hp, hB])
        rw [hp] at this
        simp only at this
        omega
    · rw [cell_of_block (hw.other _ hB)]; exact h1
  rw [hE] at hx
  split at hx
  · exact rest (by omega) hx
  · split at hx
    · rename_i hi hi2
      have hp := hpos (i - k) (by omega)
      rw [show k + (i - k) = i by omega] at hp
      rw [hp]
      have hcell : w'.cell? ⟨B, o + (i - k) * L.st + j, none⟩ = cs'[o + (i - k) * L.st + j]? := by simp [World.cell?, e1]
      have hfy := flatC_get ys (fun i x h => (hys i x h).1) _ x j y hx hy
      have h4 : (i - k + 1) * L.st ≤ ys.length * L.st := Nat.mul_le_mul_right _ (by omega)
      rw [Nat.succ_mul] at h4
      rw [hcell, e3, if_pos (by omega)]
      obtain ⟨v, hvv⟩ : ∃ v, us[(i - k) * L.st + j]? = some v := ⟨_, List.getElem?_eq_getElem (by omega)⟩
      refine ⟨v, ?_, hus.2 _ y v hfy hvv⟩
      rw [← hvv]
      congr 1
      omega
    · exact rest (by omega) hx

theorem repCells_one {ok : Nat → Nat → Prop} {st : Nat} {x : AV} {v : Value} (h : Rep w φ ok x v) (k : okCells st x) : RepCells w φ ok x.cells v.cells.toList := by
  refine h.cells ?_
  rintro rfl
  have := k.2 .undef (by simp [AV.cells])
  cases this

theorem repCells_one_ok {ok : Nat → Nat → Prop} {cs : List AV} {vs : List Value} (h : RepCells w φ ok cs vs) (k : ∀ y ∈ cs, y.cellOk = true) : ∀ v ∈ vs, v.oneCell' = true := by
  intro v hv
  obtain ⟨i, hi⟩ := List.getElem?_of_mem hv
  have hl : i < cs.length := by rw [← h.1]; exact (List.getElem?_eq_some_iff.1 hi).1
  have hx := List.getElem?_eq_getElem hl
  exact (h.2 i _ v hx hi).oneCell (k _ (List.mem_of_getElem? hx))

theorem new_var (hrel : Rel G bx nx φ w) {st : Nat} {x : AV} {arr : Array Value} (T : TypeId) (hc : RepCells w φ (OK G bx φ w) x.cells arr.toList) (hk : okCells st x) :
    Adv G bx φ w ((nx, some ⟨[x], st, false, false⟩) :: bx) (nx + 1) (upd φ nx (.one w.heap.size 0 st arr.size false false)) (w.alloc (.cells arr T)) ∧
    Rep (w.alloc (.cells arr T)) (upd φ nx (.one w.heap.size 0 st arr.size false false)) (OK G ((nx, some ⟨[x], st, false, false⟩) :: bx) (upd φ nx (.one w.heap.size 0 st arr.size false false)) (w.alloc (.cells arr T))) (.ptr nx 0 0)
      (.pointer (some ⟨w.heap.size, 0, none⟩)) := by
  have hsz : arr.size = st := by have := hc.1; simp [hk.1] at this; exact this
  have hone : ∀ (i : Nat) (y : AV), ([x] : List AV)[i]? = some y → i = 0 ∧ y = x := by
    intro i y h
    cases i with
    | zero => simp at h; exact ⟨rfl, h.symm⟩
    | succ i => simp at h
  constructor
  · refine hrel.add_box (L := .one w.heap.size 0 st arr.size false false) (.alloc w _) (fun _ k hk => Nat.le_of_eq hk.symm) rfl rfl (fun i y h => by obtain ⟨_, rfl⟩ := hone i y h; exact hk) (fun h => by cases h) (fun _ => ?_) (fun _ i y j z h hz => ?_)
    · exact lies_one ⟨arr, T, (0, 0), by simp [World.alloc, -World.alloc_eq], rfl, by simp [hsz], fun o _ => by simp⟩
    · obtain ⟨rfl, rfl⟩ := hone i y h
      have hj : j < arr.size := by rw [hsz, ← hk.1]; exact (List.getElem?_eq_some_iff.1 hz).1
      have hv : arr[j]? = some arr[j] := Array.getElem?_eq_getElem hj
      refine ⟨arr[j], ?_, hc.2 j z _ hz (by rw [Array.getElem?_toList]; exact hv)⟩
      simp only [Loc.one]
      simp only [Nat.zero_mul, Nat.zero_add]
      rw [World.cell?_alloc_new]
      exact hv
  · have := Rep.ptr (w := w.alloc (.cells arr T)) (φ := upd φ nx (.one w.heap.size 0 st arr.size false false))
      (ok := OK G ((nx, some ⟨[x], st, false, false⟩) :: bx) (upd φ nx (.one w.heap.size 0 st arr.size false false)) (w.alloc (.cells arr T))) nx 0 0 (.one w.heap.size 0 st arr.size false false) (by simp [upd]) rfl
    simpa [Loc.one] using this

def storeStep (ty : TypeId → Option TI) (bx : List (Nat × Option Box)) (t : TypeId) (a v : AV) : Option (Prop × List (Nat × Option Box)) :=
  match ty t, a with
  | some ti, .ptr id e k => match box? bx id with
    | some b =>
      if k = 0 ∧ ti.size = b.st then
        some (e < b.elems.length ∧ b.ro = false ∧ okCells ti.size v, (id, some { b with elems := b.elems.set e v }) :: bx)
      else match b.elems.getD e .undef with
        | .agg cs => some (e < b.elems.length ∧ b.ro = false ∧ okCells ti.size v ∧ k + ti.size ≤ cs.length, (id, some { b with elems := b.elems.set e (.agg (splice cs k v.cells)) }) :: bx)
        | _ => none
    | none => none
  | _, _ => none

theorem store_ok (hty : TyOk P ty) (hrel : Rel G bx nx φ w) {t : TypeId} {a v : AV} {ua uv : Value} (ha : Rep w φ (OK G bx φ w) a ua) (hv : Rep w φ (OK G bx φ w) v uv)
    {p : Prop} {bx' : List (Nat × Option Box)} (h : storeStep ty bx t a v = some (p, bx')) (hp : p) :
    ∃ w', (Instr.storeAt t ua uv).run P w = .ok () w' ∧ Adv G bx φ w bx' nx φ w' := by
  unfold storeStep at h
  split at h
  · rename_i ti id e k ht
    split at h
    · rename_i b hb
      obtain ⟨d, f, z, T⟩ := hty.at ht
      obtain ⟨L, hL, hr, hm⟩ := hrel.box id b hb
      cases ha with | ptr _ _ _ L' hL' hvirt =>
      obtain rfl : L = L' := by rw [hL] at hL'; exact Option.some.inj hL'
      -- what is common: the row written, and what its element is then
      have common : e < b.elems.length → b.ro = false → okCells ti.size v → ∀ (x' : AV), okCells L.st x' → k + ti.size ≤ L.st →
          (∀ (j : Nat) (y : AV), x'.cells[j]? = some y → if k ≤ j ∧ j < k + ti.size then v.cells[j - k]? = some y else (b.elems.getD e .undef).cells[j]? = some y) →
          ∃ w', (Instr.storeAt t (.pointer (some ⟨(L.pos e).1, (L.pos e).2 + k, none⟩)) uv).run P w = .ok () w' ∧ Adv G bx φ w ((id, some { b with elems := b.elems.set e x' }) :: bx) nx φ w' := by
        intro he hro hk x' hx' hfit hcells
        obtain ⟨o1, o2, o3⟩ := (hr.lies hvirt).at' e he
        have hdis := fun i (hi : i < b.elems.length) (hne : i ≠ e) => (hr.lies hvirt).dis i e hi he hne
        obtain ⟨cs, T0, fr, e1, e2, e4⟩ := (hr.lies hvirt).blk _ o1
        have hvc := repCells_one hv hk
        have hus : uv.cells.toList.length = ti.size := by rw [hvc.1, hk.1]
        have hW := wrote (b := (L.pos e).1) (T := T0) (fr := fr) uv.cells.toList w ((L.pos e).2 + k) cs e1 (by omega)
        refine ⟨wrow w (L.pos e).1 ((L.pos e).2 + k) uv.cells.toList, ?_, ?_⟩
        · have hn : uv.cells.size = ti.size := by simpa using hus
          have hne : ¬ (uv.cells.size ≠ ti.size) := by omega
          simp only [Instr.storeAt, Instr.sureAddr, pure_bind, storeVar, Sem.run_bind, T.run_sizeOf, Result.andThen_ok, if_neg hne]
          rw [run_storeCells (P := P) (b := (L.pos e).1) (T := T0) (fr := fr) ((L.pos e).2 + k) uv.cells.toList w 0 cs e1 (by omega) (by rw [e2]; exact e4)
            (repCells_one_ok hvc hk.2)]
          rfl
        · refine hrel.store_box hb hL hvirt o1 hW e1 hro rfl rfl hro (by simp) (fun i x hx => ?_) (fun i x j y hx hy => ?_)
          · rw [List.getElem?_set] at hx
            split at hx
            · first
              | (split at hx
                 · obtain rfl := Option.some.inj hx; exact hx'
                 · cases hx)
              | (obtain rfl := Option.some.inj hx; exact hx')
            · exact hr.len i x hx
          · obtain ⟨cs', g1, g2, g3⟩ := hW.here
            have hold : ∀ o, w.cell? ⟨(L.pos e).1, o, none⟩ = cs[o]? := fun o => by simp [World.cell?, e1]
            rw [List.getElem?_set] at hx
            split at hx
            · rename_i hei
              subst hei
              have hcell : (wrow w (L.pos e).1 ((L.pos e).2 + k) uv.cells.toList).cell? ⟨(L.pos e).1, (L.pos e).2 + j, none⟩ = cs'[(L.pos e).2 + j]? := by simp [World.cell?, g1]
              rw [hcell, g3, hus]
              have hx0 : x' = x := by
                first
                | (split at hx
                   · exact Option.some.inj hx
                   · cases hx)
                | exact Option.some.inj hx
              · obtain rfl := hx0
                have hj := (List.getElem?_eq_some_iff.1 hy).1
                rw [hx'.1] at hj
                have hc := hcells j y hy
                split at hc
                · rename_i hin
                  rw [if_pos (by omega)]
                  obtain ⟨u, hu⟩ : ∃ u, uv.cells.toList[j - k]? = some u := ⟨_, List.getElem?_eq_getElem (by omega)⟩
                  refine ⟨u, ?_, hvc.2 _ y u hc hu⟩
                  rw [← hu]; congr 1; omega
                · rename_i hin
                  rw [if_neg (by omega)]
                  obtain ⟨u, h1, h2⟩ := hr.cont hvirt e _ j y (getElem?_getD .undef he) hc
                  rw [hold] at h1
                  exact ⟨u, h1, h2⟩
            · rename_i hei
              obtain ⟨u, h1, h2⟩ := hr.cont hvirt i x j y hx hy
              have hj := (List.getElem?_eq_some_iff.1 hy).1
              rw [(hr.len i x hx).1] at hj
              refine ⟨u, ?_, h2⟩
              by_cases hB : (L.pos i).1 = (L.pos e).1
              · rw [hB] at h1 ⊢
                have hcell : (wrow w (L.pos e).1 ((L.pos e).2 + k) uv.cells.toList).cell? ⟨(L.pos e).1, (L.pos i).2 + j, none⟩ = cs'[(L.pos i).2 + j]? := by simp [World.cell?, g1]
                rw [hold] at h1
                rw [hcell, g3, hus, if_neg ?_]
                · exact h1
                · intro hin
                  have := hdis i (List.getElem?_eq_some_iff.1 hx).1 (fun h => hei h.symm) hB
                  omega
              · rw [cell_of_block (hW.other _ hB)]; exact h1
      split at h
      · rename_i hk
        obtain ⟨rfl, hk2⟩ := hk
        simp only [Option.some.injEq, Prod.mk.injEq] at h
        obtain ⟨rfl, rfl⟩ := h
        obtain ⟨he, hro, hok⟩ := hp
        have hst : ti.size = L.st := hk2.trans hr.st
        refine common he hro hok v (by rw [← hst]; exact hok) (by omega) (fun j y hy => ?_)
        have hj := (List.getElem?_eq_some_iff.1 hy).1
        rw [hok.1] at hj
        rw [if_pos (by omega)]
        exact hy
      · split at h
        · rename_i cs hx
          simp only [Option.some.injEq, Prod.mk.injEq] at h
          obtain ⟨rfl, rfl⟩ := h
          obtain ⟨he, hro, hok, hfit⟩ := hp
          have hel := hr.len e _ (getElem?_getD .undef he)
          rw [hx] at hel
          have hcl : cs.length = L.st := hel.1
          refine common he hro hok (.agg (splice cs k v.cells)) ⟨?_, ?_⟩ (by omega) (fun j y hy => ?_)
          · simp only [AV.cells_agg]
            rw [splice_length _ _ _ (by rw [hok.1]; omega), hcl]
          · intro y hy
            simp only [AV.cells_agg, splice, List.mem_append] at hy
            rcases hy with (hy | hy) | hy
            · exact hel.2 y (List.mem_of_mem_take hy)
            · exact hok.2 y hy
            · exact hel.2 y (List.mem_of_mem_drop hy)
          · simp only [AV.cells_agg] at hy
            rw [splice_get _ _ _ (by rw [hok.1]; omega), hok.1] at hy
            rw [hx]
            simp only [AV.cells_agg]
            split
            · rename_i hin; rw [if_neg (by omega), if_pos (by omega)] at hy; exact hy
            · rename_i hin
              split at hy
              · exact hy
              · rename_i h5; rw [if_neg (by omega)] at hy; exact hy
        · cases h
    · cases h
  · cases h
end

end Go.Av
namespace Go.Av

section
variable {P : Program} {ty : TypeId → Option TI} {G : Gh} {bx : List (Nat × Option Box)} {nx : Nat} {φ : Nat → Option Loc} {w : World}

def AppSrc (P : Program) (ei : TI) (z : Value) (w : World) (xt : TypeId) (x : Value) (n : Nat) (us : List Value) : Prop :=
  (∃ d, P.underlying xt = some d ∧ (∀ k, d ≠ .int k) ∧ (Builtin.lenOf x).run P w = .ok n w ∧
    (Builtin.lenOf x).run P w.drew = .ok n w.drew ∧ (Builtin.firstCells ei.size n x).run P w = .ok us.toArray w ∧ (Builtin.firstCells ei.size n x).run P w.drew = .ok us.toArray w.drew) ∨
  (∃ k k', P.underlying xt = some (.int k) ∧ x = .int k' (n : Int) ∧ (n : Int) ≤ 9223372036854775807 ∧ n * ei.bytes ≤ 140737488355328 ∧ us = (Builtin.zeroCells z.cells n).toList ∧ z.cells.size = ei.size)

theorem wrap_nat {n : Nat} (h : (n : Int) ≤ 9223372036854775807) : IntKind.i64.wrap (n : Int) = n := by
  rw [IntKind.wrap_i64]; omega

theorem run_append_fits (t xt ty' : TypeId) {e : TypeId} {ei : TI} {d : TypeDesc} {f : TypeInfo} {z : Value} (hu : P.underlying t = some (.slice e)) (T : TyAt P e ei d f z)
    {base : Option Addr} {len cap n : Nat} {x : Value} {us : List Value} (hs : AppSrc P ei z w xt x n us) (hfit : len + n ≤ cap) (hul : us.length = n * ei.size) :
    (Builtin.append_ #[t, xt] ty' #[.slice base len cap, x]).run P w =
      match base with
      | some a => ((storeCells (a.add (len * ei.size)) us).run P w).andThen fun _ w' => .ok (.slice base (len + n) cap) w'
      | none => .ok (.slice none (len + n) cap) w := by
  rcases hs with ⟨dx, h1, h2, h3, _, h4, _⟩ | ⟨k, k', h1, rfl, h3, h4, rfl, h6⟩
  · have hz : (match dx with | .int _ => true | _ => false) = false := by cases dx <;> first | rfl | exact absurd rfl (h2 _)
    have hzz : (underlying xt).run P w = .ok dx w := run_underlying h1 w
    cases base with
    | none =>
      simp [Builtin.append_, run_underlying hu, T.run_sizeOf, hzz, hz, h3, hfit, h4]
    | some a =>
      simp [Builtin.append_, run_underlying hu, T.run_sizeOf, hzz, hz, h3, hfit, h4]
  · have hzz : (underlying xt).run P w = .ok (.int k) w := run_underlying h1 w
    have hb : ¬ (281474976710656 < (n : Int) * (f.bytes : Int)) := by
      rw [T.bytes]
      have : ((n * ei.bytes : Nat) : Int) ≤ 140737488355328 := by omega
      rw [Int.natCast_mul] at this
      omega
    have hn0 : ¬ ((n : Int) < 0) := by omega
    by_cases h0 : n * ei.size = 0
    · have he : (Builtin.zeroCells z.cells n).toList = [] := by
        apply List.length_eq_zero_iff.1
        rw [hul, h0]
      cases base with
      | none => simp [Builtin.append_, run_underlying hu, T.run_sizeOf, T.run_info, hzz, asInt, asIntOf, wrap_nat h3, hb, hn0, hfit, h0]
      | some a => simp [Builtin.append_, run_underlying hu, T.run_sizeOf, T.run_info, hzz, asInt, asIntOf, wrap_nat h3, hb, hn0, hfit, h0, he]
    · cases base with
      | none => simp [Builtin.append_, run_underlying hu, T.run_sizeOf, T.run_info, T.run_zero, hzz, asInt, asIntOf, wrap_nat h3, hb, hn0, hfit, h0]
      | some a => simp [Builtin.append_, run_underlying hu, T.run_sizeOf, T.run_info, T.run_zero, hzz, asInt, asIntOf, wrap_nat h3, hb, hn0, hfit, h0]

theorem run_append_grows (t xt ty' : TypeId) {e : TypeId} {ei : TI} {d : TypeDesc} {f : TypeInfo} {z : Value} (hu : P.underlying t = some (.slice e)) (T : TyAt P e ei d f z)
    {base : Option Addr} {len cap n : Nat} {x : Value} {us olds : List Value} (hs : AppSrc P ei z w xt x n us) (hfit : ¬ (len + n ≤ cap)) (hul : us.length = n * ei.size)
    (hbytes : (len + n) * ei.bytes ≤ 140737488355328) (h63 : ((len + n : Nat) : Int) ≤ 9223372036854775807) (hpos : 0 < ei.bytes)
    (hold : (Builtin.firstCells ei.size len (.slice base len cap)).run P w.drew = .ok olds.toArray w.drew) :
    (Builtin.append_ #[t, xt] ty' #[.slice base len cap, x]).run P w =
      .ok (.slice (some ⟨w.heap.size, 0, none⟩) (len + n) (grownCap w (len + n) cap e))
        (w.drew.alloc (.cells (olds.toArray ++ us.toArray ++ Builtin.zeroCells z.cells (grownCap w (len + n) cap e - (len + n))) e)) := by
  have hcap : Builtin.nextslicecap (len + n) cap * f.bytes ≤ 281474976710656 := by
    rw [T.bytes]; exact growslice_fits (by omega) hbytes
  have h48 : ¬ (281474976710656 < Builtin.nextslicecap (len + n) cap * f.bytes) := by omega
  have h63' : ¬ (9223372036854775807 < ((len : Int) + (n : Int))) := by omega
  have hb0 : ¬ (f.bytes = 0) := by rw [T.bytes]; omega
  rcases hs with ⟨dx, h1, h2, h3, h3', h4, h4'⟩ | ⟨k, k', h1, rfl, h3, h4, rfl, h6⟩
  · have hz : (match dx with | .int _ => true | _ => false) = false := by cases dx <;> first | rfl | exact absurd rfl (h2 _)
    have hzz : (underlying xt).run P w = .ok dx w := run_underlying h1 w
    simp [Builtin.append_, run_underlying hu, T.run_sizeOf, T.run_info, T.run_zero, hzz, hz, h3, hfit, h4', hold, h63', h48, hb0, Question.forced, newRow, grownCap]
    congr 2
    apply Array.ext'
    simp [List.append_assoc]
  · have hzz : (underlying xt).run P w = .ok (.int k) w := run_underlying h1 w
    have hb : ¬ (281474976710656 < (n : Int) * (f.bytes : Int)) := by
      rw [T.bytes]
      have : ((n * ei.bytes : Nat) : Int) ≤ 140737488355328 := by omega
      rw [Int.natCast_mul] at this
      omega
    have hn0 : ¬ ((n : Int) < 0) := by omega
    by_cases h0 : n * ei.size = 0
    · have he : (Builtin.zeroCells z.cells n).toList = [] := by
        apply List.length_eq_zero_iff.1
        rw [hul, h0]
      have he' : Builtin.zeroCells z.cells n = #[] := by
        apply Array.ext'
        rw [he]
      simp [Builtin.append_, run_underlying hu, T.run_sizeOf, T.run_info, T.run_zero, hzz, asInt, asIntOf, wrap_nat h3, hb, hn0, hfit, h0, he', hold, h63', h48, hb0, Question.forced, newRow, grownCap]
    · simp [Builtin.append_, run_underlying hu, T.run_sizeOf, T.run_info, T.run_zero, hzz, asInt, asIntOf, wrap_nat h3, hb, hn0, hfit, h0, hold, h63', h48, hb0, Question.forced, newRow, grownCap]
end

end Go.Av
namespace Go.Av

def srcOf (ty : TypeId → Option TI) (bx : List (Nat × Option Box)) (ei : TI) (xt : TypeId) (x : AV) : Option (Prop × List AV) :=
  match (ty xt).map TI.k, x with
  | some (.slice _), .ls st _ _ ys => some (st = ei.size ∨ ys = [], ys)
  | some (.slice _), .sl id off len _ => match box? bx id with
    | some b => some (b.st = ei.size ∧ off + len ≤ b.elems.length, (b.elems.drop off).take len)
    | none => none
  | some .str, .str s => some (ei.size = 1, listOf s)
  | some (.int _), .int _ n => some (0 ≤ n ∧ n ≤ 9223372036854775807 ∧ n * (ei.bytes : Int) ≤ 140737488355328 ∧ okCells ei.size (zeroE ei), List.replicate n.toNat (zeroE ei))
  | _, _ => none

section
variable {P : Program} {ty : TypeId → Option TI} {G : Gh} {bx : List (Nat × Option Box)} {nx : Nat} {φ : Nat → Option Loc} {w : World}

theorem Adv.trans {bx1 bx2 : List (Nat × Option Box)} {nx1 nx2 : Nat} {φ1 φ2 : Nat → Option Loc} {w1 w2 : World} (h : Adv G bx φ w bx1 nx1 φ1 w1) (k : Adv G bx1 φ1 w1 bx2 nx2 φ2 w2) :
    Adv G bx φ w bx2 nx2 φ2 w2 :=
  ⟨k.rel, fun b o e => ⟨(k.cell b o (h.cell b o e).1).1, ((k.cell b o (h.cell b o e).1).2).trans (h.cell b o e).2⟩, fun id L e => k.loc id L (h.loc id L e)⟩

theorem Adv.ext (hrel : Rel G bx nx φ w) {w' : World} (h : Ext w w') : Adv G bx φ w bx nx φ w' := ⟨hrel.ext h, fun _ _ k => k.ext h, fun _ _ k => k⟩

theorem cells_of_list {ok : Nat → Nat → Prop} {st : Nat} {ys : List AV} (hlen : ∀ (i : Nat) (x : AV), ys[i]? = some x → okCells st x) {b o : Nat}
    (hc : ∀ (i : Nat) (x : AV) (j : Nat) (y : AV), ys[i]? = some x → x.cells[j]? = some y → ∃ v, w.cell? ⟨b, o + i * st + j, none⟩ = some v ∧ Rep w φ ok y v) :
    ∃ us : List Value, us.length = ys.length * st ∧ (∀ (k : Nat) (v : Value), us[k]? = some v → w.cell? ⟨b, o + k, none⟩ = some v) ∧ RepCells w φ ok (flatC ys) us := by
  have hfl := flatC_length ys (fun i x h => (hlen i x h).1)
  refine ⟨(List.range (ys.length * st)).map fun k => (w.cell? ⟨b, o + k, none⟩).getD Go.undef, by simp, fun k v hk => ?_, by simp [hfl], fun k y v hy hv => ?_⟩
  · have hlt : k < ys.length * st := by
      have := (List.getElem?_eq_some_iff.1 hk).1
      simpa using this
    obtain ⟨y, hy⟩ : ∃ y, (flatC ys)[k]? = some y := ⟨_, List.getElem?_eq_getElem (by rw [hfl]; exact hlt)⟩
    obtain ⟨x, h1, h2, h3⟩ := flatC_at ys (fun i x h => (hlen i x h).1) k y hy
    obtain ⟨u, h4, _⟩ := hc _ x _ y h1 h2
    have e : o + k / st * st + k % st = o + k := by
      have := Nat.div_add_mod k st
      rw [Nat.mul_comm] at this
      omega
    rw [e] at h4
    simp [hlt, h4] at hk
    rw [h4, hk]
  · obtain ⟨x, h1, h2, h3⟩ := flatC_at ys (fun i x h => (hlen i x h).1) k y hy
    obtain ⟨u, h4, h5⟩ := hc _ x _ y h1 h2
    have hlt : k < ys.length * st := by rw [← hfl]; exact (List.getElem?_eq_some_iff.1 hy).1
    have e : o + k / st * st + k % st = o + k := by
      have := Nat.div_add_mod k st
      rw [Nat.mul_comm] at this
      omega
    rw [e] at h4
    simp [hlt, h4] at hv
    rw [← hv]
    exact h5

theorem run_first {st n : Nat} {us : List Value} {b o l c : Nat} (hul : us.length = n * st) (h : ∀ (k : Nat) (v : Value), us[k]? = some v → w.cell? ⟨b, o + k, none⟩ = some v) :
    (Builtin.firstCells st n (.slice (some ⟨b, o, none⟩) l c)).run P w = .ok us.toArray w :=
  run_firstCells_some w st n ⟨b, o, none⟩ l c us hul (fun j v hj => by rw [Addr.add_lit]; exact h j v hj)

theorem run_first0 {st l c : Nat} (a : Option Addr) : (Builtin.firstCells st 0 (.slice a l c)).run P w = .ok #[] w := by
  cases a with
  | none => simp [Builtin.firstCells]
  | some a => exact run_firstCells_some w st 0 a l c [] (by simp) (fun j v hj => by simp at hj)

theorem zeroE_cells {P : Program} {t : TypeId} {i : TI} {d : TypeDesc} {f : TypeInfo} {z : Value} (T : TyAt P t i d f z) (h : okCells i.size (zeroE i)) : (zeroE i).cells = i.zero := by
  unfold zeroE at *
  cases ha : isAggK i.k with
  | true => simp [AV.cells]
  | false =>
    simp only [ha, Bool.false_eq_true, if_false] at h ⊢
    have hz := T.zer
    have hl : i.zero.length = i.size := by rw [hz]; simp [T.cells]
    cases hzz : i.zero with
    | nil =>
      rw [hzz] at hl h
      simp [AV.cells] at hl
      have := h.1
      simp [AV.cells] at this
      omega
    | cons y r =>
      rw [hzz] at h hl hz
      have hy : ∃ v, y = ofVal v := by
        cases hc : z.cells.toList with
        | nil => rw [hc] at hz; simp at hz
        | cons v vs => rw [hc] at hz; simp at hz; exact ⟨v, hz.1⟩
      obtain ⟨v, rfl⟩ := hy
      have h1 := h.1
      simp only [List.getD_cons_zero, ofVal_cells_one] at h1 ⊢
      simp at h1 hl
      have : r = [] := List.length_eq_zero_iff.1 (by omega)
      rw [this]

theorem flatC_replicate (n : Nat) (x : AV) (st : Nat) (hx : x.cells.length = st) : flatC (List.replicate n x) = zeros st x.cells n := by
  induction n with
  | zero => rfl
  | succ n ih =>
    simp only [flatC, List.replicate_succ, List.flatMap_cons] at ih ⊢
    rw [ih]
    simp [zeros, ← hx]

theorem zeroCells_eq (z : Array Value) (n s : Nat) (hs : z.size = s) : Builtin.zeroCells z n = (Array.range (n * s)).map (z[· % z.size]!) := by
  simp [Builtin.zeroCells, hs]

theorem src_ok (hty : TyOk P ty) (hrel : Rel G bx nx φ w) {e : TypeId} {ei : TI} {d : TypeDesc} {f : TypeInfo} {z : Value} (T : TyAt P e ei d f z) {xt : TypeId} {x : AV} {u : Value}
    (hx : Rep w φ (OK G bx φ w) x u) {q : Prop} {ys : List AV} (h : srcOf ty bx ei xt x = some (q, ys)) (hq : q) :
    (∀ (i : Nat) (x : AV), ys[i]? = some x → okCells ei.size x) ∧ ∃ us : List Value, us.length = ys.length * ei.size ∧ AppSrc P ei z w xt u ys.length us ∧ RepCells w φ (OK G bx φ w) (flatC ys) us := by
  unfold srcOf at h
  cases ht : ty xt with
  | none => simp [ht] at h
  | some ti =>
  obtain ⟨d', f', z', T'⟩ := hty.at ht
  simp only [ht, Option.map_some] at h
  split at h
  · rename_i e' st n ex ys' hk
    have hd := T'.slice (Option.some.inj hk)
    subst hd
    simp only [Option.some.injEq, Prod.mk.injEq] at h
    obtain ⟨rfl, rfl⟩ := h
    obtain ⟨a, c, rfl⟩ := hx.ls_val
    obtain ⟨_, hl, hc⟩ := hx.ls_cells
    have hlen := hx.ls_len
    have hlen' : ∀ (i : Nat) (x : AV), ys'[i]? = some x → okCells ei.size x := by
      intro i x hi
      rcases hq with hq | hq
      · rw [← hq]; exact hlen i x hi
      · subst hq; simp at hi
    refine ⟨hlen', ?_⟩
    by_cases hy0 : ys' = []
    · subst hy0
      refine ⟨[], by simp, .inl ⟨_, T'.und, fun k h => (by cases h), by simp [Builtin.lenOf], by simp [Builtin.lenOf], run_first0 a, run_first0 a⟩, by simp [flatC], fun i x v h => by simp [flatC] at h⟩
    · obtain ⟨b, o, rfl⟩ := hl.addr (List.length_pos_iff.2 hy0)
      obtain ⟨us, h1, h2, h3⟩ := cells_of_list (w := w) (φ := φ) (ok := OK G bx φ w) hlen' (b := b) (o := o) (fun i x j y hi hj => by
        obtain ⟨v, e1, _, e3⟩ := hc b o rfl i x j y hi hj
        rcases hq with hq | hq
        · rw [← hq]; exact ⟨v, e1, e3⟩
        · subst hq; simp at hi)
      refine ⟨us, h1, .inl ⟨_, T'.und, fun k h => (by cases h), by simp [Builtin.lenOf], by simp [Builtin.lenOf], run_first h1 h2, run_first h1 (w := w.drew) h2⟩, h3⟩
  · rename_i e' id off len cap hk
    split at h
    · rename_i b hb
      have hd := T'.slice (Option.some.inj hk)
      subst hd
      simp only [Option.some.injEq, Prod.mk.injEq] at h
      obtain ⟨rfl, rfl⟩ := h
      obtain ⟨hst, hfit⟩ := hq
      obtain ⟨L, hL, hr, _⟩ := hrel.box id b hb
      cases hx with | sl _ _ _ _ L' a c hL' hS =>
      obtain rfl : L = L' := by rw [hL] at hL'; exact Option.some.inj hL'
      have hstL : L.st = ei.size := by rw [← hr.st]; exact hst
      have hyl : ((b.elems.drop off).take len).length = len := by simp; omega
      have hget : ∀ (i : Nat) (x : AV), ((b.elems.drop off).take len)[i]? = some x → b.elems[off + i]? = some x ∧ i < len := by
        intro i x hi
        have := (List.getElem?_eq_some_iff.1 hi).1
        rw [hyl] at this
        rw [List.getElem?_take_of_lt this, List.getElem?_drop] at hi
        exact ⟨hi, this⟩
      have hlen' : ∀ (i : Nat) (x : AV), ((b.elems.drop off).take len)[i]? = some x → okCells ei.size x := by
        intro i x hi
        rw [← hstL]; exact hr.len _ x (hget i x hi).1
      refine ⟨hlen', ?_⟩
      obtain ⟨s1, s2, s3, s4, s5⟩ := hS
      by_cases h0 : len = 0
      · subst h0
        refine ⟨[], by simp, .inl ⟨_, T'.und, fun k h => (by cases h), ?_, ?_, ?_, ?_⟩, by simp [flatC], fun i x v h => by simp [flatC] at h⟩
        · simp [Builtin.lenOf]
        · simp [Builtin.lenOf]
        · cases a <;> simp [Builtin.firstCells, loadCells, loadCellsFrom]
        · cases a <;> simp [Builtin.firstCells, loadCells, loadCellsFrom]
      · obtain ⟨s6, ab, ao, s7, s8, s9, s10, s11⟩ := s5 (by omega)
        subst s7
        obtain ⟨us, h1, h2, h3⟩ := cells_of_list (w := w) (φ := φ) (ok := OK G bx φ w) hlen' (b := ab) (o := ao) (fun i x j y hi hj => by
          obtain ⟨g1, g2⟩ := hget i x hi
          obtain ⟨v, e1, e3⟩ := hr.cont s6 _ x j y g1 hj
          rw [s10 i (by omega), hstL] at e1
          exact ⟨v, e1, e3⟩)
        refine ⟨us, h1, .inl ⟨_, T'.und, fun k h => (by cases h), ?_, ?_, run_first h1 h2, run_first h1 (w := w.drew) h2⟩, h3⟩
        · simp only [hyl, Builtin.lenOf, Sem.run_pure]
        · simp only [hyl, Builtin.lenOf, Sem.run_pure]
    · cases h
  · rename_i s hk
    have hd := T'.str (Option.some.inj hk)
    subst hd
    simp only [Option.some.injEq, Prod.mk.injEq] at h
    obtain ⟨rfl, rfl⟩ := h
    cases hx
    have hll : (listOf s).length = s.size := by simp [listOf]
    have hok : ∀ (i : Nat) (x : AV), (listOf s)[i]? = some x → okCells ei.size x := by
      intro i x hi
      simp only [listOf, List.getElem?_map, Option.map_eq_some_iff] at hi
      obtain ⟨q, _, rfl⟩ := hi
      exact ⟨by rw [hq]; rfl, by simp [AV.cells, AV.cellOk]⟩
    refine ⟨hok, s.data.toList.map (fun b => Value.int .u8 b.toNat), by simp [hll, hq], .inl ⟨_, T'.und, fun k h => (by cases h), by simp [Builtin.lenOf, hll], by simp [Builtin.lenOf, hll], ?_, ?_⟩, ?_, ?_⟩
    · simp only [Builtin.firstCells, Sem.run_pure, hll]
      congr 1
      apply Array.ext'
      have : s.extract 0 s.size = s := by simp
      simp [this]
    · simp only [Builtin.firstCells, Sem.run_pure, hll]
      congr 1
      apply Array.ext'
      have : s.extract 0 s.size = s := by simp
      simp [this]
    · rw [flatC_length (st := 1) _ (fun i x h => by rw [← hq]; exact (hok i x h).1)]
      simp [hll]
    · intro i x v hi hv
      obtain ⟨y, h1, h2, _⟩ := flatC_at (st := 1) _ (fun i x h => by rw [← hq]; exact (hok i x h).1) i x hi
      simp only [Nat.div_one, Nat.mod_one] at h1 h2
      simp only [listOf, List.getElem?_map, Option.map_eq_some_iff] at h1 hv
      obtain ⟨q, g1, rfl⟩ := h1
      obtain ⟨q', g2, rfl⟩ := hv
      rw [g1] at g2
      obtain rfl := Option.some.inj g2
      simp [AV.cells] at h2
      subst h2
      exact .int _ _
  · rename_i k k' n hk
    have hd := T'.int (Option.some.inj hk)
    subst hd
    simp only [Option.some.injEq, Prod.mk.injEq] at h
    obtain ⟨rfl, rfl⟩ := h
    obtain ⟨h1, h2, h3, h4⟩ := hq
    cases hx
    have hzc := zeroE_cells T h4
    have hzl : ei.zero.length = ei.size := by rw [T.zer]; simp [T.cells]
    have hok : ∀ (i : Nat) (x : AV), (List.replicate n.toNat (zeroE ei))[i]? = some x → okCells ei.size x := by
      intro i x hi
      have := List.mem_of_getElem? hi
      rw [List.mem_replicate] at this
      rw [this.2]; exact h4
    have hn : ((n.toNat : Nat) : Int) = n := Int.toNat_of_nonneg h1
    refine ⟨hok, (Builtin.zeroCells z.cells n.toNat).toList, by simp [Builtin.zeroCells, T.cells], .inr ⟨k, k', T'.und, by simp [hn], by simp [hn]; exact h2, ?_, by simp, T.cells⟩, ?_⟩
    · simp only [List.length_replicate]
      have : ((n.toNat * ei.bytes : Nat) : Int) ≤ 140737488355328 := by rw [Int.natCast_mul, hn]; exact h3
      omega
    · rw [flatC_replicate _ _ ei.size (by rw [hzc, hzl]), hzc, zeroCells_eq _ _ ei.size T.cells]
      rcases Nat.eq_zero_or_pos ei.size with e | e
      · simp [e]
        have : zeros 0 ei.zero n.toNat = [] := by
          have := zeros_length 0 ei.zero (by omega) n.toNat
          exact List.length_eq_zero_iff.1 (by omega)
        rw [this]
        exact ⟨by simp [Array.range_zero'], fun i x v h => by simp at h⟩
      · exact zeros_rep (rep_zero T w φ _) hzl e n.toNat
  · cases h
end

end Go.Av
namespace Go.Av

def makeStep (ty : TypeId → Option TI) (bx : List (Nat × Option Box)) (nx : Nat) (t : TypeId) (l c : AV) : Option (Prop × AV × List (Nat × Option Box) × Nat) :=
  match (ty t).map TI.k, l, c with
  | some (.slice e), .int _ l, .int _ c => match ty e with
    | some ei => some (0 ≤ l ∧ l ≤ c ∧ (ei.bytes : Int) * c ≤ 281474976710656 ∧ c ≤ 9223372036854775807 ∧ okCells ei.size (zeroE ei) ∧ 0 < ei.size,
        .sl nx 0 l.toNat c.toNat, (nx, some ⟨List.replicate c.toNat (zeroE ei), ei.size, false, false⟩) :: bx, nx + 1)
    | none => none
  | _, _, _ => none

def appendStep (ty : TypeId → Option TI) (bx : List (Nat × Option Box)) (nx : Nat) (t xt : TypeId) (s x : AV) : Option (Prop × AV × List (Nat × Option Box) × Nat) :=
  match (ty t).map TI.k with
  | some (.slice e) => match ty e with
    | some ei => match srcOf ty bx ei xt x with
      | some (q, ys) => match s with
        | .sl id off len _ => match box? bx id with
          | some b => some (q ∧ b.st = ei.size ∧ off + len = b.elems.length ∧ (((len + ys.length) * ei.bytes : Nat) : Int) ≤ 140737488355328 ∧ 0 < ei.bytes,
              .sl nx 0 (len + ys.length) (len + ys.length), (nx, some ⟨b.elems.drop off ++ ys, ei.size, true, b.ro⟩) :: (id, none) :: bx, nx + 1)
          | none => none
        | .ls _ nil ex [] => some (q ∧ ex = true ∧ ((ys.length * ei.bytes : Nat) : Int) ≤ 140737488355328 ∧ 0 < ei.bytes,
              .sl nx 0 ys.length ys.length, (nx, some ⟨ys, ei.size, true, false⟩) :: bx, nx + 1)
        | _ => none
      | none => none
    | none => none
  | _ => none

def appVal (ty : TypeId → Option TI) (bx : List (Nat × Option Box)) (t xt : TypeId) (s x : AV) : Option (Prop × AV) :=
  match (ty t).map TI.k with
  | some (.slice e) => match ty e with
    | some ei => match srcOf ty bx ei xt x with
      | some (q, ys) => match s with
        | .ls st nil ex xs => some (q ∧ ex = true ∧ (st = ei.size ∨ xs = []) ∧ (((xs.length + ys.length) * ei.bytes : Nat) : Int) ≤ 140737488355328 ∧ 0 < ei.bytes, .ls ei.size (nil && ys.isEmpty) false (xs ++ ys))
        | _ => none
      | none => none
    | none => none
  | _ => none

section
variable {P : Program} {ty : TypeId → Option TI} {G : Gh} {bx : List (Nat × Option Box)} {nx : Nat} {φ : Nat → Option Loc} {w : World}

theorem new_row (hrel : Rel G bx nx φ w) {w1 : World} (hE : Ext w w1) (hsz : w1.heap.size = w.heap.size) {st : Nat} {E : List AV} {us : List Value} {rest : Array Value} (T : TypeId) {c : Nat} (slack : Bool)
    (hc : RepCells w φ (OK G bx φ w) (flatC E) us) (hlen : ∀ (i : Nat) (x : AV), E[i]? = some x → okCells st x) (hec : E.length ≤ c) (hcs : (us.toArray ++ rest).size = c * st) :
    Adv G bx φ w ((nx, some ⟨E, st, slack, false⟩) :: bx) (nx + 1) (upd φ nx (.one w.heap.size 0 st (c * st) slack false)) (w1.alloc (.cells (us.toArray ++ rest) T)) := by
  have hus : us.length = E.length * st := by rw [hc.1, flatC_length E (fun i x h => (hlen i x h).1)]
  have hE2 : Ext w (w1.alloc (.cells (us.toArray ++ rest) T)) := hE.trans (.alloc w1 _)
  refine hrel.add_box (L := .one w.heap.size 0 st (c * st) slack false) hE2 (fun _ k hk => Nat.le_of_eq hk.symm) rfl rfl hlen (fun h => by cases h) (fun _ => ?_) (fun _ i x j y hx hy => ?_)
  · refine lies_one ⟨us.toArray ++ rest, T, (0, 0), by simp [World.alloc, -World.alloc_eq, ← hsz], hcs, ?_, fun o _ => by simp⟩
    simp only [Nat.zero_add]
    exact Nat.mul_le_mul_right _ hec
  · have hf := flatC_get E (fun i x h => (hlen i x h).1) i x j y hx hy
    have hlt : i * st + j < us.length := by rw [hc.1]; exact (List.getElem?_eq_some_iff.1 hf).1
    have hv : us[i * st + j]? = some us[i * st + j] := List.getElem?_eq_getElem hlt
    refine ⟨_, ?_, hc.2 _ y _ hf hv⟩
    simp only [Loc.one, Nat.zero_add]
    rw [← hsz, World.cell?_alloc_new, Array.getElem?_append_left (by simpa using hlt), List.getElem?_toArray]
    exact hv

theorem rep_new_row {G : Gh} {bx' : List (Nat × Option Box)} {φ : Nat → Option Loc} {w' : World} {b st n len cap c : Nat} {slack : Bool} (nx : Nat) (h1 : len ≤ cap) (h2 : cap ≤ c) (h3 : slack = false → c = cap) (hn : n = c * st) :
    Rep w' (upd φ nx (.one b 0 st n slack false)) (OK G bx' (upd φ nx (.one b 0 st n slack false)) w') (.sl nx 0 len cap) (.slice (some ⟨b, 0, none⟩) len c) :=
  .sl nx 0 len cap (.one b 0 st n slack false) _ c (by simp [upd]) ⟨h1, h2, h3, fun x hx => (by simp at hx; rw [← hx]), fun _ => ⟨rfl, b, 0, rfl, rfl, by simp [Loc.one, hn], fun i _ => by simp [Loc.one], fun n _ => by simp [Loc.one]⟩⟩

theorem make_ok (hty : TyOk P ty) (hrel : Rel G bx nx φ w) {t : TypeId} {l c : AV} {ul uc : Value} (hl : Rep w φ (OK G bx φ w) l ul) (hc : Rep w φ (OK G bx φ w) c uc)
    {p : Prop} {r : AV} {bx' : List (Nat × Option Box)} {nx' : Nat} (h : makeStep ty bx nx t l c = some (p, r, bx', nx')) (hp : p) :
    ∃ v w' φ', (Instr.makeSlice t ul uc).run P w = .ok v w' ∧ Rep w' φ' (OK G bx' φ' w') r v ∧ Adv G bx φ w bx' nx' φ' w' := by
  unfold makeStep at h
  cases ht : ty t with
  | none => simp [ht] at h
  | some ti =>
  obtain ⟨d, f, z, T⟩ := hty.at ht
  simp only [ht, Option.map_some] at h
  split at h
  · rename_i e kl l' kc c' hk
    have hd := T.slice (Option.some.inj hk)
    subst hd
    split at h
    · rename_i ei hei
      obtain ⟨d', f', z', T'⟩ := hty.at hei
      simp only [Option.some.injEq, Prod.mk.injEq] at h
      obtain ⟨rfl, rfl, rfl, rfl⟩ := h
      obtain ⟨h1, h2, h3, h4, h5, h6⟩ := hp
      cases hl; cases hc
      have hzl : ei.zero.length = ei.size := by rw [T'.zer]; simp [T'.cells]
      have hzc := zeroE_cells T' h5
      refine ⟨_, _, upd φ nx (.one w.heap.size 0 ei.size (c'.toNat * ei.size) false false), run_make w t e f' z' T.und T'.info T'.zero kl kc l' c' h1 h2 (by rw [T'.bytes]; exact h3) h4, ?_, ?_⟩
      · exact rep_new_row (n := c'.toNat * ei.size) nx (by omega) (Nat.le_refl _) (fun _ => rfl) rfl
      · have hfl : flatC (List.replicate c'.toNat (zeroE ei)) = zeros ei.size ei.zero c'.toNat := by rw [flatC_replicate _ _ ei.size (by rw [hzc, hzl]), hzc]
        have hz : RepCells w φ (OK G bx φ w) (zeros ei.size ei.zero c'.toNat) (madeCells z'.cells (c'.toNat * f'.size)).toList := by
          rw [T'.size]
          exact zeros_rep (rep_zero T' w φ _) hzl h6 _
        have := new_row hrel (.refl w) rfl (st := ei.size) (E := List.replicate c'.toNat (zeroE ei)) (us := (madeCells z'.cells (c'.toNat * f'.size)).toList) (rest := #[]) e (c := c'.toNat) false (by rw [hfl]; exact hz)
          (fun i x hi => by have := List.mem_of_getElem? hi; rw [List.mem_replicate] at this; rw [this.2]; exact h5) (by simp) (by simp [size_madeCells, T'.size])
        simpa using this
    · cases h
  · cases h

theorem grown_ge (w : World) (need old : Nat) (e : TypeId) : need ≤ grownCap w need old e := by simp [grownCap, Question.cut]

theorem append_box (_hty : TyOk P ty) (hrel : Rel G bx nx φ w) {t xt : TypeId} (ty' : TypeId) {e : TypeId} {ei : TI} {d : TypeDesc} {f : TypeInfo} {z : Value} (hu : P.underlying t = some (.slice e)) (T : TyAt P e ei d f z)
    {id off len cap : Nat} {b : Box} (hb : box? bx id = some b) {us0 : Value} (hs : Rep w φ (OK G bx φ w) (.sl id off len cap) us0) {u : Value} {ys : List AV} {us : List Value}
    (hys : ∀ (i : Nat) (x : AV), ys[i]? = some x → okCells ei.size x) (hul : us.length = ys.length * ei.size) (hsrc : AppSrc P ei z w xt u ys.length us) (hus : RepCells w φ (OK G bx φ w) (flatC ys) us)
    (hst : b.st = ei.size) (hend : off + len = b.elems.length) (hbytes : (len + ys.length) * ei.bytes ≤ 140737488355328) (hpos : 0 < ei.bytes) :
    ∃ v w' φ', (Builtin.append_ #[t, xt] ty' #[us0, u]).run P w = .ok v w' ∧
      Rep w' φ' (OK G ((nx, some ⟨b.elems.drop off ++ ys, ei.size, true, b.ro⟩) :: (id, none) :: bx) φ' w') (.sl nx 0 (len + ys.length) (len + ys.length)) v ∧
      Adv G bx φ w ((nx, some ⟨b.elems.drop off ++ ys, ei.size, true, b.ro⟩) :: (id, none) :: bx) (nx + 1) φ' w' := by
  obtain ⟨L, hL, hr, hm⟩ := hrel.box id b hb
  cases hs with | sl _ _ _ _ L' a c hL' hS =>
  obtain rfl : L = L' := by rw [hL] at hL'; exact Option.some.inj hL'
  have hstL : L.st = ei.size := by rw [← hr.st]; exact hst
  obtain ⟨s1, s2, s3, s4, s5⟩ := hS
  have hidn : id ≠ nx := by intro e; subst e; rw [hrel.dom id (Nat.le_refl _)] at hL; cases hL
  have hdl : (b.elems.drop off).length = len := by simp; omega
  have hgetE : ∀ i : Nat, (b.elems.drop off ++ ys)[i]? = if i < len then b.elems[off + i]? else if i < len + ys.length then ys[i - len]? else b.elems[off + i]? := by
    intro i
    rw [List.getElem?_append, hdl]
    split
    · rw [List.getElem?_drop]
    · split
      · rfl
      · rw [List.getElem?_eq_none (by omega), List.getElem?_eq_none (by omega)]
  have hlenE : ∀ (i : Nat) (x : AV), (b.elems.drop off ++ ys)[i]? = some x → okCells ei.size x := by
    intro i x hx
    rw [hgetE] at hx
    split at hx
    · rw [← hstL]; exact hr.len _ x hx
    · split at hx
      · exact hys _ x hx
      · rw [← hstL]; exact hr.len _ x hx
  by_cases hfit : len + ys.length ≤ c
  · -- there is room
    by_cases hc0 : c = 0
    · -- nothing is there, nothing comes
      have hl0 : len = 0 := by omega
      have hy0 : ys = [] := List.length_eq_zero_iff.1 (by omega)
      subst hl0; subst hy0; subst hc0
      have hu0 : us = [] := List.length_eq_zero_iff.1 (by simpa using hul)
      subst hu0
      have hd0 : b.elems.drop off = [] := List.length_eq_zero_iff.1 hdl
      have hrun : (Builtin.append_ #[t, xt] ty' #[.slice a 0 0, u]).run P w = .ok (.slice a 0 0) w := by
        rw [run_append_fits t xt ty' hu T hsrc hfit hul]
        cases a <;> simp [storeCells]
      have hA := (hrel.add_box (.refl w) (L := (.one 0 0 ei.size 0 true true)) (b := ⟨[], ei.size, true, b.ro⟩) (fun h => (by cases h)) rfl rfl (fun i x h => (by simp at h)) (fun _ => rfl) (fun h => (by cases h)) (fun h => (by cases h)))
      have hW := hA.rel.weaken (bx' := (nx, some ⟨[], ei.size, true, b.ro⟩) :: (id, none) :: bx) (Nat.le_refl _) (fun i b' hi => by
        rw [box?_cons, box?_cons] at hi
        by_cases e1 : nx = i
        · rw [if_pos e1] at hi
          exact ⟨b', by rw [box?_cons, if_pos e1]; exact hi, rfl, rfl, rfl, fun h => h⟩
        · rw [if_neg e1] at hi
          by_cases e2 : id = i
          · rw [if_pos e2] at hi; cases hi
          · rw [if_neg e2] at hi
            exact ⟨b', by rw [box?_cons, if_neg e1]; exact hi, rfl, rfl, rfl, fun h => h⟩)
      rw [hd0]
      refine ⟨_, w, _, hrun, ?_, hA.trans hW⟩
      exact .sl nx 0 0 0 (.one 0 0 ei.size 0 true true) a 0 (by simp [upd]) ⟨Nat.le_refl _, Nat.le_refl _, fun h => (by cases h), s4, fun h => absurd rfl h⟩
    · obtain ⟨s6, ab, ao, s7, s8, s9, s10, s11⟩ := s5 hc0
      subst s7
      obtain ⟨cs, T0, fr, e1, e2, e4⟩ := (hr.lies s6).blk ab s8
      have hlc : len * L.st + us.length ≤ c * L.st := by
        rw [hul, ← hstL, ← Nat.add_mul]
        exact Nat.mul_le_mul_right _ hfit
      have hlc2 : (len + ys.length) * L.st ≤ c * L.st := Nat.mul_le_mul_right _ hfit
      have hW := wrote (b := ab) (T := T0) (fr := fr) us w (ao + len * L.st) cs e1 (by omega)
      have hrun : (Builtin.append_ #[t, xt] ty' #[.slice (some ⟨ab, ao, none⟩) len c, u]).run P w =
          .ok (.slice (some ⟨ab, ao, none⟩) (len + ys.length) c) (wrow w ab (ao + len * L.st) us) := by
        rw [run_append_fits t xt ty' hu T hsrc hfit hul]
        simp only [Addr.add_lit, ← hstL]
        rw [run_storeCells (P := P) (b := ab) (T := T0) (fr := fr) (ao + len * L.st) us w 0 cs e1 (by omega) (by rw [e2]; exact e4) (repCells_one_ok hus (by
          intro y hy
          obtain ⟨k, hk⟩ := List.getElem?_of_mem hy
          obtain ⟨x, g1, g2, _⟩ := flatC_at ys (fun i x h => (hys i x h).1) k y hk
          exact (hys _ x g1).2 y (List.mem_of_getElem? g2)))]
        simp
      have c2 := cont_row (B := ab) (o := ao) (m := len) (st := L.st) hW e1 hus (by rw [hstL]; exact hys) (E := b.elems.drop off ++ ys) (by rw [hstL]; exact hlenE) (fun i x j y hi hx hy => by
          rw [hgetE, if_pos hi] at hx
          obtain ⟨v, k1, k2⟩ := hr.cont s6 _ x j y hx hy
          rw [s10 i (by omega)] at k1
          exact ⟨v, k1, k2⟩) (fun i hi => by
          rw [List.getElem?_append_right (by omega), hdl])
      have hA := hrel.turn_box hb hL s6 s8 hW e1 (fun _ => by have := s11 b.elems.length (by omega); rwa [show b.elems.length - off = len by omega] at this) (b' := ⟨b.elems.drop off ++ ys, ei.size, true, b.ro⟩) (L' := .one ab ao L.st (L.size ab) true false)
        (fun k hk => by obtain rfl : k = ab := hk; exact s8) rfl hstL.symm rfl (by rw [show (Loc.one ab ao L.st (L.size ab) true false).st = ei.size from hstL]; exact hlenE) (lies_one (by
          obtain ⟨cs', g1, g2, _⟩ := hW.here
          refine ⟨cs', T0, fr, g1, by rw [g2, e2], ?_, e4⟩
          simp only [List.length_append, hdl]
          omega)) (fun h => ⟨h, fun k hk => by
          obtain rfl : k = ab := hk
          have := s11 b.elems.length (by omega)
          rw [show b.elems.length - off = len by omega] at this
          show _ ≤ ao + (b.elems.drop off ++ ys).length * L.st
          simp only [List.length_append, hdl, Nat.add_mul]
          omega⟩) c2
      refine ⟨_, _, _, hrun, ?_, hA⟩
      exact .sl nx 0 _ _ (.one ab ao L.st (L.size ab) true false) _ c (by simp [upd]) ⟨Nat.le_refl _, hfit, fun h => (by cases h), fun x hx => rfl, fun _ => ⟨rfl, ab, ao, rfl, rfl, s9, fun i _ => by simp [Loc.one], fun n _ => by simp [Loc.one]⟩⟩
  · -- a new row
    have hold : ∃ olds : List Value, olds.length = len * ei.size ∧ (Builtin.firstCells ei.size len (.slice a len c)).run P w.drew = .ok olds.toArray w.drew ∧ RepCells w φ (OK G bx φ w) (flatC (b.elems.drop off)) olds := by
      by_cases h0 : len = 0
      · subst h0
        have hd0 : b.elems.drop off = [] := List.length_eq_zero_iff.1 hdl
        refine ⟨[], by simp, ?_, by rw [hd0]; exact ⟨rfl, fun i x v h => (by simp [flatC] at h)⟩⟩
        cases a <;> simp [Builtin.firstCells, loadCells, loadCellsFrom]
      · obtain ⟨s6, ab, ao, s7, s8, s9, s10, s11⟩ := s5 (by omega)
        subst s7
        obtain ⟨olds, g1, g2, g3⟩ := cells_of_list (w := w) (φ := φ) (ok := OK G bx φ w) (ys := b.elems.drop off) (st := ei.size) (fun i x hi => by
            rw [List.getElem?_drop] at hi; rw [← hstL]; exact hr.len _ x hi) (b := ab) (o := ao) (fun i x j y hi hj => by
          have hi2 := (List.getElem?_eq_some_iff.1 hi).1
          rw [List.getElem?_drop] at hi
          obtain ⟨v, e1, e3⟩ := hr.cont s6 _ x j y hi hj
          rw [s10 i (by omega), hstL] at e1
          exact ⟨v, e1, e3⟩)
        rw [hdl] at g1
        exact ⟨olds, g1, run_first g1 (w := w.drew) g2, g3⟩
    obtain ⟨olds, g1, g2, g3⟩ := hold
    have h63 : ((len + ys.length : Nat) : Int) ≤ 9223372036854775807 := by
      have : (len + ys.length) * 1 ≤ (len + ys.length) * ei.bytes := Nat.mul_le_mul_left _ hpos
      omega
    have hrun := run_append_grows t xt ty' hu T (base := a) (cap := c) hsrc hfit hul hbytes h63 hpos g2
    have hall : RepCells w φ (OK G bx φ w) (flatC (b.elems.drop off ++ ys)) (olds ++ us) := by
      have : flatC (b.elems.drop off ++ ys) = flatC (b.elems.drop off) ++ flatC ys := by simp [flatC]
      rw [this]
      refine ⟨by simp [g3.1, hus.1], fun i x v hi hv => ?_⟩
      rw [List.getElem?_append] at hi hv
      rw [g3.1] at hv
      split at hi
      · rename_i hlt; rw [if_pos hlt] at hv; exact g3.2 i x v hi hv
      · rename_i hlt; rw [if_neg hlt] at hv; exact hus.2 _ x v hi hv
    have hgr := grown_ge w (len + ys.length) c e
    have hA := new_row hrel (.drew w) rfl (st := ei.size) (E := b.elems.drop off ++ ys) (us := olds ++ us) (rest := Builtin.zeroCells z.cells (grownCap w (len + ys.length) c e - (len + ys.length))) e
      (c := grownCap w (len + ys.length) c e) true hall hlenE (by simp only [List.length_append, hdl]; exact hgr) (by
        simp only [Array.size_append, List.size_toArray, List.length_append, g1, hul]
        simp only [Builtin.zeroCells, Array.size_map, Array.size_range, T.cells, ← Nat.add_mul]
        congr 1
        omega)
    have hW := hA.rel.weaken (bx' := (nx, some ⟨b.elems.drop off ++ ys, ei.size, true, b.ro⟩) :: (id, none) :: bx) (Nat.le_refl _) (fun i b' hi => by
        rw [box?_cons, box?_cons] at hi
        by_cases e1 : nx = i
        · rw [if_pos e1] at hi
          obtain rfl := Option.some.inj hi
          exact ⟨⟨b.elems.drop off ++ ys, ei.size, true, false⟩, by rw [box?_cons, if_pos e1], rfl, rfl, rfl, fun h => (by cases h)⟩
        · rw [if_neg e1] at hi
          by_cases e2 : id = i
          · rw [if_pos e2] at hi; cases hi
          · rw [if_neg e2] at hi
            exact ⟨b', by rw [box?_cons, if_neg e1]; exact hi, rfl, rfl, rfl, fun h => h⟩)
    refine ⟨.slice (some ⟨w.heap.size, 0, none⟩) (len + ys.length) (grownCap w (len + ys.length) c e), _, _, ?_, ?_, hA.trans hW⟩
    · rw [hrun]
      congr 3
      apply Array.ext'
      simp
    · exact rep_new_row nx (Nat.le_refl _) hgr (fun h => (by cases h)) rfl
end

end Go.Av
namespace Go.Av

section
variable {P : Program} {ty : TypeId → Option TI} {G : Gh} {bx : List (Nat × Option Box)} {nx : Nat} {φ : Nat → Option Loc} {w : World}

theorem LsOk.cap_eq {n e : Bool} {k : Nat} {a : Option Addr} {c : Nat} (h : LsOk n e k a c) (hne : e = true) : c = k := h.2.1 hne

theorem append_new (hrel : Rel G bx nx φ w) {t xt : TypeId} (ty' : TypeId) {e : TypeId} {ei : TI} {d : TypeDesc} {f : TypeInfo} {z : Value} (hu : P.underlying t = some (.slice e)) (T : TyAt P e ei d f z)
    {st : Nat} {nil ex : Bool} {us0 : Value} (hs : Rep w φ (OK G bx φ w) (.ls st nil ex []) us0) (hne : ex = true) {u : Value} {ys : List AV} {us : List Value}
    (hys : ∀ (i : Nat) (x : AV), ys[i]? = some x → okCells ei.size x) (hul : us.length = ys.length * ei.size) (hsrc : AppSrc P ei z w xt u ys.length us) (hus : RepCells w φ (OK G bx φ w) (flatC ys) us)
    (hbytes : ys.length * ei.bytes ≤ 140737488355328) (hpos : 0 < ei.bytes) :
    ∃ v w' φ', (Builtin.append_ #[t, xt] ty' #[us0, u]).run P w = .ok v w' ∧
      Rep w' φ' (OK G ((nx, some ⟨ys, ei.size, true, false⟩) :: bx) φ' w') (.sl nx 0 ys.length ys.length) v ∧
      Adv G bx φ w ((nx, some ⟨ys, ei.size, true, false⟩) :: bx) (nx + 1) φ' w' := by
  obtain ⟨a, c, rfl⟩ := hs.ls_val
  obtain ⟨_, hl, _⟩ := hs.ls_cells
  have hc := hl.cap_eq hne
  simp only [List.length_nil] at hc ⊢
  subst hc
  have hspot : ∀ x, a = some x → x.spot = x.spot := hl.2.2.2.2.2
  by_cases hy0 : ys = []
  · subst hy0
    have hu0 : us = [] := List.length_eq_zero_iff.1 (by simpa using hul)
    subst hu0
    have hrun : (Builtin.append_ #[t, xt] ty' #[.slice a 0 0, u]).run P w = .ok (.slice a 0 0) w := by
      rw [run_append_fits t xt ty' hu T hsrc (by simp) hul]
      cases a <;> simp [storeCells]
    have hA := (hrel.add_box (.refl w) (L := (.one 0 0 ei.size 0 true true)) (b := ⟨[], ei.size, true, false⟩) (fun h => (by cases h)) rfl rfl (fun i x h => (by simp at h)) (fun _ => rfl) (fun h => (by cases h)) (fun h => (by cases h)))
    refine ⟨_, w, _, hrun, ?_, hA⟩
    exact .sl nx 0 0 0 (.one 0 0 ei.size 0 true true) a 0 (by simp [upd]) ⟨Nat.le_refl _, Nat.le_refl _, fun h => (by cases h), hspot, fun h => absurd rfl h⟩
  · have hypos : 0 < ys.length := List.length_pos_iff.2 hy0
    have g2 : (Builtin.firstCells ei.size 0 (.slice a 0 0)).run P w.drew = .ok ([] : List Value).toArray w.drew := by
      cases a <;> simp [Builtin.firstCells, loadCells, loadCellsFrom]
    have h63 : ((0 + ys.length : Nat) : Int) ≤ 9223372036854775807 := by
      have : ys.length * 1 ≤ ys.length * ei.bytes := Nat.mul_le_mul_left _ hpos
      omega
    have hrun := run_append_grows t xt ty' hu T (base := a) (len := 0) (cap := 0) hsrc (by omega) hul (by rw [Nat.zero_add]; exact hbytes) h63 hpos g2
    have hgr := grown_ge w (0 + ys.length) 0 e
    have hA := new_row hrel (.drew w) rfl (st := ei.size) (E := ys) (us := us) (rest := Builtin.zeroCells z.cells (grownCap w (0 + ys.length) 0 e - (0 + ys.length))) e
      (c := grownCap w (0 + ys.length) 0 e) true hus hys (by omega) (by
        simp only [Array.size_append, List.size_toArray, hul]
        simp only [Builtin.zeroCells, Array.size_map, Array.size_range, T.cells, ← Nat.add_mul]
        congr 1
        omega)
    refine ⟨.slice (some ⟨w.heap.size, 0, none⟩) ys.length (grownCap w (0 + ys.length) 0 e), _, _, ?_, ?_, hA⟩
    · rw [hrun]
      simp
    · exact rep_new_row nx (Nat.le_refl _) (by omega) (fun h => (by cases h)) rfl

theorem rep_ls_new {w1 : World} (hrel : Rel G bx nx φ w) (hE : Ext w w1) (hsz : w1.heap.size = w.heap.size) {st : Nat} {E : List AV} {us : List Value} {rest : Array Value} (T : TypeId) {c : Nat} {ex : Bool}
    (hc : RepCells w φ (OK G bx φ w) (flatC E) us) (hlen : ∀ (i : Nat) (x : AV), E[i]? = some x → okCells st x) (hec : E.length ≤ c) (hex : ex = true → c = E.length) :
    Rep (w1.alloc (.cells (us.toArray ++ rest) T)) φ (OK G bx φ (w1.alloc (.cells (us.toArray ++ rest) T))) (.ls st false ex E) (.slice (some ⟨w.heap.size, 0, none⟩) E.length c) := by
  have hE2 : Ext w (w1.alloc (.cells (us.toArray ++ rest) T)) := hE.trans (.alloc w1 _)
  refine Rep.mk_ls ⟨hec, hex, fun h => (by cases h), fun _ => (by nofun), fun _ => ⟨_, _, rfl⟩, fun x hx => (by cases hx; rfl)⟩ hlen ?_
  intro b o hbo i x j y hx hy
  simp only [Option.some.injEq, Addr.mk.injEq] at hbo
  obtain ⟨rfl, rfl, _⟩ := hbo
  have hf := flatC_get E (fun i x h => (hlen i x h).1) i x j y hx hy
  have hlt : i * st + j < us.length := by rw [hc.1]; exact (List.getElem?_eq_some_iff.1 hf).1
  have hv : us[i * st + j]? = some us[i * st + j] := List.getElem?_eq_getElem hlt
  refine ⟨_, ?_, hrel.ok_new (Nat.le_refl _) (by rw [← hsz]; simp), (hc.2 _ y _ hf hv).ext hE2⟩
  simp only [Nat.zero_add]
  rw [← hsz, World.cell?_alloc_new, Array.getElem?_append_left (by simpa using hlt), List.getElem?_toArray]
  exact hv

theorem append_val (hrel : Rel G bx nx φ w) {t xt : TypeId} (ty' : TypeId) {e : TypeId} {ei : TI} {d : TypeDesc} {f : TypeInfo} {z : Value} (hu : P.underlying t = some (.slice e)) (T : TyAt P e ei d f z)
    {st : Nat} {nil ex : Bool} {xs : List AV} {us0 : Value} (hs : Rep w φ (OK G bx φ w) (.ls st nil ex xs) us0) (hne : ex = true) (hst : st = ei.size ∨ xs = []) {u : Value} {ys : List AV} {us : List Value}
    (hys : ∀ (i : Nat) (x : AV), ys[i]? = some x → okCells ei.size x) (hul : us.length = ys.length * ei.size) (hsrc : AppSrc P ei z w xt u ys.length us) (hus : RepCells w φ (OK G bx φ w) (flatC ys) us)
    (hbytes : (xs.length + ys.length) * ei.bytes ≤ 140737488355328) (hpos : 0 < ei.bytes) :
    ∃ v w', (Builtin.append_ #[t, xt] ty' #[us0, u]).run P w = .ok v w' ∧ Ext w w' ∧ Rep w' φ (OK G bx φ w') (.ls ei.size (nil && ys.isEmpty) false (xs ++ ys)) v := by
  obtain ⟨a, c, rfl⟩ := hs.ls_val
  obtain ⟨_, hl, hcell⟩ := hs.ls_cells
  have hlen := hs.ls_len
  have hlen' : ∀ (i : Nat) (x : AV), xs[i]? = some x → okCells ei.size x := by
    intro i x hi
    rcases hst with h | h
    · rw [← h]; exact hlen i x hi
    · subst h; simp at hi
  have hc := hl.cap_eq hne
  subst hc
  by_cases hy0 : ys = []
  · subst hy0
    have hu0 : us = [] := List.length_eq_zero_iff.1 (by simpa using hul)
    subst hu0
    have hrun : (Builtin.append_ #[t, xt] ty' #[.slice a xs.length xs.length, u]).run P w = .ok (.slice a xs.length xs.length) w := by
      rw [run_append_fits t xt ty' hu T hsrc (by simp) hul]
      cases a <;> simp [storeCells]
    refine ⟨_, w, hrun, .refl w, ?_⟩
    simp only [List.isEmpty_nil, Bool.and_true, List.append_nil]
    refine Rep.mk_ls ⟨hl.1, fun h => (by cases h), fun _ h => (by cases h), hl.2.2.2⟩ hlen' ?_
    intro b o ha i x j y hx hy
    rcases hst with h | h
    · rw [← h]; exact hcell b o ha i x j y hx hy
    · subst h; simp at hx
  · have hypos : 0 < ys.length := List.length_pos_iff.2 hy0
    have hold : ∃ olds : List Value, olds.length = xs.length * ei.size ∧ (Builtin.firstCells ei.size xs.length (.slice a xs.length xs.length)).run P w.drew = .ok olds.toArray w.drew ∧ RepCells w φ (OK G bx φ w) (flatC xs) olds := by
      by_cases hx0 : xs = []
      · subst hx0
        exact ⟨[], by simp, run_first0 a, ⟨rfl, fun i x v h => (by simp [flatC] at h)⟩⟩
      · obtain ⟨b, o, rfl⟩ := hl.addr (List.length_pos_iff.2 hx0)
        obtain ⟨olds, g1, g2, g3⟩ := cells_of_list (w := w) (φ := φ) (ok := OK G bx φ w) hlen' (b := b) (o := o) (fun i x j y hi hj => by
          obtain ⟨v, e1, _, e3⟩ := hcell b o rfl i x j y hi hj
          rcases hst with h | h
          · rw [← h]; exact ⟨v, e1, e3⟩
          · subst h; simp at hi)
        exact ⟨olds, g1, run_first g1 (w := w.drew) g2, g3⟩
    obtain ⟨olds, g1, g2, g3⟩ := hold
    have h63 : ((xs.length + ys.length : Nat) : Int) ≤ 9223372036854775807 := by
      have : (xs.length + ys.length) * 1 ≤ (xs.length + ys.length) * ei.bytes := Nat.mul_le_mul_left _ hpos
      omega
    have hrun := run_append_grows t xt ty' hu T (base := a) (cap := xs.length) hsrc (by omega) hul hbytes h63 hpos g2
    have hgr := grown_ge w (xs.length + ys.length) xs.length e
    have hall : RepCells w φ (OK G bx φ w) (flatC (xs ++ ys)) (olds ++ us) := by
      have : flatC (xs ++ ys) = flatC xs ++ flatC ys := by simp [flatC]
      rw [this]
      refine ⟨by simp [g3.1, hus.1], fun i x v hi hv => ?_⟩
      rw [List.getElem?_append] at hi hv
      rw [g3.1] at hv
      split at hi
      · rename_i hlt; rw [if_pos hlt] at hv; exact g3.2 i x v hi hv
      · rename_i hlt; rw [if_neg hlt] at hv; exact hus.2 _ x v hi hv
    have hlenE : ∀ (i : Nat) (x : AV), (xs ++ ys)[i]? = some x → okCells ei.size x := by
      intro i x hx
      rw [List.getElem?_append] at hx
      split at hx
      · exact hlen' i x hx
      · exact hys _ x hx
    have hR := rep_ls_new hrel (.drew w) rfl (st := ei.size) (E := xs ++ ys) (us := olds ++ us) (rest := Builtin.zeroCells z.cells (grownCap w (xs.length + ys.length) xs.length e - (xs.length + ys.length))) e
      (c := grownCap w (xs.length + ys.length) xs.length e) (ex := false) hall hlenE (by simp only [List.length_append]; exact hgr) (fun h => (by cases h))
    have hne' : (nil && ys.isEmpty) = false := by
      cases ys with
      | nil => exact absurd rfl hy0
      | cons _ _ => simp
    rw [hne']
    rw [List.length_append] at hR
    refine ⟨_, _, ?_, (Ext.drew w).trans (.alloc _ _), hR⟩
    rw [hrun]
    congr 3
    apply Array.ext'
    simp
end

end Go.Av
namespace Go.Av

def clearStep (ty : TypeId → Option TI) (bx : List (Nat × Option Box)) (t : TypeId) (s : AV) : Option (Prop × List (Nat × Option Box)) :=
  match (ty t).map TI.k, s with
  | some (.slice e), .sl id off len _ => match ty e, box? bx id with
    | some ei, some b => some (b.st = ei.size ∧ b.ro = false ∧ off + len ≤ b.elems.length ∧ okCells ei.size (zeroE ei) ∧ 0 < ei.size,
        (id, some { b with elems := splice b.elems off (List.replicate len (zeroE ei)) }) :: bx)
    | _, _ => none
  | _, _ => none

def memStep (ty : TypeId → Option TI) (bx : List (Nat × Option Box)) (nx : Nat) (get : Operand → AV) : Op → Option (Prop × AV × List (Nat × Option Box) × Nat)
  | .alloc t => match ty t with
    | some ti => some (okCells ti.size (zeroE ti), .ptr nx 0 0, (nx, some ⟨[zeroE ti], ti.size, false, false⟩) :: bx, nx + 1)
    | none => none
  | .box t x => match ty t with
    | some ti => some (okCells ti.size (get x), .ptr nx 0 0, (nx, some ⟨[get x], ti.size, false, false⟩) :: bx, nx + 1)
    | none => none
  | .store t a x => (storeStep ty bx t (get a) (get x)).map fun r => (r.1, .undef, r.2, nx)
  | .makeSlice t l c => makeStep ty bx nx t (get l) (get c)
  | .call { callee := .builtin b, args, argTypes } => match b, args.toList, argTypes.toList with
    | .append, [s, x], [t, xt] => appendStep ty bx nx t xt (get s) (get x)
    | .clear, [s], [t] => (clearStep ty bx t (get s)).map fun r => (r.1, .tup [], r.2, nx)
    | _, _, _ => none
  | _ => none

def makeVal (ty : TypeId → Option TI) (t : TypeId) (l c : AV) : Option (Prop × AV) := match (ty t).map TI.k, l, c with
  | some (.slice e), .int _ ln, .int _ cp => match ty e with
    | some ei => some (0 ≤ ln ∧ ln = cp ∧ (ei.bytes : Int) * cp ≤ 281474976710656 ∧ cp ≤ 9223372036854775807 ∧ cp.toNat * ei.size ≤ 16777216 ∧ 0 < ei.size ∧
        (∀ x ∈ chunk (isAggK ei.k) ei.size cp.toNat (zeros ei.size ei.zero cp.toNat), okCells ei.size x ∧ (isAggK ei.k || x.flat) = true), .ls ei.size false true (chunk (isAggK ei.k) ei.size cp.toNat (zeros ei.size ei.zero cp.toNat)))
    | none => none
  | _, _, _ => none

def valStep (ty : TypeId → Option TI) (bx : List (Nat × Option Box)) (get : Operand → AV) (o : Op) : Option (Prop × AV) :=
  match o with
  | .call { callee := .builtin .append, args, argTypes } => match args.toList, argTypes.toList with
    | [s, x], [t, xt] => appVal ty bx t xt (get s) (get x)
    | _, _ => none
  | .makeSlice t l c => makeVal ty t (get l) (get c)
  | o => opVal ty bx get o

section
variable {P : Program} {ty : TypeId → Option TI} {G : Gh} {bx : List (Nat × Option Box)} {nx : Nat} {φ : Nat → Option Loc} {w : World}

theorem slice_und (hty : TyOk P ty) {t : TypeId} {e : TypeId} (h : (ty t).map TI.k = some (.slice e)) : P.underlying t = some (.slice e) := by
  cases ht : ty t with
  | none => simp [ht] at h
  | some ti =>
    obtain ⟨d, f, z, T⟩ := hty.at ht
    simp only [ht, Option.map_some, Option.some.injEq] at h
    have := T.slice h
    subst this
    exact T.und

theorem clear_ok (hty : TyOk P ty) (hrel : Rel G bx nx φ w) {t : TypeId} {s : AV} {u : Value} (hs : Rep w φ (OK G bx φ w) s u) (ty' : TypeId)
    {p : Prop} {bx' : List (Nat × Option Box)} (h : clearStep ty bx t s = some (p, bx')) (hp : p) :
    ∃ w', (Builtin.clear_ #[t] ty' #[u]).run P w = .ok (.tuple #[]) w' ∧ Adv G bx φ w bx' nx φ w' := by
  unfold clearStep at h
  split at h
  · rename_i e id off len cap hk
    have hund := slice_und hty hk
    split at h
    · rename_i ei b hei hb
      obtain ⟨d, f, z, T⟩ := hty.at hei
      simp only [Option.some.injEq, Prod.mk.injEq] at h
      obtain ⟨rfl, rfl⟩ := h
      obtain ⟨hst, hro, hfit, hz, hpos⟩ := hp
      obtain ⟨L, hL, hr, hm⟩ := hrel.box id b hb
      cases hs with | sl _ _ _ _ L' a c hL' hS =>
      obtain rfl : L = L' := by rw [hL] at hL'; exact Option.some.inj hL'
      have hstL : L.st = ei.size := by rw [← hr.st]; exact hst
      obtain ⟨s1, s2, s3, s4, s5⟩ := hS
      have hzl : ei.zero.length = ei.size := by rw [T.zer]; simp [T.cells]
      have hzc := zeroE_cells T hz
      by_cases h0 : len = 0
      · subst h0
        refine ⟨w, ?_, ?_⟩
        · cases a <;> simp [Builtin.clear_, run_underlying hund]
        · have hW := hrel.weaken (bx' := (id, some { b with elems := splice b.elems off (List.replicate 0 (zeroE ei)) }) :: bx) (Nat.le_refl _) (fun i b' hi => by
            rw [box?_cons] at hi
            by_cases e1 : id = i
            · rw [if_pos e1] at hi
              obtain rfl := Option.some.inj hi
              exact ⟨b, by rw [← e1]; exact hb, by simp [splice], rfl, rfl, fun h => h⟩
            · rw [if_neg e1] at hi
              exact ⟨b', hi, rfl, rfl, rfl, fun h => h⟩)
          exact hW
      · obtain ⟨s6, ab, ao, s7, s8, s9, s10, s11⟩ := s5 (by omega)
        subst s7
        obtain ⟨cs, T0, fr, e1, e2, e4⟩ := (hr.lies s6).blk ab s8
        have hus : RepCells w φ (OK G bx φ w) (flatC (List.replicate len (zeroE ei))) (Builtin.zeroCells z.cells len).toList := by
          rw [flatC_replicate _ _ ei.size (by rw [hzc, hzl]), hzc, zeroCells_eq _ _ ei.size T.cells]
          exact zeros_rep (rep_zero T w φ _) hzl hpos len
        have hys : ∀ (i : Nat) (x : AV), (List.replicate len (zeroE ei))[i]? = some x → okCells L.st x := by
          intro i x hi
          have := List.mem_of_getElem? hi
          rw [List.mem_replicate] at this
          rw [this.2, hstL]; exact hz
        have hul : (Builtin.zeroCells z.cells len).toList.length = len * L.st := by simp [Builtin.zeroCells, T.cells, hstL]
        have hlc : len * L.st ≤ c * L.st := Nat.mul_le_mul_right _ (by omega)
        have hW := wrote (b := ab) (T := T0) (fr := fr) (Builtin.zeroCells z.cells len).toList w ao cs e1 (by rw [hul]; omega)
        have hspl : ∀ i : Nat, (splice b.elems off (List.replicate len (zeroE ei)))[i]? = if i < off then b.elems[i]? else if i < off + (List.replicate len (zeroE ei)).length then (List.replicate len (zeroE ei))[i - off]? else b.elems[i]? := by
          intro i
          rw [splice_get _ _ _ (by simp; omega)]
        obtain ⟨c1, c2⟩ := cont_in hr s6 (k := off) (ys := List.replicate len (zeroE ei)) hW e1 (fun i hi => s10 i (by simp at hi; omega)) (by simp; omega) hus hys hspl
        refine ⟨_, ?_, hrel.store_box hb hL s6 s8 hW e1 hro (b' := { b with elems := splice b.elems off (List.replicate len (zeroE ei)) }) rfl rfl hro (splice_length _ _ _ (by simp; omega)) c1 c2⟩
        have hst2 := run_storeCells (P := P) (b := ab) (T := T0) (fr := fr) ao (Builtin.zeroCells z.cells len).toList w 0 cs e1 (by rw [hul]; omega) (by rw [e2]; exact e4)
          (repCells_one_ok hus (by
            intro y hy
            obtain ⟨k, hk⟩ := List.getElem?_of_mem hy
            obtain ⟨x, g1, g2, _⟩ := flatC_at _ (fun i x h => (hys i x h).1) k y hk
            exact (hys _ x g1).2 y (List.mem_of_getElem? g2)))
        obtain ⟨len, rfl⟩ : ∃ m, len = m + 1 := ⟨len - 1, by omega⟩
        rw [Nat.add_zero] at hst2
        simp [Builtin.clear_, run_underlying hund, T.run_zero, hst2]
    · cases h
  · cases h

theorem memStep_ok (hty : TyOk P ty) (hrel : Rel G bx nx φ w) {get : Operand → AV} {ρ : Operand → Value} (hget : ∀ x, Rep w φ (OK G bx φ w) (get x) (ρ x)) {o : Oper} {p : Prop} {r : AV}
    {bx' : List (Nat × Option Box)} {nx' : Nat} (h : memStep ty bx nx get o.op = some (p, r, bx', nx')) (hp : p) :
    ∃ w' φ', Adv G bx φ w bx' nx' φ' w' ∧ ((∃ v, (execOp ρ o).run P w = .ok (.value v) w' ∧ Rep w' φ' (OK G bx' φ' w') r v) ∨ ((execOp ρ o).run P w = .ok .skip w' ∧ r = .undef)) := by
  obtain ⟨dst, op, type, pos, after, guard⟩ := o
  cases op with
  | alloc t =>
    simp only [memStep] at h
    split at h
    · rename_i ti ht
      simp only [Option.some.injEq, Prod.mk.injEq] at h
      obtain ⟨rfl, rfl, rfl, rfl⟩ := h
      obtain ⟨d, f, z, T⟩ := hty.at ht
      have hz : RepCells w φ (OK G bx φ w) (zeroE ti).cells z.cells.toList := by rw [zeroE_cells T hp]; exact rep_zero T w φ _
      obtain ⟨h1, h2⟩ := new_var hrel t hz hp
      exact ⟨_, _, h1, .inl ⟨_, by simp [execOp, Instr.alloc, T.run_zero, newVar, newRow], h2⟩⟩
    · cases h
  | box t x =>
    simp only [memStep] at h
    split at h
    · rename_i ti ht
      simp only [Option.some.injEq, Prod.mk.injEq] at h
      obtain ⟨rfl, rfl, rfl, rfl⟩ := h
      obtain ⟨h1, h2⟩ := new_var hrel t (repCells_one (hget x) hp) hp
      exact ⟨_, _, h1, .inl ⟨_, by simp [execOp, Instr.box, newVar, newRow], h2⟩⟩
    · cases h
  | store t a x =>
    simp only [memStep] at h
    cases hq : storeStep ty bx t (get a) (get x) with
    | none => simp [hq] at h
    | some q =>
      obtain ⟨q, bx2⟩ := q
      simp only [hq, Option.map_some, Option.some.injEq, Prod.mk.injEq] at h
      obtain ⟨rfl, rfl, rfl, rfl⟩ := h
      obtain ⟨w', h1, h2⟩ := store_ok (P := P) hty hrel (hget a) (hget x) hq hp
      exact ⟨w', φ, h2, .inr ⟨by simp [execOp, h1], rfl⟩⟩
  | makeSlice t l c =>
    simp only [memStep] at h
    obtain ⟨v, w', φ', h1, h2, h3⟩ := make_ok (P := P) hty hrel (hget l) (hget c) h hp
    exact ⟨w', φ', h3, .inl ⟨v, by simp [execOp, h1], h2⟩⟩
  | call c =>
    obtain ⟨cal, args, argTypes⟩ := c
    cases cal with
    | builtin b =>
      obtain ⟨args⟩ := args
      obtain ⟨argTypes⟩ := argTypes
      simp only [memStep] at h
      split at h
      · rename_i s x t xt
        unfold appendStep at h
        split at h
        · rename_i e hk
          have hund := slice_und hty hk
          split at h
          · rename_i ei hei
            obtain ⟨d, f, z, T⟩ := hty.at hei
            split at h
            · rename_i q ys hsrc
              have hsp := hget s
              have hx := hget x
              split at h
              · rename_i id off len cap hs
                split at h
                · rename_i b hb
                  simp only [Option.some.injEq, Prod.mk.injEq] at h
                  obtain ⟨rfl, rfl, rfl, rfl⟩ := h
                  obtain ⟨hq, h1, h2, h3, h4⟩ := hp
                  obtain ⟨g1, us, g2, g3, g4⟩ := src_ok hty hrel T hx hsrc hq
                  rw [hs] at hsp
                  obtain ⟨v, w', φ', k1, k2, k3⟩ := append_box (P := P) hty hrel type hund T hb hsp g1 g2 g3 g4 h1 h2 (by omega) h4
                  exact ⟨w', φ', k3, .inl ⟨v, by simp [execOp, resolve, invoke, builtin, k1], k2⟩⟩
                · cases h
              · rename_i st nil ex hs
                simp only [Option.some.injEq, Prod.mk.injEq] at h
                obtain ⟨rfl, rfl, rfl, rfl⟩ := h
                obtain ⟨hq, h1, h2, h3⟩ := hp
                obtain ⟨g1, us, g2, g3, g4⟩ := src_ok hty hrel T hx hsrc hq
                rw [hs] at hsp
                obtain ⟨v, w', φ', k1, k2, k3⟩ := append_new (P := P) hrel type hund T hsp h1 g1 g2 g3 g4 (by omega) h3
                exact ⟨w', φ', k3, .inl ⟨v, by simp [execOp, resolve, invoke, builtin, k1], k2⟩⟩
              · cases h
            · cases h
          · cases h
        · cases h
      · rename_i s t
        cases hq : clearStep ty bx t (get s) with
        | none => simp [hq] at h
        | some q =>
          obtain ⟨q, bx2⟩ := q
          simp only [hq, Option.map_some, Option.some.injEq, Prod.mk.injEq] at h
          obtain ⟨rfl, rfl, rfl, rfl⟩ := h
          obtain ⟨w', h1, h2⟩ := clear_ok (P := P) hty hrel (hget s) type hq hp
          exact ⟨w', φ, h2, .inl ⟨.tuple #[], by simp [execOp, resolve, invoke, builtin, h1], .tup [] #[] rfl (fun i x v h => by simp at h)⟩⟩
      · cases h
    | _ => simp [memStep] at h
  | _ => simp [memStep] at h

theorem make_build {t e : TypeId} {d : TypeDesc} {f f' : TypeInfo} {z z' : Value} {ti ei : TI} {d' : TypeDesc} (T : TyAt P t ti d f z) (hd : d = .slice e) (T' : TyAt P e ei d' f' z') (kl kc : IntKind) (n : Int) (h1 : 0 ≤ n)
    (h3 : (ei.bytes : Int) * n ≤ 281474976710656) (h4 : n ≤ 9223372036854775807) (h5 : n.toNat * ei.size ≤ 16777216) :
    (Instr.makeSlice t (.int kl n) (.int kc n)).run P w = (Instr.buildSlice t n.toNat #[]).run P w := by
  subst hd
  rw [run_make w t e f' z' T.und T'.info T'.zero kl kc n n h1 (Int.le_refl _) (by rw [T'.bytes]; exact h3) h4]
  have hn : ¬ (n.toNat * ei.size > 2 ^ 24) := by
    have : (2 : Nat) ^ 24 = 16777216 := by decide
    omega
  by_cases h0 : n.toNat * ei.size = 0
  · have e0 : ((Array.range (n.toNat * ei.size)).map ((#[] : Array Value)[· % (#[] : Array Value).size]!)) = madeCells z'.cells (n.toNat * f'.size) := by
      rw [T'.size, h0]; simp [madeCells, Array.range_zero']
    simp only [Instr.buildSlice, Sem.run_bind, run_underlying T.und, Result.andThen_ok, T'.run_sizeOf, if_neg hn, if_pos h0, Sem.run_pure, e0]
    simp [newRow, Instr.fill]
  · have e0 : ((Array.range (n.toNat * ei.size)).map (z'.cells[· % z'.cells.size]!)) = madeCells z'.cells (n.toNat * f'.size) := by
      rw [T'.size]; rfl
    simp only [Instr.buildSlice, Sem.run_bind, run_underlying T.und, Result.andThen_ok, T'.run_sizeOf, if_neg hn, if_neg h0, T'.run_zero, Sem.run_pure, e0]
    simp [newRow, Instr.fill]

theorem make_val_ok (hty : TyOk P ty) (hrel : Rel G bx nx φ w) {t : TypeId} {l c : AV} {ul uc : Value} (hl : Rep w φ (OK G bx φ w) l ul) (hc : Rep w φ (OK G bx φ w) c uc)
    {p : Prop} {r : AV} (h : makeVal ty t l c = some (p, r)) (hp : p) : ∃ v w', (Instr.makeSlice t ul uc).run P w = .ok v w' ∧ Ext w w' ∧ Rep w' φ (OK G bx φ w') r v := by
  unfold makeVal at h
  cases ht : ty t with
  | none => simp [ht] at h
  | some ti =>
  obtain ⟨d, f, z, T⟩ := hty.at ht
  simp only [ht, Option.map_some] at h
  split at h
  · rename_i e kl l' kc c' hk
    have hd := T.slice (Option.some.inj hk)
    split at h
    · rename_i ei hei
      obtain ⟨d', f', z', T'⟩ := hty.at hei
      simp only [Option.some.injEq, Prod.mk.injEq] at h
      obtain ⟨rfl, rfl⟩ := h
      obtain ⟨h1, rfl, h3, h4, h5, h6, h7⟩ := hp
      cases hl; cases hc
      rw [make_build T hd T' kl kc l' h1 h3 h4 h5]
      have h8 := buildSlice_ok (P := P) hty hrel ht (Option.some.inj hk) hei (parts := []) (us := []) rfl l'.toNat (fun j x u hx hu => by simp at hx) (by simp [fillL]) h5 h6 (by simpa [fillL] using h7)
      simpa [fillL] using h8
    · cases h
  · cases h

theorem valStep_ok (hty : TyOk P ty) (hrel : Rel G bx nx φ w) {get : Operand → AV} {ρ : Operand → Value} (hget : ∀ x, Rep w φ (OK G bx φ w) (get x) (ρ x)) {o : Oper} {p : Prop} {r : AV}
    (h : valStep ty bx get o.op = some (p, r)) (hp : p) : Yld P ρ o G bx φ w r := by
  unfold valStep at h
  split at h
  · rename_i args argTypes hop
    obtain ⟨dst, op, type, pos, after, guard⟩ := o
    simp only at hop
    subst hop
    obtain ⟨args⟩ := args
    obtain ⟨argTypes⟩ := argTypes
    split at h
    · rename_i s x t xt hA hT
      simp only at hA hT
      subst hA; subst hT
      unfold appVal at h
      split at h
      · rename_i e hk
        have hund := slice_und hty hk
        split at h
        · rename_i ei hei
          obtain ⟨d, f, z, T⟩ := hty.at hei
          split at h
          · rename_i q ys hsrc
            have hsp := hget s
            have hx := hget x
            split at h
            · rename_i st nil ex xs hs
              simp only [Option.some.injEq, Prod.mk.injEq] at h
              obtain ⟨rfl, rfl⟩ := h
              obtain ⟨hq, h1, h2, h3, h4⟩ := hp
              obtain ⟨g1, us, g2, g3, g4⟩ := src_ok hty hrel T hx hsrc hq
              rw [hs] at hsp
              obtain ⟨v, w', k1, k2, k3⟩ := append_val (P := P) hrel type hund T hsp h1 h2 g1 g2 g3 g4 (by omega) h4
              exact ⟨v, w', by simp [execOp, resolve, invoke, builtin, k1], k2, k3⟩
            · cases h
          · cases h
        · cases h
      · cases h
    · cases h
  · rename_i t l c hop
    obtain ⟨dst, op, type, pos, after, guard⟩ := o
    simp only at hop
    subst hop
    obtain ⟨v, w', h1, h2, h3⟩ := make_val_ok (P := P) hty hrel (hget l) (hget c) h hp
    exact ⟨v, w', by simp [execOp, h1], h2, h3⟩
  · exact opVal_ok hty hrel hget h hp
end

end Go.Av
