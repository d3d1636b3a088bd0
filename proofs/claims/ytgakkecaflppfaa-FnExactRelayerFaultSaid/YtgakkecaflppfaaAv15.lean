/- Rows that are new, and rows that are appended to, on pictures. -/
import Derived.Test.YtgakkecaflppfaaAv14
set_option linter.unusedSimpArgs false
namespace Go.Av

def srcOf (ty : TypeId → Option TI) (bx : List (Nat × Option Box)) (ei : TI) (xt : TypeId) (x : AV) : Option (Prop × List AV) :=
  match (ty xt).map TI.k, x with
  | some (.slice _), .ls st _ _ ys => some (st = ei.size ∨ ys = [], ys)
  | some (.slice _), .sl id off len _ => match box? bx id with
    | some b => some (b.st = ei.size ∧ off + len ≤ b.elems.length, (b.elems.drop off).take len)
    | none => none
  | some .str, .str s => some (ei.size = 1, listOf s)
  | some (.int _), .int _ n => some (0 ≤ n ∧ n ≤ 9223372036854775807 ∧ n * (ei.bytes : Int) ≤ 140737488355328 ∧ okCells ei.size (zeroE ei), List.replicate n.toNat (zeroE ei))
  | _, _ => none

section
variable {P : Program} {ty : TypeId → Option TI} {G : Gh} {bx : List (Nat × Option Box)} {nx : Nat} {φ : Nat → Option Loc} {w : World}

theorem Adv.trans {bx1 bx2 : List (Nat × Option Box)} {nx1 nx2 : Nat} {φ1 φ2 : Nat → Option Loc} {w1 w2 : World} (h : Adv G bx φ w bx1 nx1 φ1 w1) (k : Adv G bx1 φ1 w1 bx2 nx2 φ2 w2) :
    Adv G bx φ w bx2 nx2 φ2 w2 :=
  ⟨k.rel, fun b o e => ⟨(k.cell b o (h.cell b o e).1).1, ((k.cell b o (h.cell b o e).1).2).trans (h.cell b o e).2⟩, fun id L e => k.loc id L (h.loc id L e)⟩

theorem Adv.ext (hrel : Rel G bx nx φ w) {w' : World} (h : Ext w w') : Adv G bx φ w bx nx φ w' := ⟨hrel.ext h, fun _ _ k => k.ext h, fun _ _ k => k⟩

theorem World.cell?_drew' (w : World) (a : Addr) : w.drew.cell? a = w.cell? a := rfl

/-- Cells that a list of elements tells, read one by one. -/
theorem cells_of_list {ok : Nat → Nat → Prop} {st : Nat} {ys : List AV} (hlen : ∀ (i : Nat) (x : AV), ys[i]? = some x → okCells st x) {b o : Nat}
    (hc : ∀ (i : Nat) (x : AV) (j : Nat) (y : AV), ys[i]? = some x → x.cells[j]? = some y → ∃ v, w.cell? ⟨b, o + i * st + j, none⟩ = some v ∧ Rep w φ ok y v) :
    ∃ us : List Value, us.length = ys.length * st ∧ (∀ (k : Nat) (v : Value), us[k]? = some v → w.cell? ⟨b, o + k, none⟩ = some v) ∧ RepCells w φ ok (flatC ys) us := by
  have hfl := flatC_length ys (fun i x h => (hlen i x h).1)
  refine ⟨(List.range (ys.length * st)).map fun k => (w.cell? ⟨b, o + k, none⟩).getD Go.undef, by simp, fun k v hk => ?_, by simp [hfl], fun k y v hy hv => ?_⟩
  · have hlt : k < ys.length * st := by
      have := (List.getElem?_eq_some_iff.1 hk).1
      simpa using this
    obtain ⟨y, hy⟩ : ∃ y, (flatC ys)[k]? = some y := ⟨_, List.getElem?_eq_getElem (by rw [hfl]; exact hlt)⟩
    obtain ⟨x, h1, h2, h3⟩ := flatC_at ys (fun i x h => (hlen i x h).1) k y hy
    obtain ⟨u, h4, _⟩ := hc _ x _ y h1 h2
    have e : o + k / st * st + k % st = o + k := by
      have := Nat.div_add_mod k st
      rw [Nat.mul_comm] at this
      omega
    rw [e] at h4
    simp [hlt, h4] at hk
    rw [h4, hk]
  · obtain ⟨x, h1, h2, h3⟩ := flatC_at ys (fun i x h => (hlen i x h).1) k y hy
    obtain ⟨u, h4, h5⟩ := hc _ x _ y h1 h2
    have hlt : k < ys.length * st := by rw [← hfl]; exact (List.getElem?_eq_some_iff.1 hy).1
    have e : o + k / st * st + k % st = o + k := by
      have := Nat.div_add_mod k st
      rw [Nat.mul_comm] at this
      omega
    rw [e] at h4
    simp [hlt, h4] at hv
    rw [← hv]
    exact h5

theorem run_first {st n : Nat} {us : List Value} {b o l c : Nat} (hul : us.length = n * st) (h : ∀ (k : Nat) (v : Value), us[k]? = some v → w.cell? ⟨b, o + k, none⟩ = some v) :
    (Builtin.firstCells st n (.slice (some ⟨b, o, none⟩) l c)).run P w = .ok us.toArray w :=
  run_firstCells_some w st n ⟨b, o, none⟩ l c us hul (fun j v hj => by rw [Addr.add_lit]; exact h j v hj)

theorem run_first0 {st l c : Nat} (a : Option Addr) : (Builtin.firstCells st 0 (.slice a l c)).run P w = .ok #[] w := by
  cases a with
  | none => simp [Builtin.firstCells]
  | some a => exact run_firstCells_some w st 0 a l c [] (by simp) (fun j v hj => by simp at hj)

theorem zeroE_cells {P : Program} {t : TypeId} {i : TI} {d : TypeDesc} {f : TypeInfo} {z : Value} (T : TyAt P t i d f z) (h : okCells i.size (zeroE i)) : (zeroE i).cells = i.zero := by
  unfold zeroE at *
  cases ha : isAggK i.k with
  | true => simp [AV.cells]
  | false =>
    simp only [ha, Bool.false_eq_true, if_false] at h ⊢
    have hz := T.zer
    have hl : i.zero.length = i.size := by rw [hz]; simp [T.cells]
    cases hzz : i.zero with
    | nil =>
      rw [hzz] at hl h
      simp [AV.cells] at hl
      have := h.1
      simp [AV.cells] at this
      omega
    | cons y r =>
      rw [hzz] at h hl hz
      have hy : ∃ v, y = ofVal v := by
        cases hc : z.cells.toList with
        | nil => rw [hc] at hz; simp at hz
        | cons v vs => rw [hc] at hz; simp at hz; exact ⟨v, hz.1⟩
      obtain ⟨v, rfl⟩ := hy
      have h1 := h.1
      simp only [List.getD_cons_zero, ofVal_cells_one] at h1 ⊢
      simp at h1 hl
      have : r = [] := List.length_eq_zero_iff.1 (by omega)
      rw [this]

theorem flatC_replicate (n : Nat) (x : AV) (st : Nat) (hx : x.cells.length = st) : flatC (List.replicate n x) = zeros st x.cells n := by
  induction n with
  | zero => rfl
  | succ n ih =>
    simp only [flatC, List.replicate_succ, List.flatMap_cons] at ih ⊢
    rw [ih]
    simp [zeros, ← hx]

theorem zeroCells_eq (z : Array Value) (n s : Nat) (hs : z.size = s) : Builtin.zeroCells z n = (Array.range (n * s)).map (z[· % z.size]!) := by
  simp [Builtin.zeroCells, hs]

theorem src_ok (hty : TyOk P ty) (hrel : Rel G bx nx φ w) {e : TypeId} {ei : TI} {d : TypeDesc} {f : TypeInfo} {z : Value} (T : TyAt P e ei d f z) {xt : TypeId} {x : AV} {u : Value}
    (hx : Rep w φ (OK G bx φ w) x u) {q : Prop} {ys : List AV} (h : srcOf ty bx ei xt x = some (q, ys)) (hq : q) :
    (∀ (i : Nat) (x : AV), ys[i]? = some x → okCells ei.size x) ∧ ∃ us : List Value, us.length = ys.length * ei.size ∧ AppSrc P ei z w xt u ys.length us ∧ RepCells w φ (OK G bx φ w) (flatC ys) us := by
  unfold srcOf at h
  cases ht : ty xt with
  | none => simp [ht] at h
  | some ti =>
  obtain ⟨d', f', z', T'⟩ := hty.at ht
  simp only [ht, Option.map_some] at h
  split at h
  · rename_i e' st n ex ys' hk
    have hd := T'.slice (Option.some.inj hk)
    subst hd
    simp only [Option.some.injEq, Prod.mk.injEq] at h
    obtain ⟨rfl, rfl⟩ := h
    obtain ⟨a, c, rfl⟩ := hx.ls_val
    obtain ⟨_, hl, hc⟩ := hx.ls_cells
    have hlen := hx.ls_len
    have hlen' : ∀ (i : Nat) (x : AV), ys'[i]? = some x → okCells ei.size x := by
      intro i x hi
      rcases hq with hq | hq
      · rw [← hq]; exact hlen i x hi
      · subst hq; simp at hi
    refine ⟨hlen', ?_⟩
    by_cases hy0 : ys' = []
    · subst hy0
      refine ⟨[], by simp, .inl ⟨_, T'.und, fun k h => (by cases h), by simp [Builtin.lenOf], by simp [Builtin.lenOf], run_first0 a, run_first0 a⟩, by simp [flatC], fun i x v h => by simp [flatC] at h⟩
    · obtain ⟨b, o, rfl⟩ := hl.addr (List.length_pos_iff.2 hy0)
      obtain ⟨us, h1, h2, h3⟩ := cells_of_list (w := w) (φ := φ) (ok := OK G bx φ w) hlen' (b := b) (o := o) (fun i x j y hi hj => by
        obtain ⟨v, e1, _, e3⟩ := hc b o rfl i x j y hi hj
        rcases hq with hq | hq
        · rw [← hq]; exact ⟨v, e1, e3⟩
        · subst hq; simp at hi)
      refine ⟨us, h1, .inl ⟨_, T'.und, fun k h => (by cases h), by simp [Builtin.lenOf], by simp [Builtin.lenOf], run_first h1 h2, run_first h1 (w := w.drew) h2⟩, h3⟩
  · rename_i e' id off len cap hk
    split at h
    · rename_i b hb
      have hd := T'.slice (Option.some.inj hk)
      subst hd
      simp only [Option.some.injEq, Prod.mk.injEq] at h
      obtain ⟨rfl, rfl⟩ := h
      obtain ⟨hst, hfit⟩ := hq
      obtain ⟨L, hL, hr, _⟩ := hrel.box id b hb
      cases hx with | sl _ _ _ _ L' a c hL' hS =>
      obtain rfl : L = L' := by rw [hL] at hL'; exact Option.some.inj hL'
      have hstL : L.st = ei.size := by rw [← hr.st]; exact hst
      have hyl : ((b.elems.drop off).take len).length = len := by simp; omega
      have hget : ∀ (i : Nat) (x : AV), ((b.elems.drop off).take len)[i]? = some x → b.elems[off + i]? = some x ∧ i < len := by
        intro i x hi
        have := (List.getElem?_eq_some_iff.1 hi).1
        rw [hyl] at this
        rw [List.getElem?_take_of_lt this, List.getElem?_drop] at hi
        exact ⟨hi, this⟩
      have hlen' : ∀ (i : Nat) (x : AV), ((b.elems.drop off).take len)[i]? = some x → okCells ei.size x := by
        intro i x hi
        rw [← hstL]; exact hr.len _ x (hget i x hi).1
      refine ⟨hlen', ?_⟩
      obtain ⟨s1, s2, s3, s4, s5⟩ := hS
      by_cases h0 : len = 0
      · subst h0
        refine ⟨[], by simp, .inl ⟨_, T'.und, fun k h => (by cases h), ?_, ?_, ?_, ?_⟩, by simp [flatC], fun i x v h => by simp [flatC] at h⟩
        · simp [Builtin.lenOf]
        · simp [Builtin.lenOf]
        · cases a <;> simp [Builtin.firstCells, loadCells, loadCellsFrom]
        · cases a <;> simp [Builtin.firstCells, loadCells, loadCellsFrom]
      · obtain ⟨s6, s7, s8⟩ := s5 (by omega)
        subst s7
        obtain ⟨us, h1, h2, h3⟩ := cells_of_list (w := w) (φ := φ) (ok := OK G bx φ w) hlen' (b := L.blk) (o := L.base + off * L.st) (fun i x j y hi hj => by
          obtain ⟨v, e1, e3⟩ := hr.cont s6 _ x j y (hget i x hi).1 hj
          refine ⟨v, ?_, e3⟩
          rw [← e1, ← hstL, Nat.add_mul]
          congr 2
          omega)
        refine ⟨us, h1, .inl ⟨_, T'.und, fun k h => (by cases h), ?_, ?_, run_first h1 h2, run_first h1 (w := w.drew) h2⟩, h3⟩
        · simp only [hyl, Builtin.lenOf, Sem.run_pure]
        · simp only [hyl, Builtin.lenOf, Sem.run_pure]
    · cases h
  · rename_i s hk
    have hd := T'.str (Option.some.inj hk)
    subst hd
    simp only [Option.some.injEq, Prod.mk.injEq] at h
    obtain ⟨rfl, rfl⟩ := h
    cases hx
    have hll : (listOf s).length = s.size := by simp [listOf]
    have hok : ∀ (i : Nat) (x : AV), (listOf s)[i]? = some x → okCells ei.size x := by
      intro i x hi
      simp only [listOf, List.getElem?_map, Option.map_eq_some_iff] at hi
      obtain ⟨q, _, rfl⟩ := hi
      exact ⟨by rw [hq]; rfl, by simp [AV.cells, AV.cellOk]⟩
    refine ⟨hok, s.data.toList.map (fun b => Value.int .u8 b.toNat), by simp [hll, hq], .inl ⟨_, T'.und, fun k h => (by cases h), by simp [Builtin.lenOf, hll], by simp [Builtin.lenOf, hll], ?_, ?_⟩, ?_, ?_⟩
    · simp only [Builtin.firstCells, Sem.run_pure, hll]
      congr 1
      apply Array.ext'
      have : s.extract 0 s.size = s := by simp
      simp [this]
    · simp only [Builtin.firstCells, Sem.run_pure, hll]
      congr 1
      apply Array.ext'
      have : s.extract 0 s.size = s := by simp
      simp [this]
    · rw [flatC_length (st := 1) _ (fun i x h => by rw [← hq]; exact (hok i x h).1)]
      simp [hll]
    · intro i x v hi hv
      obtain ⟨y, h1, h2, _⟩ := flatC_at (st := 1) _ (fun i x h => by rw [← hq]; exact (hok i x h).1) i x hi
      simp only [Nat.div_one, Nat.mod_one] at h1 h2
      simp only [listOf, List.getElem?_map, Option.map_eq_some_iff] at h1 hv
      obtain ⟨q, g1, rfl⟩ := h1
      obtain ⟨q', g2, rfl⟩ := hv
      rw [g1] at g2
      obtain rfl := Option.some.inj g2
      simp [AV.cells] at h2
      subst h2
      exact .int _ _
  · rename_i k k' n hk
    have hd := T'.int (Option.some.inj hk)
    subst hd
    simp only [Option.some.injEq, Prod.mk.injEq] at h
    obtain ⟨rfl, rfl⟩ := h
    obtain ⟨h1, h2, h3, h4⟩ := hq
    cases hx
    have hzc := zeroE_cells T h4
    have hzl : ei.zero.length = ei.size := by rw [T.zer]; simp [T.cells]
    have hok : ∀ (i : Nat) (x : AV), (List.replicate n.toNat (zeroE ei))[i]? = some x → okCells ei.size x := by
      intro i x hi
      have := List.mem_of_getElem? hi
      rw [List.mem_replicate] at this
      rw [this.2]; exact h4
    have hn : ((n.toNat : Nat) : Int) = n := Int.toNat_of_nonneg h1
    refine ⟨hok, (Builtin.zeroCells z.cells n.toNat).toList, by simp [Builtin.zeroCells, T.cells], .inr ⟨k, k', T'.und, by simp [hn], by simp [hn]; exact h2, ?_, by simp, T.cells⟩, ?_⟩
    · simp only [List.length_replicate]
      have : ((n.toNat * ei.bytes : Nat) : Int) ≤ 140737488355328 := by rw [Int.natCast_mul, hn]; exact h3
      omega
    · rw [flatC_replicate _ _ ei.size (by rw [hzc, hzl]), hzc, zeroCells_eq _ _ ei.size T.cells]
      rcases Nat.eq_zero_or_pos ei.size with e | e
      · simp [e]
        have : zeros 0 ei.zero n.toNat = [] := by
          have := zeros_length 0 ei.zero (by omega) n.toNat
          exact List.length_eq_zero_iff.1 (by omega)
        rw [this]
        exact ⟨by simp [Array.range_zero'], fun i x v h => by simp at h⟩
      · exact zeros_rep (rep_zero T w φ _) hzl e n.toNat
  · cases h
end

end Go.Av
