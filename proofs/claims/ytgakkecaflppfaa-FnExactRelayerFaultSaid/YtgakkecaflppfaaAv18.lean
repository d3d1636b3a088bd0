/- Operations that make or turn boxes, all of them. -/
import Derived.Test.YtgakkecaflppfaaAv17
set_option linter.unusedSimpArgs false
namespace Go.Av

def clearStep (ty : TypeId → Option TI) (bx : List (Nat × Option Box)) (t : TypeId) (s : AV) : Option (Prop × List (Nat × Option Box)) :=
  match (ty t).map TI.k, s with
  | some (.slice e), .sl id off len _ => match ty e, box? bx id with
    | some ei, some b => some (b.st = ei.size ∧ b.ro = false ∧ off + len ≤ b.elems.length ∧ okCells ei.size (zeroE ei) ∧ 0 < ei.size,
        (id, some { b with elems := splice b.elems off (List.replicate len (zeroE ei)) }) :: bx)
    | _, _ => none
  | _, _ => none

def memStep (ty : TypeId → Option TI) (bx : List (Nat × Option Box)) (nx : Nat) (get : Operand → AV) : Op → Option (Prop × AV × List (Nat × Option Box) × Nat)
  | .alloc t => match ty t with
    | some ti => some (okCells ti.size (zeroE ti), .ptr nx 0 0, (nx, some ⟨[zeroE ti], ti.size, false, false⟩) :: bx, nx + 1)
    | none => none
  | .box t x => match ty t with
    | some ti => some (okCells ti.size (get x), .ptr nx 0 0, (nx, some ⟨[get x], ti.size, false, false⟩) :: bx, nx + 1)
    | none => none
  | .store t a x => (storeStep ty bx t (get a) (get x)).map fun r => (r.1, .undef, r.2, nx)
  | .makeSlice t l c => makeStep ty bx nx t (get l) (get c)
  | .call { callee := .builtin b, args, argTypes } => match b, args.toList, argTypes.toList with
    | .append, [s, x], [t, xt] => appendStep ty bx nx t xt (get s) (get x)
    | .clear, [s], [t] => (clearStep ty bx t (get s)).map fun r => (r.1, .tup [], r.2, nx)
    | _, _, _ => none
  | _ => none

/-- By value: what opVal tells, and appends. -/
def valStep (ty : TypeId → Option TI) (bx : List (Nat × Option Box)) (get : Operand → AV) (o : Op) : Option (Prop × AV) :=
  match o with
  | .call { callee := .builtin .append, args, argTypes } => match args.toList, argTypes.toList with
    | [s, x], [t, xt] => appVal ty bx t xt (get s) (get x)
    | _, _ => none
  | o => opVal ty bx get o

section
variable {P : Program} {ty : TypeId → Option TI} {G : Gh} {bx : List (Nat × Option Box)} {nx : Nat} {φ : Nat → Option Loc} {w : World}

theorem slice_und (hty : TyOk P ty) {t : TypeId} {e : TypeId} (h : (ty t).map TI.k = some (.slice e)) : P.underlying t = some (.slice e) := by
  cases ht : ty t with
  | none => simp [ht] at h
  | some ti =>
    obtain ⟨d, f, z, T⟩ := hty.at ht
    simp only [ht, Option.map_some, Option.some.injEq] at h
    have := T.slice h
    subst this
    exact T.und

theorem clear_ok (hty : TyOk P ty) (hrel : Rel G bx nx φ w) {t : TypeId} {s : AV} {u : Value} (hs : Rep w φ (OK G bx φ w) s u) (ty' : TypeId)
    {p : Prop} {bx' : List (Nat × Option Box)} (h : clearStep ty bx t s = some (p, bx')) (hp : p) :
    ∃ w', (Builtin.clear_ #[t] ty' #[u]).run P w = .ok (.tuple #[]) w' ∧ Adv G bx φ w bx' nx φ w' := by
  unfold clearStep at h
  split at h
  · rename_i e id off len cap hk
    have hund := slice_und hty hk
    split at h
    · rename_i ei b hei hb
      obtain ⟨d, f, z, T⟩ := hty.at hei
      simp only [Option.some.injEq, Prod.mk.injEq] at h
      obtain ⟨rfl, rfl⟩ := h
      obtain ⟨hst, hro, hfit, hz, hpos⟩ := hp
      obtain ⟨L, hL, hr, hm⟩ := hrel.box id b hb
      cases hs with | sl _ _ _ _ L' a c hL' hS =>
      obtain rfl : L = L' := by rw [hL] at hL'; exact Option.some.inj hL'
      have hstL : L.st = ei.size := by rw [← hr.st]; exact hst
      obtain ⟨s1, s2, s3, s4, s5⟩ := hS
      have hzl : ei.zero.length = ei.size := by rw [T.zer]; simp [T.cells]
      have hzc := zeroE_cells T hz
      by_cases h0 : len = 0
      · subst h0
        refine ⟨w, ?_, ?_⟩
        · cases a <;> simp [Builtin.clear_, run_underlying hund]
        · have hW := hrel.weaken (bx' := (id, some { b with elems := splice b.elems off (List.replicate 0 (zeroE ei)) }) :: bx) (Nat.le_refl _) (fun i b' hi => by
            rw [box?_cons] at hi
            by_cases e1 : id = i
            · rw [if_pos e1] at hi
              obtain rfl := Option.some.inj hi
              exact ⟨b, by rw [← e1]; exact hb, by simp [splice], rfl, rfl, fun h => h⟩
            · rw [if_neg e1] at hi
              exact ⟨b', hi, rfl, rfl, rfl, fun h => h⟩)
          exact hW
      · obtain ⟨s6, s7, s8⟩ := s5 (by omega)
        subst s7
        obtain ⟨cs, T0, fr, e1, e2, e3, e4⟩ := hr.lies s6
        have hus : RepCells w φ (OK G bx φ w) (flatC (List.replicate len (zeroE ei))) (Builtin.zeroCells z.cells len).toList := by
          rw [flatC_replicate _ _ ei.size (by rw [hzc, hzl]), hzc, zeroCells_eq _ _ ei.size T.cells]
          exact zeros_rep (rep_zero T w φ _) hzl hpos len
        have hys : ∀ (i : Nat) (x : AV), (List.replicate len (zeroE ei))[i]? = some x → okCells L.st x := by
          intro i x hi
          have := List.mem_of_getElem? hi
          rw [List.mem_replicate] at this
          rw [this.2, hstL]; exact hz
        have hul : (Builtin.zeroCells z.cells len).toList.length = len * L.st := by simp [Builtin.zeroCells, T.cells, hstL]
        have hmul : (off + len) * L.st ≤ b.elems.length * L.st := Nat.mul_le_mul_right _ hfit
        have hW := wrote (b := L.blk) (T := T0) (fr := fr) (Builtin.zeroCells z.cells len).toList w (L.base + off * L.st) cs e1 (by rw [hul]; rw [Nat.add_mul] at hmul; omega)
        have hspl : ∀ i : Nat, (splice b.elems off (List.replicate len (zeroE ei)))[i]? = if i < off then b.elems[0 + i]? else if i < off + (List.replicate len (zeroE ei)).length then (List.replicate len (zeroE ei))[i - off]? else b.elems[0 + i]? := by
          intro i
          rw [splice_get _ _ _ (by simp; omega)]
          simp only [Nat.zero_add]
        obtain ⟨c1, c2⟩ := cont_of_wrote hr s6 (off := 0) (m := off) (ys := List.replicate len (zeroE ei)) (by rw [Nat.zero_add]; exact hW) e1 hus hys hspl
        refine ⟨_, ?_, hrel.store_box hb hL s6 hW e1 hro (b' := { b with elems := splice b.elems off (List.replicate len (zeroE ei)) }) rfl rfl hro (splice_length _ _ _ (by simp; omega)) c1 (fun i x j y hx hy => by
          have := c2 i x j y hx hy
          simpa using this)⟩
        have hst2 := run_storeCells (P := P) (b := L.blk) (T := T0) (fr := fr) (L.base + off * L.st) (Builtin.zeroCells z.cells len).toList w 0 cs e1 (by rw [hul]; rw [Nat.add_mul] at hmul; omega) (by rw [e2]; exact e4)
          (repCells_one_ok hus (by
            intro y hy
            obtain ⟨k, hk⟩ := List.getElem?_of_mem hy
            obtain ⟨x, g1, g2, _⟩ := flatC_at _ (fun i x h => (hys i x h).1) k y hk
            exact (hys _ x g1).2 y (List.mem_of_getElem? g2)))
        obtain ⟨len, rfl⟩ : ∃ m, len = m + 1 := ⟨len - 1, by omega⟩
        rw [Nat.add_zero] at hst2
        simp [Builtin.clear_, run_underlying hund, T.run_zero, hst2]
    · cases h
  · cases h

theorem memStep_ok (hty : TyOk P ty) (hrel : Rel G bx nx φ w) {get : Operand → AV} {ρ : Operand → Value} (hget : ∀ x, Rep w φ (OK G bx φ w) (get x) (ρ x)) {o : Oper} {p : Prop} {r : AV}
    {bx' : List (Nat × Option Box)} {nx' : Nat} (h : memStep ty bx nx get o.op = some (p, r, bx', nx')) (hp : p) :
    ∃ w' φ', Adv G bx φ w bx' nx' φ' w' ∧ ((∃ v, (execOp ρ o).run P w = .ok (.value v) w' ∧ Rep w' φ' (OK G bx' φ' w') r v) ∨ ((execOp ρ o).run P w = .ok .skip w' ∧ r = .undef)) := by
  obtain ⟨dst, op, type, pos, after, guard⟩ := o
  cases op with
  | alloc t =>
    simp only [memStep] at h
    split at h
    · rename_i ti ht
      simp only [Option.some.injEq, Prod.mk.injEq] at h
      obtain ⟨rfl, rfl, rfl, rfl⟩ := h
      obtain ⟨d, f, z, T⟩ := hty.at ht
      have hz : RepCells w φ (OK G bx φ w) (zeroE ti).cells z.cells.toList := by rw [zeroE_cells T hp]; exact rep_zero T w φ _
      obtain ⟨h1, h2⟩ := new_var hrel t hz hp
      exact ⟨_, _, h1, .inl ⟨_, by simp [execOp, Instr.alloc, T.run_zero, newVar, newRow], h2⟩⟩
    · cases h
  | box t x =>
    simp only [memStep] at h
    split at h
    · rename_i ti ht
      simp only [Option.some.injEq, Prod.mk.injEq] at h
      obtain ⟨rfl, rfl, rfl, rfl⟩ := h
      obtain ⟨h1, h2⟩ := new_var hrel t (repCells_one (hget x) hp) hp
      exact ⟨_, _, h1, .inl ⟨_, by simp [execOp, Instr.box, newVar, newRow], h2⟩⟩
    · cases h
  | store t a x =>
    simp only [memStep] at h
    cases hq : storeStep ty bx t (get a) (get x) with
    | none => simp [hq] at h
    | some q =>
      obtain ⟨q, bx2⟩ := q
      simp only [hq, Option.map_some, Option.some.injEq, Prod.mk.injEq] at h
      obtain ⟨rfl, rfl, rfl, rfl⟩ := h
      obtain ⟨w', h1, h2⟩ := store_ok (P := P) hty hrel (hget a) (hget x) hq hp
      exact ⟨w', φ, h2, .inr ⟨by simp [execOp, h1], rfl⟩⟩
  | makeSlice t l c =>
    simp only [memStep] at h
    obtain ⟨v, w', φ', h1, h2, h3⟩ := make_ok (P := P) hty hrel (hget l) (hget c) h hp
    exact ⟨w', φ', h3, .inl ⟨v, by simp [execOp, h1], h2⟩⟩
  | call c =>
    obtain ⟨cal, args, argTypes⟩ := c
    cases cal with
    | builtin b =>
      obtain ⟨args⟩ := args
      obtain ⟨argTypes⟩ := argTypes
      simp only [memStep] at h
      split at h
      · rename_i s x t xt
        unfold appendStep at h
        split at h
        · rename_i e hk
          have hund := slice_und hty hk
          split at h
          · rename_i ei hei
            obtain ⟨d, f, z, T⟩ := hty.at hei
            split at h
            · rename_i q ys hsrc
              have hsp := hget s
              have hx := hget x
              split at h
              · rename_i id off len cap hs
                split at h
                · rename_i b hb
                  simp only [Option.some.injEq, Prod.mk.injEq] at h
                  obtain ⟨rfl, rfl, rfl, rfl⟩ := h
                  obtain ⟨hq, h1, h2, h3, h4⟩ := hp
                  obtain ⟨g1, us, g2, g3, g4⟩ := src_ok hty hrel T hx hsrc hq
                  rw [hs] at hsp
                  obtain ⟨v, w', φ', k1, k2, k3⟩ := append_box (P := P) hty hrel type hund T hb hsp g1 g2 g3 g4 h1 h2 (by omega) h4
                  exact ⟨w', φ', k3, .inl ⟨v, by simp [execOp, resolve, invoke, builtin, k1], k2⟩⟩
                · cases h
              · rename_i st nil ex hs
                simp only [Option.some.injEq, Prod.mk.injEq] at h
                obtain ⟨rfl, rfl, rfl, rfl⟩ := h
                obtain ⟨hq, h1, h2, h3⟩ := hp
                obtain ⟨g1, us, g2, g3, g4⟩ := src_ok hty hrel T hx hsrc hq
                rw [hs] at hsp
                obtain ⟨v, w', φ', k1, k2, k3⟩ := append_new (P := P) hrel type hund T hsp h1 g1 g2 g3 g4 (by omega) h3
                exact ⟨w', φ', k3, .inl ⟨v, by simp [execOp, resolve, invoke, builtin, k1], k2⟩⟩
              · cases h
            · cases h
          · cases h
        · cases h
      · rename_i s t
        cases hq : clearStep ty bx t (get s) with
        | none => simp [hq] at h
        | some q =>
          obtain ⟨q, bx2⟩ := q
          simp only [hq, Option.map_some, Option.some.injEq, Prod.mk.injEq] at h
          obtain ⟨rfl, rfl, rfl, rfl⟩ := h
          obtain ⟨w', h1, h2⟩ := clear_ok (P := P) hty hrel (hget s) type hq hp
          exact ⟨w', φ, h2, .inl ⟨.tuple #[], by simp [execOp, resolve, invoke, builtin, h1], .tup [] #[] rfl (fun i x v h => by simp at h)⟩⟩
      · cases h
    | _ => simp [memStep] at h
  | _ => simp [memStep] at h

theorem valStep_ok (hty : TyOk P ty) (hrel : Rel G bx nx φ w) {get : Operand → AV} {ρ : Operand → Value} (hget : ∀ x, Rep w φ (OK G bx φ w) (get x) (ρ x)) {o : Oper} {p : Prop} {r : AV}
    (h : valStep ty bx get o.op = some (p, r)) (hp : p) : Yld P ρ o G bx φ w r := by
  unfold valStep at h
  split at h
  · rename_i args argTypes hop
    obtain ⟨dst, op, type, pos, after, guard⟩ := o
    simp only at hop
    subst hop
    obtain ⟨args⟩ := args
    obtain ⟨argTypes⟩ := argTypes
    split at h
    · rename_i s x t xt hA hT
      simp only at hA hT
      subst hA; subst hT
      unfold appVal at h
      split at h
      · rename_i e hk
        have hund := slice_und hty hk
        split at h
        · rename_i ei hei
          obtain ⟨d, f, z, T⟩ := hty.at hei
          split at h
          · rename_i q ys hsrc
            have hsp := hget s
            have hx := hget x
            split at h
            · rename_i st nil ex xs hs
              simp only [Option.some.injEq, Prod.mk.injEq] at h
              obtain ⟨rfl, rfl⟩ := h
              obtain ⟨hq, h1, h2, h3, h4⟩ := hp
              obtain ⟨g1, us, g2, g3, g4⟩ := src_ok hty hrel T hx hsrc hq
              rw [hs] at hsp
              obtain ⟨v, w', k1, k2, k3⟩ := append_val (P := P) hrel type hund T hsp h1 h2 g1 g2 g3 g4 (by omega) h4
              exact ⟨v, w', by simp [execOp, resolve, invoke, builtin, k1], k2, k3⟩
            · cases h
          · cases h
        · cases h
      · cases h
    · cases h
  · exact opVal_ok hty hrel hget h hp
end

end Go.Av
