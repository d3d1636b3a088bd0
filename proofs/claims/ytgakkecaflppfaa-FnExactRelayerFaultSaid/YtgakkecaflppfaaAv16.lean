/- Rows made and appended to. -/
import Derived.Test.YtgakkecaflppfaaAv15
set_option linter.unusedSimpArgs false
namespace Go.Av

def makeStep (ty : TypeId → Option TI) (bx : List (Nat × Option Box)) (nx : Nat) (t : TypeId) (l c : AV) : Option (Prop × AV × List (Nat × Option Box) × Nat) :=
  match (ty t).map TI.k, l, c with
  | some (.slice e), .int _ l, .int _ c => match ty e with
    | some ei => some (0 ≤ l ∧ l ≤ c ∧ (ei.bytes : Int) * c ≤ 281474976710656 ∧ c ≤ 9223372036854775807 ∧ okCells ei.size (zeroE ei) ∧ 0 < ei.size,
        .sl nx 0 l.toNat c.toNat, (nx, some ⟨List.replicate c.toNat (zeroE ei), ei.size, false, false⟩) :: bx, nx + 1)
    | none => none
  | _, _, _ => none

def appendStep (ty : TypeId → Option TI) (bx : List (Nat × Option Box)) (nx : Nat) (t xt : TypeId) (s x : AV) : Option (Prop × AV × List (Nat × Option Box) × Nat) :=
  match (ty t).map TI.k with
  | some (.slice e) => match ty e with
    | some ei => match srcOf ty bx ei xt x with
      | some (q, ys) => match s with
        | .sl id off len _ => match box? bx id with
          | some b => some (q ∧ b.st = ei.size ∧ off + len = b.elems.length ∧ (((len + ys.length) * ei.bytes : Nat) : Int) ≤ 140737488355328 ∧ 0 < ei.bytes,
              .sl nx 0 (len + ys.length) (len + ys.length), (nx, some ⟨b.elems.drop off ++ ys, ei.size, true, b.ro⟩) :: (id, none) :: bx, nx + 1)
          | none => none
        | .ls _ nil ex [] => some (q ∧ (nil = true ∧ ex = true) ∧ ((ys.length * ei.bytes : Nat) : Int) ≤ 140737488355328 ∧ 0 < ei.bytes,
              .sl nx 0 ys.length ys.length, (nx, some ⟨ys, ei.size, true, false⟩) :: bx, nx + 1)
        | _ => none
      | none => none
    | none => none
  | _ => none

/-- An append whose outcome is told by value (nobody writes it afterwards). -/
def appVal (ty : TypeId → Option TI) (bx : List (Nat × Option Box)) (t xt : TypeId) (s x : AV) : Option (Prop × AV) :=
  match (ty t).map TI.k with
  | some (.slice e) => match ty e with
    | some ei => match srcOf ty bx ei xt x with
      | some (q, ys) => match s with
        | .ls st nil ex xs => some (q ∧ ex = true ∧ (st = ei.size ∨ xs = []) ∧ (((xs.length + ys.length) * ei.bytes : Nat) : Int) ≤ 140737488355328 ∧ 0 < ei.bytes, .ls ei.size (nil && ys.isEmpty) false (xs ++ ys))
        | _ => none
      | none => none
    | none => none
  | _ => none

section
variable {P : Program} {ty : TypeId → Option TI} {G : Gh} {bx : List (Nat × Option Box)} {nx : Nat} {φ : Nat → Option Loc} {w : World}

/-- A new row. -/
theorem new_row (hrel : Rel G bx nx φ w) {w1 : World} (hE : Ext w w1) (hsz : w1.heap.size = w.heap.size) {st : Nat} {E : List AV} {us : List Value} {rest : Array Value} (T : TypeId) {c : Nat} (slack : Bool)
    (hc : RepCells w φ (OK G bx φ w) (flatC E) us) (hlen : ∀ (i : Nat) (x : AV), E[i]? = some x → okCells st x) (hec : E.length ≤ c) (hcs : (us.toArray ++ rest).size = c * st) :
    Adv G bx φ w ((nx, some ⟨E, st, slack, false⟩) :: bx) (nx + 1) (upd φ nx ⟨w.heap.size, 0, st, c * st, slack, false⟩) (w1.alloc (.cells (us.toArray ++ rest) T)) := by
  have hus : us.length = E.length * st := by rw [hc.1, flatC_length E (fun i x h => (hlen i x h).1)]
  have hE2 : Ext w (w1.alloc (.cells (us.toArray ++ rest) T)) := hE.trans (.alloc w1 _)
  refine hrel.add_box hE2 (fun _ => Nat.le_refl _) rfl rfl hlen (fun h => by cases h) (fun _ => ?_) (fun _ i x j y hx hy => ?_)
  · refine ⟨us.toArray ++ rest, T, (0, 0), by simp [World.alloc, -World.alloc_eq, ← hsz], hcs, ?_, fun o _ => by simp⟩
    simp only [Nat.zero_add]
    exact Nat.mul_le_mul_right _ hec
  · have hf := flatC_get E (fun i x h => (hlen i x h).1) i x j y hx hy
    have hlt : i * st + j < us.length := by rw [hc.1]; exact (List.getElem?_eq_some_iff.1 hf).1
    have hv : us[i * st + j]? = some us[i * st + j] := List.getElem?_eq_getElem hlt
    refine ⟨_, ?_, hc.2 _ y _ hf hv⟩
    simp only [Nat.zero_add]
    rw [← hsz, World.cell?_alloc_new, Array.getElem?_append_left (by simpa using hlt), List.getElem?_toArray]
    exact hv

theorem rep_new_row {G : Gh} {bx' : List (Nat × Option Box)} {φ : Nat → Option Loc} {w' : World} {b st n len cap c : Nat} {slack : Bool} (nx : Nat) (h1 : len ≤ cap) (h2 : cap ≤ c) (h3 : slack = false → c = cap) (hn : n = c * st) :
    Rep w' (upd φ nx ⟨b, 0, st, n, slack, false⟩) (OK G bx' (upd φ nx ⟨b, 0, st, n, slack, false⟩) w') (.sl nx 0 len cap) (.slice (some ⟨b, 0, none⟩) len c) :=
  .sl nx 0 len cap ⟨b, 0, st, n, slack, false⟩ _ c (by simp [upd]) ⟨h1, h2, h3, fun x hx => (by simp at hx; rw [← hx]), fun _ => ⟨rfl, by simp, by simp [hn]⟩⟩

theorem make_ok (hty : TyOk P ty) (hrel : Rel G bx nx φ w) {t : TypeId} {l c : AV} {ul uc : Value} (hl : Rep w φ (OK G bx φ w) l ul) (hc : Rep w φ (OK G bx φ w) c uc)
    {p : Prop} {r : AV} {bx' : List (Nat × Option Box)} {nx' : Nat} (h : makeStep ty bx nx t l c = some (p, r, bx', nx')) (hp : p) :
    ∃ v w' φ', (Instr.makeSlice t ul uc).run P w = .ok v w' ∧ Rep w' φ' (OK G bx' φ' w') r v ∧ Adv G bx φ w bx' nx' φ' w' := by
  unfold makeStep at h
  cases ht : ty t with
  | none => simp [ht] at h
  | some ti =>
  obtain ⟨d, f, z, T⟩ := hty.at ht
  simp only [ht, Option.map_some] at h
  split at h
  · rename_i e kl l' kc c' hk
    have hd := T.slice (Option.some.inj hk)
    subst hd
    split at h
    · rename_i ei hei
      obtain ⟨d', f', z', T'⟩ := hty.at hei
      simp only [Option.some.injEq, Prod.mk.injEq] at h
      obtain ⟨rfl, rfl, rfl, rfl⟩ := h
      obtain ⟨h1, h2, h3, h4, h5, h6⟩ := hp
      cases hl; cases hc
      have hzl : ei.zero.length = ei.size := by rw [T'.zer]; simp [T'.cells]
      have hzc := zeroE_cells T' h5
      refine ⟨_, _, upd φ nx ⟨w.heap.size, 0, ei.size, c'.toNat * ei.size, false, false⟩, run_make w t e f' z' T.und T'.info T'.zero kl kc l' c' h1 h2 (by rw [T'.bytes]; exact h3) h4, ?_, ?_⟩
      · exact rep_new_row (n := c'.toNat * ei.size) nx (by omega) (Nat.le_refl _) (fun _ => rfl) rfl
      · have hfl : flatC (List.replicate c'.toNat (zeroE ei)) = zeros ei.size ei.zero c'.toNat := by rw [flatC_replicate _ _ ei.size (by rw [hzc, hzl]), hzc]
        have hz : RepCells w φ (OK G bx φ w) (zeros ei.size ei.zero c'.toNat) (madeCells z'.cells (c'.toNat * f'.size)).toList := by
          rw [T'.size]
          exact zeros_rep (rep_zero T' w φ _) hzl h6 _
        have := new_row hrel (.refl w) rfl (st := ei.size) (E := List.replicate c'.toNat (zeroE ei)) (us := (madeCells z'.cells (c'.toNat * f'.size)).toList) (rest := #[]) e (c := c'.toNat) false (by rw [hfl]; exact hz)
          (fun i x hi => by have := List.mem_of_getElem? hi; rw [List.mem_replicate] at this; rw [this.2]; exact h5) (by simp) (by simp [size_madeCells, T'.size])
        simpa using this
    · cases h
  · cases h

theorem grown_ge (w : World) (need old : Nat) (e : TypeId) : need ≤ grownCap w need old e := by simp [grownCap, Question.cut]

/-- An append to a box's end. -/
theorem append_box (_hty : TyOk P ty) (hrel : Rel G bx nx φ w) {t xt : TypeId} (ty' : TypeId) {e : TypeId} {ei : TI} {d : TypeDesc} {f : TypeInfo} {z : Value} (hu : P.underlying t = some (.slice e)) (T : TyAt P e ei d f z)
    {id off len cap : Nat} {b : Box} (hb : box? bx id = some b) {us0 : Value} (hs : Rep w φ (OK G bx φ w) (.sl id off len cap) us0) {u : Value} {ys : List AV} {us : List Value}
    (hys : ∀ (i : Nat) (x : AV), ys[i]? = some x → okCells ei.size x) (hul : us.length = ys.length * ei.size) (hsrc : AppSrc P ei z w xt u ys.length us) (hus : RepCells w φ (OK G bx φ w) (flatC ys) us)
    (hst : b.st = ei.size) (hend : off + len = b.elems.length) (hbytes : (len + ys.length) * ei.bytes ≤ 140737488355328) (hpos : 0 < ei.bytes) :
    ∃ v w' φ', (Builtin.append_ #[t, xt] ty' #[us0, u]).run P w = .ok v w' ∧
      Rep w' φ' (OK G ((nx, some ⟨b.elems.drop off ++ ys, ei.size, true, b.ro⟩) :: (id, none) :: bx) φ' w') (.sl nx 0 (len + ys.length) (len + ys.length)) v ∧
      Adv G bx φ w ((nx, some ⟨b.elems.drop off ++ ys, ei.size, true, b.ro⟩) :: (id, none) :: bx) (nx + 1) φ' w' := by
  obtain ⟨L, hL, hr, hm⟩ := hrel.box id b hb
  cases hs with | sl _ _ _ _ L' a c hL' hS =>
  obtain rfl : L = L' := by rw [hL] at hL'; exact Option.some.inj hL'
  have hstL : L.st = ei.size := by rw [← hr.st]; exact hst
  obtain ⟨s1, s2, s3, s4, s5⟩ := hS
  have hidn : id ≠ nx := by intro e; subst e; rw [hrel.dom id (Nat.le_refl _)] at hL; cases hL
  have hdl : (b.elems.drop off).length = len := by simp; omega
  have hgetE : ∀ i : Nat, (b.elems.drop off ++ ys)[i]? = if i < len then b.elems[off + i]? else if i < len + ys.length then ys[i - len]? else b.elems[off + i]? := by
    intro i
    rw [List.getElem?_append, hdl]
    split
    · rw [List.getElem?_drop]
    · split
      · rfl
      · rw [List.getElem?_eq_none (by omega), List.getElem?_eq_none (by omega)]
  have hlenE : ∀ (i : Nat) (x : AV), (b.elems.drop off ++ ys)[i]? = some x → okCells ei.size x := by
    intro i x hx
    rw [hgetE] at hx
    split at hx
    · rw [← hstL]; exact hr.len _ x hx
    · split at hx
      · exact hys _ x hx
      · rw [← hstL]; exact hr.len _ x hx
  by_cases hfit : len + ys.length ≤ c
  · -- there is room
    by_cases hc0 : c = 0
    · -- nothing is there, nothing comes
      have hl0 : len = 0 := by omega
      have hy0 : ys = [] := List.length_eq_zero_iff.1 (by omega)
      subst hl0; subst hy0; subst hc0
      have hu0 : us = [] := List.length_eq_zero_iff.1 (by simpa using hul)
      subst hu0
      have hd0 : b.elems.drop off = [] := List.length_eq_zero_iff.1 hdl
      have hrun : (Builtin.append_ #[t, xt] ty' #[.slice a 0 0, u]).run P w = .ok (.slice a 0 0) w := by
        rw [run_append_fits t xt ty' hu T hsrc hfit hul]
        cases a <;> simp [storeCells]
      have hA := (hrel.add_box (.refl w) (L := ⟨0, 0, ei.size, 0, true, true⟩) (b := ⟨[], ei.size, true, b.ro⟩) (fun h => (by cases h)) rfl rfl (fun i x h => (by simp at h)) (fun _ => rfl) (fun h => (by cases h)) (fun h => (by cases h)))
      have hW := hA.rel.weaken (bx' := (nx, some ⟨[], ei.size, true, b.ro⟩) :: (id, none) :: bx) (Nat.le_refl _) (fun i b' hi => by
        rw [box?_cons, box?_cons] at hi
        by_cases e1 : nx = i
        · rw [if_pos e1] at hi
          exact ⟨b', by rw [box?_cons, if_pos e1]; exact hi, rfl, rfl, rfl, fun h => h⟩
        · rw [if_neg e1] at hi
          by_cases e2 : id = i
          · rw [if_pos e2] at hi; cases hi
          · rw [if_neg e2] at hi
            exact ⟨b', by rw [box?_cons, if_neg e1]; exact hi, rfl, rfl, rfl, fun h => h⟩)
      rw [hd0]
      refine ⟨_, w, _, hrun, ?_, hA.trans hW⟩
      exact .sl nx 0 0 0 ⟨0, 0, ei.size, 0, true, true⟩ a 0 (by simp [upd]) ⟨Nat.le_refl _, Nat.le_refl _, fun h => (by cases h), s4, fun h => absurd rfl h⟩
    · obtain ⟨s6, s7, s8⟩ := s5 hc0
      subst s7
      obtain ⟨cs, T0, fr, e1, e2, e3, e4⟩ := hr.lies s6
      have hmul : (off + len) * L.st + us.length ≤ (off + c) * L.st := by
        rw [hul, ← hstL, ← Nat.add_mul]
        exact Nat.mul_le_mul_right _ (by omega)
      have hW := wrote (b := L.blk) (T := T0) (fr := fr) us w (L.base + (off + len) * L.st) cs e1 (by omega)
      have hrun : (Builtin.append_ #[t, xt] ty' #[.slice (some ⟨L.blk, L.base + off * L.st, none⟩) len c, u]).run P w =
          .ok (.slice (some ⟨L.blk, L.base + off * L.st, none⟩) (len + ys.length) c) (wrow w L.blk (L.base + (off + len) * L.st) us) := by
        rw [run_append_fits t xt ty' hu T hsrc hfit hul]
        have ho : L.base + off * L.st + len * ei.size = L.base + (off + len) * L.st := by rw [← hstL, Nat.add_mul]; omega
        simp only [Addr.add_lit, ho]
        rw [run_storeCells (P := P) (b := L.blk) (T := T0) (fr := fr) (L.base + (off + len) * L.st) us w 0 cs e1 (by omega) (by rw [e2]; exact e4) (repCells_one_ok hus (by
          intro y hy
          obtain ⟨k, hk⟩ := List.getElem?_of_mem hy
          obtain ⟨x, g1, g2, _⟩ := flatC_at ys (fun i x h => (hys i x h).1) k y hk
          exact (hys _ x g1).2 y (List.mem_of_getElem? g2)))]
        simp
      obtain ⟨c1, c2⟩ := cont_of_wrote hr s6 (off := off) (m := len) (ys := ys) hW e1 hus (by rw [hstL]; exact hys) hgetE
      have hA := hrel.turn_box hb hL s6 hW e1 (fun _ => by rw [← hend]; exact Nat.le_refl _) (b' := ⟨b.elems.drop off ++ ys, ei.size, true, b.ro⟩) (L' := ⟨L.blk, L.base + off * L.st, L.st, L.size, true, false⟩)
        rfl rfl rfl hstL.symm rfl c1 (by
          simp only [List.length_append, hdl]
          have : off * L.st + (len + ys.length) * L.st ≤ (off + c) * L.st := by rw [← Nat.add_mul]; exact Nat.mul_le_mul_right _ (by omega)
          omega) (fun h => ⟨h, by
          simp only [List.length_append, hdl]
          have : (off + len) * L.st ≤ off * L.st + (len + ys.length) * L.st := by rw [← Nat.add_mul]; exact Nat.mul_le_mul_right _ (by omega)
          rw [← hend]
          omega⟩) c2
      refine ⟨_, _, _, hrun, ?_, hA⟩
      refine .sl nx 0 _ _ ⟨L.blk, L.base + off * L.st, L.st, L.size, true, false⟩ _ c (by simp [upd]) ⟨Nat.le_refl _, hfit, fun h => (by cases h), fun x hx => (by simp at hx; rw [← hx]), fun _ => ⟨rfl, by simp, ?_⟩⟩
      simp only [Nat.zero_add]
      rw [Nat.add_mul] at s8
      omega
  · -- a new row
    have hold : ∃ olds : List Value, olds.length = len * ei.size ∧ (Builtin.firstCells ei.size len (.slice a len c)).run P w.drew = .ok olds.toArray w.drew ∧ RepCells w φ (OK G bx φ w) (flatC (b.elems.drop off)) olds := by
      by_cases h0 : len = 0
      · subst h0
        have hd0 : b.elems.drop off = [] := List.length_eq_zero_iff.1 hdl
        refine ⟨[], by simp, ?_, by rw [hd0]; exact ⟨rfl, fun i x v h => (by simp [flatC] at h)⟩⟩
        cases a <;> simp [Builtin.firstCells, loadCells, loadCellsFrom]
      · obtain ⟨s6, s7, s8⟩ := s5 (by omega)
        subst s7
        obtain ⟨olds, g1, g2, g3⟩ := cells_of_list (w := w) (φ := φ) (ok := OK G bx φ w) (ys := b.elems.drop off) (st := ei.size) (fun i x hi => by
            rw [List.getElem?_drop] at hi; rw [← hstL]; exact hr.len _ x hi) (b := L.blk) (o := L.base + off * L.st) (fun i x j y hi hj => by
          rw [List.getElem?_drop] at hi
          obtain ⟨v, e1, e3⟩ := hr.cont s6 _ x j y hi hj
          refine ⟨v, ?_, e3⟩
          rw [← e1, ← hstL, Nat.add_mul]
          congr 2
          omega)
        rw [hdl] at g1
        exact ⟨olds, g1, run_first g1 (w := w.drew) g2, g3⟩
    obtain ⟨olds, g1, g2, g3⟩ := hold
    have h63 : ((len + ys.length : Nat) : Int) ≤ 9223372036854775807 := by
      have : (len + ys.length) * 1 ≤ (len + ys.length) * ei.bytes := Nat.mul_le_mul_left _ hpos
      omega
    have hrun := run_append_grows t xt ty' hu T (base := a) (cap := c) hsrc hfit hul hbytes h63 hpos g2
    have hall : RepCells w φ (OK G bx φ w) (flatC (b.elems.drop off ++ ys)) (olds ++ us) := by
      have : flatC (b.elems.drop off ++ ys) = flatC (b.elems.drop off) ++ flatC ys := by simp [flatC]
      rw [this]
      refine ⟨by simp [g3.1, hus.1], fun i x v hi hv => ?_⟩
      rw [List.getElem?_append] at hi hv
      rw [g3.1] at hv
      split at hi
      · rename_i hlt; rw [if_pos hlt] at hv; exact g3.2 i x v hi hv
      · rename_i hlt; rw [if_neg hlt] at hv; exact hus.2 _ x v hi hv
    have hgr := grown_ge w (len + ys.length) c e
    have hA := new_row hrel (.drew w) rfl (st := ei.size) (E := b.elems.drop off ++ ys) (us := olds ++ us) (rest := Builtin.zeroCells z.cells (grownCap w (len + ys.length) c e - (len + ys.length))) e
      (c := grownCap w (len + ys.length) c e) true hall hlenE (by simp only [List.length_append, hdl]; exact hgr) (by
        simp only [Array.size_append, List.size_toArray, List.length_append, g1, hul]
        simp only [Builtin.zeroCells, Array.size_map, Array.size_range, T.cells, ← Nat.add_mul]
        congr 1
        omega)
    have hW := hA.rel.weaken (bx' := (nx, some ⟨b.elems.drop off ++ ys, ei.size, true, b.ro⟩) :: (id, none) :: bx) (Nat.le_refl _) (fun i b' hi => by
        rw [box?_cons, box?_cons] at hi
        by_cases e1 : nx = i
        · rw [if_pos e1] at hi
          obtain rfl := Option.some.inj hi
          exact ⟨⟨b.elems.drop off ++ ys, ei.size, true, false⟩, by rw [box?_cons, if_pos e1], rfl, rfl, rfl, fun h => (by cases h)⟩
        · rw [if_neg e1] at hi
          by_cases e2 : id = i
          · rw [if_pos e2] at hi; cases hi
          · rw [if_neg e2] at hi
            exact ⟨b', by rw [box?_cons, if_neg e1]; exact hi, rfl, rfl, rfl, fun h => h⟩)
    refine ⟨.slice (some ⟨w.heap.size, 0, none⟩) (len + ys.length) (grownCap w (len + ys.length) c e), _, _, ?_, ?_, hA.trans hW⟩
    · rw [hrun]
      congr 3
      apply Array.ext'
      simp
    · exact rep_new_row nx (Nat.le_refl _) hgr (fun h => (by cases h)) rfl
end

end Go.Av
