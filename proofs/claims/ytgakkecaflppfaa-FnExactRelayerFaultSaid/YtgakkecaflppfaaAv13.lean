/- Variables, stores, rows made, rows cleared. -/
import Derived.Test.YtgakkecaflppfaaAv12
namespace Go.Av

section
variable {P : Program} {ty : TypeId → Option TI} {G : Gh} {bx : List (Nat × Option Box)} {nx : Nat} {φ : Nat → Option Loc} {w : World}

/-- The cells of an element among written ones. -/
theorem cont_of_wrote {w' : World} {L : Loc} {b : Box} (hr : BoxRep w φ (OK G bx φ w) L b) (hv : L.virt = false) {off m : Nat} {ys : List AV} {us : List Value} {cs : Array Value} {T : TypeId} {fr : Nat × Nat}
    (hw : Wrote w w' L.blk (L.base + (off + m) * L.st) us cs T fr) (hcs : w.heap[L.blk]? = some (.cells cs T fr)) (hus : RepCells w φ (OK G bx φ w) (flatC ys) us)
    (hys : ∀ (i : Nat) (x : AV), ys[i]? = some x → okCells L.st x) {E : List AV}
    (hE : ∀ i : Nat, E[i]? = if i < m then b.elems[off + i]? else if i < m + ys.length then ys[i - m]? else b.elems[off + i]?) :
    (∀ (i : Nat) (x : AV), E[i]? = some x → okCells L.st x) ∧
    ∀ (i : Nat) (x : AV) (j : Nat) (y : AV), E[i]? = some x → x.cells[j]? = some y → ∃ v, w'.cell? ⟨L.blk, L.base + off * L.st + i * L.st + j, none⟩ = some v ∧ Rep w φ (OK G bx φ w) y v := by
  have hlen : ∀ (i : Nat) (x : AV), E[i]? = some x → okCells L.st x := by
    intro i x hx
    rw [hE] at hx
    split at hx
    · exact hr.len _ x hx
    · split at hx
      · exact hys _ x hx
      · exact hr.len _ x hx
  refine ⟨hlen, fun i x j y hx hy => ?_⟩
  have hj : j < L.st := by
    have := (List.getElem?_eq_some_iff.1 hy).1
    rwa [(hlen i x hx).1] at this
  obtain ⟨cs', e1, e2, e3⟩ := hw.here
  have hul : us.length = ys.length * L.st := by rw [hus.1, flatC_length ys (fun i x h => (hys i x h).1)]
  have hcell : w'.cell? ⟨L.blk, L.base + off * L.st + i * L.st + j, none⟩ = cs'[L.base + off * L.st + i * L.st + j]? := by simp [World.cell?, e1]
  have hold : ∀ (v : Value), w.cell? ⟨L.blk, L.base + (off + i) * L.st + j, none⟩ = some v → cs[L.base + off * L.st + i * L.st + j]? = some v := by
    intro v h
    rw [show L.base + (off + i) * L.st + j = L.base + off * L.st + i * L.st + j by rw [Nat.add_mul]; omega] at h
    simpa [World.cell?, hcs] using h
  rw [hE] at hx
  rw [hcell, e3]
  have hmm : (off + m) * L.st = off * L.st + m * L.st := Nat.add_mul _ _ _
  split at hx
  · rename_i hi
    obtain ⟨v, h1, h2⟩ := hr.cont hv _ x j y hx hy
    have : (i + 1) * L.st ≤ m * L.st := Nat.mul_le_mul_right _ hi
    rw [Nat.succ_mul] at this
    rw [if_neg (by omega)]
    exact ⟨v, hold v h1, h2⟩
  · rename_i hi
    split at hx
    · rename_i hi2
      have hfy := flatC_get ys (fun i x h => (hys i x h).1) _ x j y hx hy
      have hsub : (i - m) * L.st = i * L.st - m * L.st := Nat.sub_mul _ _ _
      have h3 : m * L.st ≤ i * L.st := Nat.mul_le_mul_right _ (by omega)
      have h4 : (i - m + 1) * L.st ≤ ys.length * L.st := Nat.mul_le_mul_right _ (by omega)
      rw [Nat.succ_mul] at h4
      rw [if_pos (by omega)]
      obtain ⟨v, hvv⟩ : ∃ v, us[(i - m) * L.st + j]? = some v := ⟨_, List.getElem?_eq_getElem (by omega)⟩
      refine ⟨v, ?_, hus.2 _ y v hfy hvv⟩
      rw [← hvv]
      congr 1
      omega
    · rename_i hi2
      obtain ⟨v, h1, h2⟩ := hr.cont hv _ x j y hx hy
      have h3 : (m + ys.length) * L.st ≤ i * L.st := Nat.mul_le_mul_right _ (by omega)
      rw [Nat.add_mul] at h3
      rw [if_neg (by omega)]
      exact ⟨v, hold v h1, h2⟩

theorem repCells_one {ok : Nat → Nat → Prop} {st : Nat} {x : AV} {v : Value} (h : Rep w φ ok x v) (k : okCells st x) : RepCells w φ ok x.cells v.cells.toList := by
  refine h.cells ?_
  rintro rfl
  have := k.2 .undef (by simp [AV.cells])
  cases this

theorem repCells_one_ok {ok : Nat → Nat → Prop} {cs : List AV} {vs : List Value} (h : RepCells w φ ok cs vs) (k : ∀ y ∈ cs, y.cellOk = true) : ∀ v ∈ vs, v.oneCell' = true := by
  intro v hv
  obtain ⟨i, hi⟩ := List.getElem?_of_mem hv
  have hl : i < cs.length := by rw [← h.1]; exact (List.getElem?_eq_some_iff.1 hi).1
  have hx := List.getElem?_eq_getElem hl
  exact (h.2 i _ v hx hi).oneCell (k _ (List.mem_of_getElem? hx))

/-- A variable of its own. -/
theorem new_var (hrel : Rel G bx nx φ w) {st : Nat} {x : AV} {arr : Array Value} (T : TypeId) (hc : RepCells w φ (OK G bx φ w) x.cells arr.toList) (hk : okCells st x) :
    Adv G bx φ w ((nx, some ⟨[x], st, false, false⟩) :: bx) (nx + 1) (upd φ nx ⟨w.heap.size, 0, st, arr.size, false, false⟩) (w.alloc (.cells arr T)) ∧
    Rep (w.alloc (.cells arr T)) (upd φ nx ⟨w.heap.size, 0, st, arr.size, false, false⟩) (OK G ((nx, some ⟨[x], st, false, false⟩) :: bx) (upd φ nx ⟨w.heap.size, 0, st, arr.size, false, false⟩) (w.alloc (.cells arr T))) (.ptr nx 0 0)
      (.pointer (some ⟨w.heap.size, 0, none⟩)) := by
  have hsz : arr.size = st := by have := hc.1; simp [hk.1] at this; exact this
  have hone : ∀ (i : Nat) (y : AV), ([x] : List AV)[i]? = some y → i = 0 ∧ y = x := by
    intro i y h
    cases i with
    | zero => simp at h; exact ⟨rfl, h.symm⟩
    | succ i => simp at h
  constructor
  · refine hrel.add_box (.alloc w _) (fun _ => Nat.le_refl _) rfl rfl (fun i y h => by obtain ⟨_, rfl⟩ := hone i y h; exact hk) (fun h => by cases h) (fun _ => ?_) (fun _ i y j z h hz => ?_)
    · refine ⟨arr, T, (0, 0), by simp [World.alloc, -World.alloc_eq], rfl, by simp [hsz], fun o _ => by simp⟩
    · obtain ⟨rfl, rfl⟩ := hone i y h
      have hj : j < arr.size := by rw [hsz, ← hk.1]; exact (List.getElem?_eq_some_iff.1 hz).1
      have hv : arr[j]? = some arr[j] := Array.getElem?_eq_getElem hj
      refine ⟨arr[j], ?_, hc.2 j z _ hz (by rw [Array.getElem?_toList]; exact hv)⟩
      rw [World.cell?_alloc_new, Nat.zero_mul, Nat.zero_add]
      exact hv
  · have := Rep.ptr (w := w.alloc (.cells arr T)) (φ := upd φ nx ⟨w.heap.size, 0, st, arr.size, false, false⟩)
      (ok := OK G ((nx, some ⟨[x], st, false, false⟩) :: bx) (upd φ nx ⟨w.heap.size, 0, st, arr.size, false, false⟩) (w.alloc (.cells arr T))) nx 0 0 ⟨w.heap.size, 0, st, arr.size, false, false⟩ (by simp [upd]) rfl
    simpa using this

def storeStep (ty : TypeId → Option TI) (bx : List (Nat × Option Box)) (t : TypeId) (a v : AV) : Option (Prop × List (Nat × Option Box)) :=
  match ty t, a with
  | some ti, .ptr id e k => match box? bx id with
    | some b =>
      if k = 0 ∧ ti.size = b.st then
        some (e < b.elems.length ∧ b.ro = false ∧ okCells ti.size v, (id, some { b with elems := b.elems.set e v }) :: bx)
      else match b.elems.getD e .undef with
        | .agg cs => some (e < b.elems.length ∧ b.ro = false ∧ okCells ti.size v ∧ k + ti.size ≤ cs.length, (id, some { b with elems := b.elems.set e (.agg (splice cs k v.cells)) }) :: bx)
        | _ => none
    | none => none
  | _, _ => none

theorem store_ok (hty : TyOk P ty) (hrel : Rel G bx nx φ w) {t : TypeId} {a v : AV} {ua uv : Value} (ha : Rep w φ (OK G bx φ w) a ua) (hv : Rep w φ (OK G bx φ w) v uv)
    {p : Prop} {bx' : List (Nat × Option Box)} (h : storeStep ty bx t a v = some (p, bx')) (hp : p) :
    ∃ w', (Instr.storeAt t ua uv).run P w = .ok () w' ∧ Adv G bx φ w bx' nx φ w' := by
  unfold storeStep at h
  split at h
  · rename_i ti id e k ht
    split at h
    · rename_i b hb
      obtain ⟨d, f, z, T⟩ := hty.at ht
      obtain ⟨L, hL, hr, hm⟩ := hrel.box id b hb
      cases ha with | ptr _ _ _ L' hL' hvirt =>
      obtain rfl : L = L' := by rw [hL] at hL'; exact Option.some.inj hL'
      -- what is common: the row written, and what its element is then
      have common : e < b.elems.length → b.ro = false → okCells ti.size v → ∀ (x' : AV), okCells L.st x' → k + ti.size ≤ L.st →
          (∀ (j : Nat) (y : AV), x'.cells[j]? = some y → if k ≤ j ∧ j < k + ti.size then v.cells[j - k]? = some y else (b.elems.getD e .undef).cells[j]? = some y) →
          ∃ w', (Instr.storeAt t (.pointer (some ⟨L.blk, L.base + e * L.st + k, none⟩)) uv).run P w = .ok () w' ∧ Adv G bx φ w ((id, some { b with elems := b.elems.set e x' }) :: bx) nx φ w' := by
        intro he hro hk x' hx' hfit hcells
        obtain ⟨cs, T0, fr, e1, e2, e3, e4⟩ := hr.lies hvirt
        have hvc := repCells_one hv hk
        have hus : uv.cells.toList.length = ti.size := by rw [hvc.1, hk.1]
        have hlt : (e + 1) * L.st ≤ b.elems.length * L.st := Nat.mul_le_mul_right _ he
        rw [Nat.succ_mul] at hlt
        have hW := wrote (b := L.blk) (T := T0) (fr := fr) uv.cells.toList w (L.base + e * L.st + k) cs e1 (by omega)
        refine ⟨wrow w L.blk (L.base + e * L.st + k) uv.cells.toList, ?_, ?_⟩
        · have hn : uv.cells.size = ti.size := by simpa using hus
          have hne : ¬ (uv.cells.size ≠ ti.size) := by omega
          simp only [Instr.storeAt, Instr.sureAddr, pure_bind, storeVar, Sem.run_bind, T.run_sizeOf, Result.andThen_ok, if_neg hne]
          rw [run_storeCells (P := P) (b := L.blk) (T := T0) (fr := fr) (L.base + e * L.st + k) uv.cells.toList w 0 cs e1 (by omega) (by rw [e2]; exact e4)
            (repCells_one_ok hvc hk.2)]
          rfl
        · refine hrel.store_box hb hL hvirt hW e1 hro rfl rfl hro (by simp) (fun i x hx => ?_) (fun i x j y hx hy => ?_)
          · rw [List.getElem?_set] at hx
            split at hx
            · first
              | (split at hx
                 · obtain rfl := Option.some.inj hx; exact hx'
                 · cases hx)
              | (obtain rfl := Option.some.inj hx; exact hx')
            · exact hr.len i x hx
          · obtain ⟨cs', g1, g2, g3⟩ := hW.here
            have hcell : (wrow w L.blk (L.base + e * L.st + k) uv.cells.toList).cell? ⟨L.blk, L.base + i * L.st + j, none⟩ = cs'[L.base + i * L.st + j]? := by simp [World.cell?, g1]
            have hold : ∀ o, w.cell? ⟨L.blk, o, none⟩ = cs[o]? := fun o => by simp [World.cell?, e1]
            rw [hcell, g3, hus]
            rw [List.getElem?_set] at hx
            split at hx
            · rename_i hei
              subst hei
              have hx0 : x' = x := by
                first
                | (split at hx
                   · exact Option.some.inj hx
                   · cases hx)
                | exact Option.some.inj hx
              · obtain rfl := hx0
                have hj := (List.getElem?_eq_some_iff.1 hy).1
                rw [hx'.1] at hj
                have hc := hcells j y hy
                split at hc
                · rename_i hin
                  rw [if_pos (by omega)]
                  obtain ⟨u, hu⟩ : ∃ u, uv.cells.toList[j - k]? = some u := ⟨_, List.getElem?_eq_getElem (by omega)⟩
                  refine ⟨u, ?_, hvc.2 _ y u hc hu⟩
                  rw [← hu]; congr 1; omega
                · rename_i hin
                  rw [if_neg (by omega)]
                  obtain ⟨u, h1, h2⟩ := hr.cont hvirt e _ j y (getElem?_getD .undef he) hc
                  rw [hold] at h1
                  exact ⟨u, h1, h2⟩
            · rename_i hei
              obtain ⟨u, h1, h2⟩ := hr.cont hvirt i x j y hx hy
              rw [hold] at h1
              have hj := (List.getElem?_eq_some_iff.1 hy).1
              rw [(hr.len i x hx).1] at hj
              refine ⟨u, ?_, h2⟩
              rw [if_neg ?_]
              · exact h1
              · intro hin
                rcases Nat.lt_or_gt_of_ne (fun h => hei h.symm : i ≠ e) with hlt' | hlt'
                · have : (i + 1) * L.st ≤ e * L.st := Nat.mul_le_mul_right _ hlt'
                  rw [Nat.succ_mul] at this
                  omega
                · have : (e + 1) * L.st ≤ i * L.st := Nat.mul_le_mul_right _ hlt'
                  rw [Nat.succ_mul] at this
                  omega
      split at h
      · rename_i hk
        obtain ⟨rfl, hk2⟩ := hk
        simp only [Option.some.injEq, Prod.mk.injEq] at h
        obtain ⟨rfl, rfl⟩ := h
        obtain ⟨he, hro, hok⟩ := hp
        have hst : ti.size = L.st := hk2.trans hr.st
        refine common he hro hok v (by rw [← hst]; exact hok) (by omega) (fun j y hy => ?_)
        have hj := (List.getElem?_eq_some_iff.1 hy).1
        rw [hok.1] at hj
        rw [if_pos (by omega)]
        exact hy
      · split at h
        · rename_i cs hx
          simp only [Option.some.injEq, Prod.mk.injEq] at h
          obtain ⟨rfl, rfl⟩ := h
          obtain ⟨he, hro, hok, hfit⟩ := hp
          have hel := hr.len e _ (getElem?_getD .undef he)
          rw [hx] at hel
          have hcl : cs.length = L.st := hel.1
          refine common he hro hok (.agg (splice cs k v.cells)) ⟨?_, ?_⟩ (by omega) (fun j y hy => ?_)
          · simp only [AV.cells_agg]
            rw [splice_length _ _ _ (by rw [hok.1]; omega), hcl]
          · intro y hy
            simp only [AV.cells_agg, splice, List.mem_append] at hy
            rcases hy with (hy | hy) | hy
            · exact hel.2 y (List.mem_of_mem_take hy)
            · exact hok.2 y hy
            · exact hel.2 y (List.mem_of_mem_drop hy)
          · simp only [AV.cells_agg] at hy
            rw [splice_get _ _ _ (by rw [hok.1]; omega), hok.1] at hy
            rw [hx]
            simp only [AV.cells_agg]
            split
            · rename_i hin; rw [if_neg (by omega), if_pos (by omega)] at hy; exact hy
            · rename_i hin
              split at hy
              · exact hy
              · rename_i h5; rw [if_neg (by omega)] at hy; exact hy
        · cases h
    · cases h
  · cases h
end

end Go.Av
