/- What a caller's data is, by value: from the data's reading to a picture. -/
import Derived.Test.YtgakkecaflppfaaAv30
import Derived.ChangeArms
import Derived.OpenShut
set_option linter.unusedSimpArgs false
set_option linter.unusedVariables false
namespace Go.Av

def leafF (g : TypeId → Option (List TypeId)) : Nat → List (Nat × TypeId) → Option (List TypeId)
  | _, [] => some []
  | k, (off, ft) :: r => if off = k then match g ft with
    | some a => (leafF g (k + a.length) r).map (a ++ ·)
    | none => none
    else none

/-- The types of a type's cells. -/
def leafs (ty : TypeId → Option TI) : Nat → TypeId → Option (List TypeId)
  | 0, _ => none
  | n + 1, t => match ty t with
    | none => none
    | some ti => match ti.k with
      | .struct fs => match leafF (leafs ty n) 0 fs with
        | some l => if l.length = ti.size then some l else none
        | none => none
      | .arr _ _ => none
      | .ptr => none
      | .other => none
      | _ => some [t]

/-- The cells of a type, and what they lead to. -/
def TyN (ty : TypeId → Option TI) : Nat → TypeId → List AV → Prop
  | 0, _, _ => False
  | n + 1, t, cs => ∃ ls, leafs ty 8 t = some ls ∧ cs.length = ls.length ∧ ∀ (j : Nat) (u : TypeId) (v : AV), ls[j]? = some u → cs[j]? = some v →
    match (ty u).map TI.k with
    | some (.int k) => ∃ i, v = .int k i ∧ k.min ≤ i ∧ i ≤ k.max
    | some .bool => ∃ b, v = .bool b
    | some .str => ∃ s : ByteArray, v = .str s ∧ s.size ≤ maxLen
    | some (.slice e) => ∃ ei xs, ty e = some ei ∧ v = .ls ei.size true false xs ∧ xs.length ≤ maxLen ∧
      ∀ x ∈ xs, TyN ty n e x.cells ∧ x = (if isAggK ei.k then .agg x.cells else x.cells.getD 0 .undef)
    | _ => False

def flatT (ty : TypeId → Option TI) (t : TypeId) : Bool :=
  match leafs ty 8 t with
  | some ls => ls.all fun u => match (ty u).map TI.k with | some (.int _) | some .bool | some .str => true | _ => false
  | none => false

def suppN (ty : TypeId → Option TI) (t : TypeId) : Bool :=
  match leafs ty 8 t with
  | some ls => ls.all fun u => match (ty u).map TI.k with
    | some (.int _) | some .bool | some .str => true
    | some (.slice e) => flatT ty e && match ty e with | some ei => decide (0 < ei.size) && (isAggK ei.k || decide (ei.size = 1)) | none => false
    | _ => false
  | none => false

section
variable {H : Type} {enc : TypeId × Value → H} {P : Program} {ty : TypeId → Option TI} {W : World} {sp : Nat → Bool}

theorem cellsOf_eq (hty : TyOk P ty) {t : TypeId} {ti : TI} (h : ty t = some ti) : P.cellsOf t = ti.size := by
  obtain ⟨d, f, z, T⟩ := hty.at h
  simp [Program.cellsOf, T.info, T.size]

theorem trod_leafs (hty : TyOk P ty) : ∀ (n : Nat) (t : TypeId) (ls : List TypeId) (fuel : Nat) (cs : List Value) (x : DataW H × List MemPlace), leafs ty n t = some ls → DataW.trod enc P W 0 sp true fuel t cs = some x →
    cs.length = ls.length ∧ ∀ (j : Nat) (u : TypeId) (v : Value), ls[j]? = some u → cs[j]? = some v → ∃ f y, DataW.trod enc P W 0 sp true f u [v] = some y
  | 0, t, ls, fuel, cs, x, h, _ => by cases h
  | n + 1, t, ls, fuel, cs, x, h, hx => by
    have one : ls = [t] → cs.length = 1 → cs.length = ls.length ∧ ∀ (j : Nat) (u : TypeId) (v : Value), ls[j]? = some u → cs[j]? = some v → ∃ f y, DataW.trod enc P W 0 sp true f u [v] = some y := by
      intro e hl
      subst e
      obtain ⟨v, rfl⟩ : ∃ v, cs = [v] := by
        match cs, hl with
        | [v], _ => exact ⟨v, rfl⟩
      refine ⟨rfl, fun j u w h1 h2 => ?_⟩
      cases j with
      | zero => simp at h1 h2; subst h1; subst h2; exact ⟨fuel, x, hx⟩
      | succ j => simp at h1
    simp only [leafs] at h
    cases ht : ty t with
    | none => rw [ht] at h; cases h
    | some ti =>
      rw [ht] at h
      obtain ⟨d, f, z, T⟩ := hty.at ht
      simp only at h
      cases hk : ti.k with
      | struct fs =>
        rw [hk] at h
        obtain ⟨a, hd, rfl⟩ := T.struct hk
        have hund := T.und
        rw [hd] at hund
        obtain ⟨xs, m, rfl, _, hl, hxl, hfs⟩ := DataW.trod_struct hund hx
        rw [cellsOf_eq hty ht] at hl
        simp only at h
        cases hF : leafF (leafs ty n) 0 (a.toList.map fun f => (f.offset, f.type)) with
        | none => rw [hF] at h; cases h
        | some l =>
          rw [hF] at h
          simp only at h
          split at h
          · rename_i hsz
            obtain rfl := Option.some.inj h
            refine ⟨by rw [hl, hsz], ?_⟩
            -- field by field
            have key : ∀ (fl : List Field) (k : Nat) (l : List TypeId), leafF (leafs ty n) k (fl.map fun f => (f.offset, f.type)) = some l → (∀ f ∈ fl, ∃ y, DataW.trod enc P W 0 sp true m f.type ((cs.drop f.offset).take (P.cellsOf f.type)) = some y) →
                ∀ (j : Nat) (u : TypeId) (v : Value), l[j]? = some u → cs[k + j]? = some v → ∃ f y, DataW.trod enc P W 0 sp true f u [v] = some y := by
              intro fl
              induction fl with
              | nil => intro k l h _ j u v h1; simp [leafF] at h; subst h; simp at h1
              | cons f fl ih =>
                intro k l h hall j u v h1 h2
                simp only [List.map_cons, leafF] at h
                split at h
                · rename_i hoff
                  split at h
                  · rename_i la hla
                    simp only [Option.map_eq_some_iff] at h
                    obtain ⟨r, hr, rfl⟩ := h
                    obtain ⟨y, hy⟩ := hall f (by simp)
                    obtain ⟨g1, g2⟩ := trod_leafs hty n f.type la m _ y hla hy
                    by_cases hj : j < la.length
                    · rw [List.getElem?_append_left hj] at h1
                      refine g2 j u v h1 ?_
                      have hlt : j < ((cs.drop f.offset).take (P.cellsOf f.type)).length := by omega
                      simp only [List.length_take, List.length_drop] at hlt
                      rw [List.getElem?_take_of_lt (by omega), List.getElem?_drop, hoff]
                      exact h2
                    · rw [List.getElem?_append_right (by omega)] at h1
                      refine ih (k + la.length) r hr (fun f hf => hall f (by simp [hf])) (j - la.length) u v h1 ?_
                      rw [show k + la.length + (j - la.length) = k + j by omega]
                      exact h2
                  · cases h
                · cases h
            intro j u v h1 h2
            refine key a.toList 0 _ hF (fun f hf => ?_) j u v h1 (by simpa using h2)
            obtain ⟨i, hi⟩ := List.mem_iff_getElem?.1 hf
            have h3 := hfs i f (by simpa using hi)
            have hix : i < xs.length := by
              rw [hxl]
              have := (List.getElem?_eq_some_iff.1 hi).1
              simpa using this
            exact ⟨xs[i], by rw [h3]; simp⟩
          · cases h
      | int k =>
        rw [hk] at h
        obtain rfl := Option.some.inj h
        have hund := T.und
        rw [T.int hk] at hund
        obtain ⟨i, rfl, _, _⟩ := DataW.trod_int hund hx
        exact one rfl rfl
      | bool =>
        rw [hk] at h
        obtain rfl := Option.some.inj h
        have hund := T.und
        rw [T.bool hk] at hund
        obtain ⟨i, rfl, _⟩ := DataW.trod_bool hund hx
        exact one rfl rfl
      | str =>
        rw [hk] at h
        obtain rfl := Option.some.inj h
        have hund := T.und
        rw [T.str hk] at hund
        obtain ⟨i, rfl, _, _⟩ := DataW.trod_string hund hx
        exact one rfl rfl
      | slice e =>
        rw [hk] at h
        obtain rfl := Option.some.inj h
        have hund := T.und
        rw [T.slice hk] at hund
        rcases DataW.trod_slice hund hx with ⟨rfl, _⟩ | ⟨a, len, cap, elems, rest, n', _, rfl, _⟩
        · exact one rfl rfl
        · exact one rfl rfl
      | arr n e => rw [hk] at h; cases h
      | ptr => rw [hk] at h; cases h
      | other => rw [hk] at h; cases h

theorem choose_list {α β : Type} : ∀ (cs : List β) (p : Nat → α → β → Prop), (∀ j v, cs[j]? = some v → ∃ a, p j a v) → ∃ l : List α, l.length = cs.length ∧ ∀ (j : Nat) (v : β) (a : α), cs[j]? = some v → l[j]? = some a → p j a v
  | [], p, _ => ⟨[], rfl, fun j v a h => by simp at h⟩
  | c :: cs, p, h => by
    obtain ⟨a, ha⟩ := h 0 c rfl
    obtain ⟨l, h1, h2⟩ := choose_list cs (fun j => p (j + 1)) (fun j v e => h (j + 1) v (by simpa using e))
    refine ⟨a :: l, by simp [h1], fun j v a' e1 e2 => ?_⟩
    cases j with
    | zero => simp at e1 e2; subst e1; subst e2; exact ha
    | succ j => simp at e1 e2; exact h2 j v a' e1 e2

theorem cell_block {b o : Nat} {v : Value} (h : W.cell? ⟨b, o, none⟩ = some v) : b < W.heap.size := by
  unfold World.cell? at h
  split at h
  · rename_i hb; exact (Array.getElem?_eq_some_iff.1 hb).1
  · cases h

/-- A cell of a plain kind. -/
theorem leaf_flat (hty : TyOk P ty) {u : TypeId} {f : Nat} {v : Value} {y : DataW H × List MemPlace} (h : DataW.trod enc P W 0 sp true f u [v] = some y)
    (hu : (match (ty u).map TI.k with | some (.int _) | some .bool | some .str => true | _ => false) = true) {ok : Nat → Nat → Prop} :
    ∃ a : AV, a.cells = [a] ∧ a.cellOk = true ∧ Rep W NoLoc ok a v ∧ (∀ b l c, v ≠ .slice b l c) ∧
      match (ty u).map TI.k with
      | some (.int k) => ∃ i, a = .int k i ∧ k.min ≤ i ∧ i ≤ k.max
      | some .bool => ∃ b, a = .bool b
      | some .str => ∃ s : ByteArray, a = .str s ∧ s.size ≤ maxLen
      | _ => False := by
  cases ht : ty u with
  | none => simp [ht] at hu
  | some ti =>
    obtain ⟨d, g, z, T⟩ := hty.at ht
    simp only [ht, Option.map_some] at hu ⊢
    cases hk : ti.k with
    | int k =>
      have hund := T.und
      rw [T.int hk] at hund
      obtain ⟨i, e, _, hw⟩ := DataW.trod_int hund h
      obtain rfl : v = .int k i := by simpa using e
      simp only [Lit.wf, Bool.and_eq_true, decide_eq_true_eq] at hw
      exact ⟨.int k i, rfl, rfl, .int _ _, (fun b l c e => by cases e), i, rfl, hw.1, hw.2⟩
    | bool =>
      have hund := T.und
      rw [T.bool hk] at hund
      obtain ⟨b, e, _⟩ := DataW.trod_bool hund h
      obtain rfl : v = .bool b := by simpa using e
      exact ⟨.bool b, rfl, rfl, .bool _, (fun b l c e => by cases e), b, rfl⟩
    | str =>
      have hund := T.und
      rw [T.str hk] at hund
      obtain ⟨s, e, _, hs⟩ := DataW.trod_string hund h
      obtain rfl : v = .string s := by simpa using e
      exact ⟨.str s, rfl, rfl, .str _, (fun b l c e => by cases e), s, rfl, hs⟩
    | _ => simp [hk] at hu

theorem read_flat (hty : TyOk P ty) {t : TypeId} (hf : flatT ty t = true) {fuel : Nat} {cs : List Value} {x : DataW H × List MemPlace} (h : DataW.trod enc P W 0 sp true fuel t cs = some x) {ok : Nat → Nat → Prop} :
    ∃ l : List AV, TyN ty 1 t l ∧ RepCells W NoLoc ok l cs ∧ ∀ a ∈ l, a.cells = [a] ∧ a.cellOk = true := by
  unfold flatT at hf
  cases hl : leafs ty 8 t with
  | none => rw [hl] at hf; cases hf
  | some ls =>
    rw [hl] at hf
    simp only [List.all_eq_true] at hf
    obtain ⟨h1, h2⟩ := trod_leafs hty 8 t ls fuel cs x hl h
    obtain ⟨l, g1, g2⟩ := choose_list (α := AV) cs (fun j a v => ∃ u, ls[j]? = some u ∧ a.cells = [a] ∧ a.cellOk = true ∧ Rep W NoLoc ok a v ∧ (∀ b l c, v ≠ .slice b l c) ∧
      match (ty u).map TI.k with
      | some (.int k) => ∃ i, a = .int k i ∧ k.min ≤ i ∧ i ≤ k.max
      | some .bool => ∃ b, a = .bool b
      | some .str => ∃ s : ByteArray, a = .str s ∧ s.size ≤ maxLen
      | _ => False) (fun j v e => by
        have hj : j < ls.length := by rw [← h1]; exact (List.getElem?_eq_some_iff.1 e).1
        have hu : ls[j]? = some ls[j] := by simp
        obtain ⟨f, y, hy⟩ := h2 j _ v hu e
        obtain ⟨a, k⟩ := leaf_flat hty hy (hf _ (List.getElem_mem hj)) (ok := ok)
        exact ⟨a, _, hu, k⟩)
    refine ⟨l, ⟨ls, hl, by omega, fun j u a e1 e2 => ?_⟩, ⟨g1.symm, fun j a v e1 e2 => ?_⟩, fun a ha => ?_⟩
    · have hj : j < cs.length := by rw [← g1]; exact (List.getElem?_eq_some_iff.1 e2).1
      obtain ⟨u', k1, _, _, _, _, k6⟩ := g2 j cs[j] a (by simp) e2
      rw [e1] at k1
      obtain rfl := Option.some.inj k1
      generalize (ty u).map TI.k = kk at k6 ⊢
      rcases kk with _ | kk
      · exact k6.elim
      · cases kk <;> first | exact k6 | exact k6.elim
    · obtain ⟨u', _, _, _, k4, _⟩ := g2 j v a e2 e1
      exact k4
    · obtain ⟨j, hj⟩ := List.mem_iff_getElem?.1 ha
      have hjl : j < cs.length := by rw [← g1]; exact (List.getElem?_eq_some_iff.1 hj).1
      obtain ⟨u', _, k2, k3, _⟩ := g2 j cs[j] a (by simp) hj
      exact ⟨k2, k3⟩

/-- The data of an argument: cells of a plain kind, and slices of such. -/
theorem read_rep (hty : TyOk P ty) {t : TypeId} (hs : suppN ty t = true) {fuel : Nat} {cs : List Value} {x : DataW H × List MemPlace} (h : DataW.trod enc P W 0 sp true fuel t cs = some x)
    (hspot : ∀ v ∈ cs, ∀ a l c, v = .slice (some a) l c → a.spot = none) :
    ∃ l : List AV, TyN ty 2 t l ∧ RepCells W NoLoc (fun b _ => b < W.heap.size) l cs := by
  unfold suppN at hs
  cases hl : leafs ty 8 t with
  | none => rw [hl] at hs; cases hs
  | some ls =>
    rw [hl] at hs
    simp only [List.all_eq_true] at hs
    obtain ⟨h1, h2⟩ := trod_leafs hty 8 t ls fuel cs x hl h
    obtain ⟨l, g1, g2⟩ := choose_list (α := AV) cs (fun j a v => ∃ u, ls[j]? = some u ∧ Rep W NoLoc (fun b _ => b < W.heap.size) a v ∧
      match (ty u).map TI.k with
      | some (.int k) => ∃ i, a = .int k i ∧ k.min ≤ i ∧ i ≤ k.max
      | some .bool => ∃ b, a = .bool b
      | some .str => ∃ s : ByteArray, a = .str s ∧ s.size ≤ maxLen
      | some (.slice e) => ∃ ei xs, ty e = some ei ∧ a = .ls ei.size true false xs ∧ xs.length ≤ maxLen ∧
        ∀ x ∈ xs, TyN ty 1 e x.cells ∧ x = (if isAggK ei.k then .agg x.cells else x.cells.getD 0 .undef)
      | _ => False) (fun j v ej => by
        have hj : j < ls.length := by rw [← h1]; exact (List.getElem?_eq_some_iff.1 ej).1
        have hu : ls[j]? = some ls[j] := by simp
        obtain ⟨f, y, hy⟩ := h2 j _ v hu ej
        have hsu := hs _ (List.getElem_mem hj)
        have hsp := hspot v (List.mem_of_getElem? ej)
        generalize ls[j] = u at hu hy hsu
        refine (?_ : ∃ a : AV, ∃ u, ls[j]? = some u ∧ _)
        by_cases hfl : (match (ty u).map TI.k with | some (.int _) | some .bool | some .str => true | _ => false) = true
        · obtain ⟨a, _, _, k3, _, k5⟩ := leaf_flat hty hy hfl (ok := fun b _ => b < W.heap.size)
          refine ⟨a, u, hu, k3, ?_⟩
          clear hfl hsu
          generalize (ty u).map TI.k = kk at k5 ⊢
          rcases kk with _ | kk
          · exact k5.elim
          · cases kk <;> first | exact k5 | exact k5.elim
        · cases hk : (ty u).map TI.k with
          | none => simp [hk] at hsu
          | some k =>
            rw [hk] at hsu hfl
            cases k with
            | slice e =>
              simp only [Bool.and_eq_true] at hsu
              obtain ⟨he1, he2⟩ := hsu
              cases hei : ty e with
              | none => rw [hei] at he2; cases he2
              | some ei =>
                rw [hei] at he2
                simp only [Bool.and_eq_true, Bool.or_eq_true, decide_eq_true_eq] at he2
                obtain ⟨hpos, hone⟩ := he2
                cases htu : ty u with
                | none => simp [htu] at hk
                | some ti =>
                  obtain ⟨d, g, z, T⟩ := hty.at htu
                  have hks : ti.k = .slice e := by simpa [htu] using hk
                  have hund := T.und
                  rw [T.slice hks] at hund
                  rcases DataW.trod_slice hund hy with ⟨hv, _⟩ | ⟨ad, len, cap, elems, rest, n', _, hv, _, hbase, hlc, hcm, hel, hget, _⟩
                  · obtain rfl : v = .slice none 0 0 := by simpa using hv
                    refine ⟨.ls ei.size true false [], u, hu, ?_, ?_⟩
                    · exact .ls ei.size true false [] none 0 (fun _ _ => Go.undef) ⟨Nat.le_refl _, (fun h => by cases h), (fun _ h => by cases h), (fun h => by cases h), fun h => absurd h (by omega)⟩ (fun i x h => by simp at h) (fun b o h => by cases h) (fun i x j y h => by simp at h)
                    · simp only [hk]
                      exact ⟨ei, [], hei, rfl, by simp, fun x hx => by cases hx⟩
                  · obtain rfl : v = .slice (some ad) len cap := by simpa using hv
                    have hsp0 := hsp ad len cap rfl
                    obtain ⟨b, o, s⟩ := ad
                    simp only at hsp0
                    subst hsp0
                    have hco := cellsOf_eq hty hei
                    rw [hco] at hget
                    -- element by element
                    obtain ⟨xs, q1, q2⟩ := choose_list (α := AV) (List.range len) (fun i x _ => TyN ty 1 e x.cells ∧ x = (if isAggK ei.k then .agg x.cells else x.cells.getD 0 .undef) ∧ okCells ei.size x ∧
                      ∀ (j : Nat) (y : AV), x.cells[j]? = some y → ∃ v, W.cell? ⟨b, o + i * ei.size + j, none⟩ = some v ∧ Rep W NoLoc (fun b _ => b < W.heap.size) y v) (fun i v' e' => by
                        have hi : i < len := by have := (List.getElem?_eq_some_iff.1 e').1; simpa using this
                        have h3 := hget i hi
                        have h4 : elems[i]? = some (elems[i]'(by omega)) := by simp
                        rw [h4, Option.bind_eq_some_iff] at h3
                        obtain ⟨ci, h5, h6⟩ := h3
                        obtain ⟨_, h7, h8⟩ := World.cells?_some h5
                        obtain ⟨li, t1, t2, t3⟩ := read_flat hty he1 h6 (ok := fun b _ => b < W.heap.size)
                        have hlen : li.length = ei.size := by rw [← t2.1, h7]
                        have hx : ∃ x : AV, x.cells = li ∧ x = (if isAggK ei.k then .agg li else li.getD 0 .undef) := by
                          cases hagg : isAggK ei.k with
                          | true => exact ⟨.agg li, rfl, rfl⟩
                          | false =>
                            have h1 : ei.size = 1 := by rcases hone with h | h; · rw [hagg] at h; cases h
                                                        · exact h
                            rw [h1] at hlen
                            match li, hlen, t3 with
                            | [y], _, t3 => exact ⟨y, (t3 y (by simp)).1, rfl⟩
                        obtain ⟨x, hx1, hx2⟩ := hx
                        refine ⟨x, by rw [hx1]; exact t1, by rw [hx1]; exact hx2, ⟨by rw [hx1]; exact hlen, fun y hy => by rw [hx1] at hy; exact (t3 y hy).2⟩, fun j y hy => ?_⟩
                        rw [hx1] at hy
                        have hj : j < ei.size := by rw [← hlen]; exact (List.getElem?_eq_some_iff.1 hy).1
                        have h9 := h8 j hj
                        simp only [Addr.add_lit] at h9
                        have hc : ci[j]? = some (ci[j]'(by omega)) := by simp
                        rw [hc] at h9
                        exact ⟨_, h9, t2.2 j y _ hy hc⟩)
                    simp only [List.length_range] at q1
                    subst q1
                    have q3 : ∀ (i : Nat) (x : AV), xs[i]? = some x → _ := fun i x hx => q2 i i x (by have := (List.getElem?_eq_some_iff.1 hx).1; simp [this]) hx
                    refine ⟨.ls ei.size true false xs, u, hu, ?_, ?_⟩
                    · refine Rep.mk_ls ⟨hlc, fun h => (by cases h), fun _ h => (by cases h), fun h => (by cases h), fun _ => ⟨b, o, rfl⟩⟩ (fun i x hx => (q3 i x hx).2.2.1) (fun b' o' ha i x j y hx hy => ?_)
                      simp only [Option.some.injEq, Addr.mk.injEq] at ha
                      obtain ⟨rfl, rfl, _⟩ := ha
                      obtain ⟨v, r1, r2⟩ := (q3 i x hx).2.2.2 j y hy
                      exact ⟨v, r1, cell_block r1, r2⟩
                    · simp only [hk]
                      refine ⟨ei, xs, hei, rfl, by omega, fun x hx => ?_⟩
                      obtain ⟨i, hi⟩ := List.mem_iff_getElem?.1 hx
                      exact ⟨(q3 i x hi).1, (q3 i x hi).2.1⟩
            | _ => simp at hsu hfl)
    refine ⟨l, ⟨ls, hl, by omega, fun j u a e1 e2 => ?_⟩, ⟨g1.symm, fun j a v e1 e2 => ?_⟩⟩
    · have hj : j < cs.length := by rw [← g1]; exact (List.getElem?_eq_some_iff.1 e2).1
      obtain ⟨u', k1, _, k6⟩ := g2 j cs[j] a (by simp) e2
      rw [e1] at k1
      obtain rfl := Option.some.inj k1
      generalize (ty u).map TI.k = kk at k6 ⊢
      rcases kk with _ | kk
      · exact k6.elim
      · cases kk <;> first | exact k6 | exact k6.elim
    · obtain ⟨u', _, k4, _⟩ := g2 j v a e2 e1
      exact k4

end
end Go.Av
