/- Operations that only compute or read, all of them. -/
import Derived.Test.YtgakkecaflppfaaAv8
namespace Go.Av

section
variable {P : Program} {ty : TypeId → Option TI} {G : Gh} {bx : List (Nat × Option Box)} {nx : Nat} {φ : Nat → Option Loc} {w : World} {ok : Nat → Nat → Prop}

theorem Rel.box_st (hrel : Rel G bx nx φ w) : ∀ id b, box? bx id = some b → ∃ L, φ id = some L ∧ b.st = L.st := by
  intro id b hb
  obtain ⟨L, hL, hr, _⟩ := hrel.box id b hb
  exact ⟨L, hL, hr.st⟩

theorem getD_some {α : Type} {l : List α} {i : Nat} {d x : α} (h : l[i]? = some x) : l.getD i d = x := by simp [List.getD, h]

theorem getElem?_getD {α : Type} {l : List α} {i : Nat} (d : α) (h : i < l.length) : l[i]? = some (l.getD i d) := by
  simp [List.getD, List.getElem?_eq_getElem h]

/-- The cells of a variable inside a box. -/
theorem box_cells {L : Loc} {b : Box} (hb : BoxRep w φ ok L b) (hv : L.virt = false) {e : Nat} (he : e < b.elems.length) :
    ∀ (j : Nat) (x : AV), (b.elems.getD e .undef).cells[j]? = some x → ∃ v, w.cell? ⟨L.blk, L.base + e * L.st + j, none⟩ = some v ∧ Rep w φ ok x v := by
  intro j x hx
  exact hb.cont hv e _ j x (getElem?_getD .undef he) hx

theorem load_ok (hty : TyOk P ty) (hrel : Rel G bx nx φ w) {t : TypeId} {ti : TI} (ht : ty t = some ti) {id e k : Nat} {b : Box} (hb : box? bx id = some b)
    {u : Value} (hu : Rep w φ (OK G bx φ w) (.ptr id e k) u) (he : e < b.elems.length) (hp : (cut false ti (b.elems.getD e .undef).cells k).1) :
    ∃ v, (Instr.loadAt t u).run P w = .ok v w ∧ Rep w φ (OK G bx φ w) (cut false ti (b.elems.getD e .undef).cells k).2 v := by
  obtain ⟨d, f, z, T⟩ := hty.at ht
  obtain ⟨L, hL, hr, _⟩ := hrel.box id b hb
  cases hu with | ptr _ _ _ L' hL' hv =>
  obtain rfl : L = L' := by rw [hL] at hL'; exact Option.some.inj hL'
  obtain ⟨v, h1, h2⟩ := loadVar_ok (P := P) (deep := false) T (b := L.blk) (o := L.base + e * L.st) (box_cells hr hv he) hp
  exact ⟨v, by simpa [Instr.loadAt, Instr.sureAddr] using h1, h2⟩

theorem load_vp_ok (hty : TyOk P ty) {t : TypeId} {ti : TI} (ht : ty t = some ti) {cs : List AV} {u : Value} (hu : Rep w φ ok (.vp cs) u) (hp : (cut true ti cs 0).1) :
    ∃ v, (Instr.loadAt t u).run P w = .ok v w ∧ Rep w φ ok (cut true ti cs 0).2 v := by
  obtain ⟨d, f, z, T⟩ := hty.at ht
  cases hu with | vp b o _ vs hk hc hr =>
  obtain ⟨v, h1, h2⟩ := loadVar_ok (P := P) (deep := true) T (b := b) (o := o) (fun j x hx => ⟨vs j, (hc j ((List.getElem?_eq_some_iff.1 hx).1)).1, hr j x hx⟩) hp
  exact ⟨v, by simpa [Instr.loadAt, Instr.sureAddr] using h1, h2⟩

theorem vp_drop {cs : List AV} {b o : Nat} {n : Nat} (hu : Rep w φ ok (.vp cs) (.pointer (some ⟨b, o, none⟩))) : Rep w φ ok (.vp (cs.drop n)) (.pointer (some ⟨b, o + n, none⟩)) := by
  cases hu with | vp _ _ _ vs hk hc hr =>
  refine .vp b (o + n) _ (fun i => vs (n + i)) (fun y hy => hk y (List.mem_of_mem_drop hy)) (fun i hi => ?_) (fun i x hx => ?_)
  · simp at hi
    have := hc (n + i) (by omega)
    rw [show o + n + i = o + (n + i) by omega]
    exact this
  · rw [List.getElem?_drop] at hx
    exact hr (n + i) x hx

theorem fieldAddr_ok (hty : TyOk P ty) {s : TypeId} {si : TI} (hs : ty s = some si) {fs : List (Nat × TypeId)} (hk : si.k = .struct fs) {i off : Nat} {ft : TypeId} (hf : fs[i]? = some (off, ft))
    {fi : TI} (hfi : ty ft = some fi) (hne : fi.size ≠ 0) (b o : Nat) :
    (Instr.fieldAt s (.pointer (some ⟨b, o, none⟩)) i).run P w = .ok (.pointer (some ⟨b, o + off, none⟩)) w := by
  obtain ⟨d, f, z, T⟩ := hty.at hs
  obtain ⟨d', f', z', T'⟩ := hty.at hfi
  obtain ⟨a, rfl, rfl⟩ := T.struct hk
  rw [List.getElem?_map] at hf
  simp only [Option.map_eq_some_iff] at hf
  obtain ⟨fd, hfd, hh⟩ := hf
  simp only [Prod.mk.injEq] at hh
  obtain ⟨rfl, rfl⟩ := hh
  have hfd' : a[i]? = some fd := by simpa using hfd
  simp [Instr.fieldAt, run_underlying T.und, hfd', Instr.sureAddr, fieldPlace, T'.run_sizeOf, hne, Addr.add_lit]

theorem part_ok (hty : TyOk P ty) {t : TypeId} {ti : TI} (ht : ty t = some ti) {cs : List AV} {vs : Array Value} (hl : vs.size = cs.length)
    (hr : ∀ (i : Nat) (x : AV) (v : Value), cs[i]? = some x → vs[i]? = some v → Rep w φ ok x v) {off : Nat} (hp : (cut false ti cs off).1) :
    ∃ v, (part t vs off).run P w = .ok v w ∧ Rep w φ ok (cut false ti cs off).2 v := by
  obtain ⟨d, f, z, T⟩ := hty.at ht
  unfold cut at *
  cases ha : isAggK ti.k with
  | true =>
    simp only [ha, if_true] at hp ⊢
    refine ⟨.agg (vs.extract off (off + ti.size)), ?_, ?_⟩
    · simp only [part, Sem.run_bind, T.run_isAgg, Result.andThen_ok, ha, if_true, T.run_sizeOf, Sem.run_pure]
    · refine .agg _ _ (by simp; omega) (fun i x v hx hv => ?_)
      have hi : i < ti.size := by
        have := (List.getElem?_eq_some_iff.1 hx).1
        simp at this
        omega
      rw [List.getElem?_take_of_lt hi, List.getElem?_drop] at hx
      rw [Array.getElem?_extract] at hv
      split at hv
      · exact hr _ x v hx hv
      · cases hv
  | false =>
    simp only [ha] at hp ⊢
    obtain ⟨hk, hn⟩ := hp
    have hv : vs[off]? = some vs[off] := Array.getElem?_eq_getElem (by omega)
    refine ⟨vs[off], ?_, ?_⟩
    · simp only [part, Sem.run_bind, T.run_isAgg, Result.andThen_ok, ha]
      simp [hv]
    · rw [if_neg (by simp), norm_eq hn]
      exact hr off _ _ (getElem?_getD .undef hk) hv

theorem field_ok (hty : TyOk P ty) {s : TypeId} {si : TI} (hs : ty s = some si) {fs : List (Nat × TypeId)} (hk : si.k = .struct fs) {i off : Nat} {ft : TypeId} (hf : fs[i]? = some (off, ft))
    {fi : TI} (hfi : ty ft = some fi) {cs : List AV} {u : Value} (hu : Rep w φ ok (.agg cs) u) (hp : (cut false fi cs off).1) :
    ∃ v, (Instr.field s u i).run P w = .ok v w ∧ Rep w φ ok (cut false fi cs off).2 v := by
  obtain ⟨d, f, z, T⟩ := hty.at hs
  obtain ⟨a, rfl, rfl⟩ := T.struct hk
  rw [List.getElem?_map] at hf
  simp only [Option.map_eq_some_iff] at hf
  obtain ⟨fd, hfd, hh⟩ := hf
  simp only [Prod.mk.injEq] at hh
  obtain ⟨rfl, rfl⟩ := hh
  have hfd' : a[i]? = some fd := by simpa using hfd
  cases hu with | agg _ vs hl hr =>
  obtain ⟨v, h1, h2⟩ := part_ok hty hfi hl hr hp
  exact ⟨v, by simpa [Instr.field, run_underlying T.und, hfd', asAgg] using h1, h2⟩

theorem index_arr_ok (hty : TyOk P ty) {t : TypeId} {ti : TI} (ht : ty t = some ti) {n e : Nat} (hk : ti.k = .arr n e) {ei : TI} (hei : ty e = some ei)
    {cs : List AV} {u : Value} (hu : Rep w φ ok (.agg cs) u) {k : IntKind} {i : Int} (h0 : 0 ≤ i) (h1 : i < (n : Int)) (hp : (cut false ei cs (i.toNat * ei.size)).1) :
    ∃ v, (Instr.index t u (.int k i)).run P w = .ok v w ∧ Rep w φ ok (cut false ei cs (i.toNat * ei.size)).2 v := by
  obtain ⟨d, f, z, T⟩ := hty.at ht
  obtain ⟨d', f', z', T'⟩ := hty.at hei
  have hd := T.arr hk
  subst hd
  cases hu with | agg _ vs hl hr =>
  obtain ⟨v, h2, h3⟩ := part_ok hty hei hl hr hp
  exact ⟨v, by simpa [Instr.index, asIntOf, run_underlying T.und, h0, h1, T'.run_sizeOf] using h2, h3⟩

theorem index_str_ok (hty : TyOk P ty) {t : TypeId} {ti : TI} (ht : ty t = some ti) (hk : ti.k = .str) {s : ByteArray} {k : IntKind} {i : Int} (h0 : 0 ≤ i) (h1 : i < (s.size : Int)) :
    (Instr.index t (.string s) (.int k i)).run P w = .ok (.int .u8 ((s.data.toList.getD i.toNat 0).toNat : Int)) w := by
  obtain ⟨d, f, z, T⟩ := hty.at ht
  have hd := T.str hk
  subst hd
  have hi : i.toNat < s.size := by omega
  have hg : s[i.toNat]? = some s[i.toNat] := getElem?_pos s i.toNat hi
  have : s.data.toList.getD i.toNat 0 = s[i.toNat] := by
    simp [List.getD, hi]
    rfl
  simp only [Instr.index, Sem.run_bind, asIntOf, Sem.run_pure, Result.andThen_ok, run_underlying T.und, if_pos h0, hg, this]

theorem index_slice_ok (hty : TyOk P ty) {t : TypeId} {ti : TI} (ht : ty t = some ti) {e : Nat} (hk : ti.k = .slice e) {ei : TI} (hei : ty e = some ei)
    (b o len cap : Nat) {k : IntKind} {i : Int} (h0 : 0 ≤ i) (h1 : i < (len : Int)) :
    (Instr.indexAt t (.slice (some ⟨b, o, none⟩) len cap) (.int k i)).run P w = .ok (.pointer (some ⟨b, o + i.toNat * ei.size, none⟩)) w := by
  obtain ⟨d, f, z, T⟩ := hty.at ht
  obtain ⟨d', f', z', T'⟩ := hty.at hei
  have hd := T.slice hk
  subst hd
  simp [Instr.indexAt, asIntOf, run_underlying T.und, h0, h1, T'.run_sizeOf, Addr.add_lit]

theorem index_array_ok (hty : TyOk P ty) {t : TypeId} {ti : TI} (ht : ty t = some ti) {n e : Nat} (hk : ti.k = .arr n e) {ei : TI} (hei : ty e = some ei)
    (b o : Nat) {k : IntKind} {i : Int} (h0 : 0 ≤ i) (h1 : i < (n : Int)) :
    (Instr.indexAt t (.pointer (some ⟨b, o, none⟩)) (.int k i)).run P w = .ok (.pointer (some ⟨b, o + i.toNat * ei.size, none⟩)) w := by
  obtain ⟨d, f, z, T⟩ := hty.at ht
  obtain ⟨d', f', z', T'⟩ := hty.at hei
  have hd := T.arr hk
  subst hd
  simp [Instr.indexAt, asIntOf, run_underlying T.und, h0, h1, T'.run_sizeOf, Addr.add_lit, Instr.sureAddr]

theorem run_mapM {α β : Type} (f : α → Sem β) (g : α → β) : ∀ (l : List α), (∀ x ∈ l, (f x).run P w = .ok (g x) w) → (l.mapM f).run P w = .ok (l.map g) w
  | [], h => by simp
  | a :: l, h => by
    simp only [List.mapM_cons, Sem.run_bind, h a (by simp), Result.andThen_ok, run_mapM f g l (fun x hx => h x (by simp [hx])), Sem.run_pure, List.map_cons]

theorem build_ok (hty : TyOk P ty) {t : TypeId} {ti : TI} (ht : ty t = some ti) {fs : List (Nat × TypeId)} (hk : ti.k = .struct fs) (hall : (fs.all fun f => (ty f.2).isSome) = true)
    {parts : List (Nat × AV)} {us : List (Nat × Value)} (hl : us.length = parts.length)
    (hr : ∀ (j : Nat) (x : Nat × AV) (u : Nat × Value), parts[j]? = some x → us[j]? = some u → x.1 = u.1 ∧ Rep w φ ok x.2 u.2) {p : Prop} {cs' : List AV}
    (h : fillS ty fs parts ti.zero = some (p, cs')) (hp : p) :
    ∃ v, (Instr.build t us.toArray).run P w = .ok v w ∧ Rep w φ ok (.agg cs') v := by
  obtain ⟨d, f, z, T⟩ := hty.at ht
  obtain ⟨a, rfl, rfl⟩ := T.struct hk
  have hpl : ∀ fd ∈ a.toList, (do pure (fd.offset, ← sizeOf fd.type) : Sem (Nat × Nat)).run P w = .ok (fd.offset, (ty fd.type).elim 0 TI.size) w := by
    intro fd hfd
    rw [List.all_eq_true] at hall
    have := hall (fd.offset, fd.type) (List.mem_map.2 ⟨fd, hfd, rfl⟩)
    obtain ⟨fi, hfi⟩ := Option.isSome_iff_exists.1 this
    obtain ⟨d', f', z', T'⟩ := hty.at hfi
    simp only [Sem.run_bind, T'.run_sizeOf, Result.andThen_ok, Sem.run_pure]
    simp at hfi
    simp [hfi]
  obtain ⟨cells, h1, h2⟩ := fillS_ok hty (a.toList.map fun f => (f.offset, f.type)) (fun (i : Nat) => (a.toList.map fun fd => (fd.offset, (ty fd.type).elim 0 TI.size))[i]?)
    (fun (i : Nat) off ft fi hfs hfi => by
      rw [List.getElem?_map] at hfs ⊢
      simp only [Option.map_eq_some_iff] at hfs
      obtain ⟨fd, hfd, hh⟩ := hfs
      simp only [Prod.mk.injEq] at hh
      obtain ⟨rfl, rfl⟩ := hh
      simp [hfd, hfi]) parts us ti.zero cs' z.cells p (rep_zero T w φ ok) hl hr h hp
  refine ⟨.agg cells, ?_, .agg _ _ (by have := h2.1; simpa using this) (fun i x v hx hv => h2.2 i x v hx (by simpa using hv))⟩
  simp only [Instr.build, Sem.run_bind, T.run_zero, Result.andThen_ok, run_underlying T.und]
  rw [Array.mapM_eq_mapM_toList]
  simp only [Sem.run_map, run_mapM (P := P) (w := w) _ _ a.toList hpl, Result.andThen_ok]
  have e : (fun (i : Nat) => ((a.toList.map fun fd => (fd.offset, (ty fd.type).elim 0 TI.size)).toArray)[i]?) = fun (i : Nat) => (a.toList.map fun fd => (fd.offset, (ty fd.type).elim 0 TI.size))[i]? := by
    funext i; simp
  rw [e, h1]
  rfl

theorem buildSlice_ok (hty : TyOk P ty) (hrel : Rel G bx nx φ w) {t : TypeId} {ti : TI} (ht : ty t = some ti) {e : TypeId} (hk : ti.k = .slice e) {ei : TI} (hei : ty e = some ei)
    {parts : List (Nat × AV)} {us : List (Nat × Value)} (hl : us.length = parts.length) (len : Nat)
    (hr : ∀ (j : Nat) (x : Nat × AV) (u : Nat × Value), parts[j]? = some x → us[j]? = some u → x.1 = u.1 ∧ Rep w φ (OK G bx φ w) x.2 u.2)
    (hp : (fillL ei.size parts (zeros ei.size ei.zero len)).1) (hlim : len * ei.size ≤ 16777216) (hpos : 0 < ei.size)
    (hch : ∀ x ∈ chunk (isAggK ei.k) ei.size len (fillL ei.size parts (zeros ei.size ei.zero len)).2, okCells ei.size x ∧ (isAggK ei.k || x.flat) = true) :
    ∃ v w', (Instr.buildSlice t len us.toArray).run P w = .ok v w' ∧ Ext w w' ∧
      Rep w' φ (OK G bx φ w') (.ls ei.size false true (chunk (isAggK ei.k) ei.size len (fillL ei.size parts (zeros ei.size ei.zero len)).2)) v := by
  obtain ⟨d, f, z, T⟩ := hty.at ht
  obtain ⟨d', f', z', T'⟩ := hty.at hei
  have hd := T.slice hk
  subst hd
  have hzl : ei.zero.length = ei.size := by rw [T'.zer]; simp [T'.cells]
  have hz : RepCells w φ (OK G bx φ w) (zeros ei.size ei.zero len) ((Array.range (len * ei.size)).map (z'.cells[· % z'.cells.size]!)).toList :=
    zeros_rep (rep_zero T' w φ _) hzl hpos len
  obtain ⟨cells, h1, h2⟩ := fillL_ok ei.size parts us _ _ hz hl hr hp
  have hlen : (fillL ei.size parts (zeros ei.size ei.zero len)).2.length = len * ei.size := by
    have key : ∀ (parts : List (Nat × AV)) (cs : List AV), (fillL ei.size parts cs).1 → (fillL ei.size parts cs).2.length = cs.length := by
      intro parts
      induction parts with
      | nil => intro cs _; rfl
      | cons q r ih =>
        intro cs h
        simp only [fillL] at h ⊢
        rw [ih _ h.2, splice_length _ _ _ (by rw [h.1.1]; exact h.1.2.1)]
    rw [key _ _ hp, zeros_length _ _ hzl]
  have hE : Ext w (w.alloc (.cells cells e)) := .alloc w _
  refine ⟨.slice (some ⟨w.heap.size, 0, none⟩) len len, w.alloc (.cells cells e), ?_, hE, ?_⟩
  · have hn : ¬ (len * ei.size > 2 ^ 24) := by
      have : (2 : Nat) ^ 24 = 16777216 := by decide
      omega
    by_cases h0 : len * ei.size = 0
    · have e0 : ((Array.range (len * ei.size)).map ((#[] : Array Value)[· % (#[] : Array Value).size]!)) = (Array.range (len * ei.size)).map (z'.cells[· % z'.cells.size]!) := by
        simp [h0, Array.range_zero']
      simp only [Instr.buildSlice, Sem.run_bind, run_underlying T.und, Result.andThen_ok, T'.run_sizeOf, if_neg hn, if_pos h0, Sem.run_pure, e0, h1]
      simp [newRow]
    · simp only [Instr.buildSlice, Sem.run_bind, run_underlying T.und, Result.andThen_ok, T'.run_sizeOf, if_neg hn, if_neg h0, T'.run_zero, Sem.run_pure, h1]
      simp [newRow]
  · have hcl := chunk_length (isAggK ei.k) ei.size len (fillL ei.size parts (zeros ei.size ei.zero len)).2
    have key : Rep (w.alloc (.cells cells e)) φ (OK G bx φ (w.alloc (.cells cells e))) (.ls ei.size false true (chunk (isAggK ei.k) ei.size len (fillL ei.size parts (zeros ei.size ei.zero len)).2))
        (.slice (some ⟨w.heap.size, 0, none⟩) (chunk (isAggK ei.k) ei.size len (fillL ei.size parts (zeros ei.size ei.zero len)).2).length len) := by
      refine Rep.mk_ls ⟨by omega, fun _ => by omega, fun h => (by cases h), fun _ => (by nofun), fun _ => ⟨_, _, rfl⟩⟩ (fun i x hx => (hch x (List.mem_of_getElem? hx)).1) ?_
      intro b o hbo i x j y hx hy
      simp only [Option.some.injEq, Addr.mk.injEq] at hbo
      obtain ⟨rfl, rfl, _⟩ := hbo
      have hi : i < len := by rw [← hcl]; exact (List.getElem?_eq_some_iff.1 hx).1
      obtain ⟨⟨hxl, _⟩, hxf⟩ := hch x (List.mem_of_getElem? hx)
      have hj : j < ei.size := by rw [← hxl]; exact (List.getElem?_eq_some_iff.1 hy).1
      have hlt : i * ei.size + j < len * ei.size := by
        have : (i + 1) * ei.size ≤ len * ei.size := Nat.mul_le_mul_right _ hi
        rw [Nat.succ_mul] at this
        omega
      have hcy : (fillL ei.size parts (zeros ei.size ei.zero len)).2[i * ei.size + j]? = some y := by
        rw [chunk_get _ _ _ _ _ hi] at hx
        cases hag : isAggK ei.k with
        | true =>
          rw [hag] at hx
          simp only [if_true, Option.some.injEq] at hx
          subst hx
          simp only [AV.cells] at hy
          rw [List.getElem?_take_of_lt hj, List.getElem?_drop] at hy
          exact hy
        | false =>
          rw [hag] at hx
          simp only [Bool.false_eq_true, if_false, Option.some.injEq] at hx
          have hq : (fillL ei.size parts (zeros ei.size ei.zero len)).2[i * ei.size]? = some x := by
            rw [getElem?_getD AV.undef (by omega), hx]
          rw [hag, Bool.false_or] at hxf
          rw [AV.cells_flat hxf] at hxl hy
          have hj0 : j = 0 := by
            have := (List.getElem?_eq_some_iff.1 hy).1
            simp at this
            exact this
          subst hj0
          simp at hy
          subst hy
          exact hq
      obtain ⟨cv, hcv⟩ : ∃ cv, cells[i * ei.size + j]? = some cv :=
        ⟨_, Array.getElem?_eq_getElem (by have := h2.1; simp at this; omega)⟩
      refine ⟨cv, ?_, hrel.ok_new (Nat.le_refl _) (by simp), ?_⟩
      · rw [World.cell?_alloc_new, Nat.zero_add]; exact hcv
      · exact (h2.2 _ y _ hcy (by simpa using hcv)).ext hE
    rw [hcl] at key
    exact key
end

end Go.Av
