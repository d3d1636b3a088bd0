/- Calls by contract; functions entered and left. -/
import Derived.Test.YtgakkecaflppfaaAv20
set_option linter.unusedSimpArgs false
namespace Go.Av

section
variable {P : Program} {ty : TypeId → Option TI} {G : Gh} {st : St} {Q : Exit → St → Prop}

theorem run_call {f : FuncId} (hf : Callee P f) {ρ : Operand → Value} {dst : Option Tmp} {fop : Operand} {args : Array Operand} {ats : Array TypeId} {type : TypeId} {pos : String} {after : Array Edge} {guard : Option (Nat × Bool)}
    {caps : Array Value} (hv : ρ fop = .func (.func f) #[] caps) (w : World) :
    (execOp ρ ⟨dst, .call ⟨.value fop, args, ats⟩, type, pos, after, guard⟩).run P w = .ok (.enter f (args.map ρ ++ caps)) w := by
  obtain ⟨fn, h1, h2, h3⟩ := hf
  have h2' : ¬ (fn.name = "runtime.NumGoroutine") := by simpa using h2
  have h3' : ¬ (fn.body = none) := by
    intro e; rw [e] at h3; cases h3
  simp [execOp, resolve, Deferred.ofValue, hv, invoke, callFunc, h1, h2', h3']

/-- The values that are handed over. -/
def argsOf (st : St) (args : Array Operand) (caps : List AV) : List AV := args.toList.map st.get ++ caps

theorem rep_args {φ : Nat → Option Loc} {a : Act} {w : World} (r : RelA G st φ a w) {args : Array Operand} {f : FuncId} {caps : List AV} {capv : Array Value}
    (hc : Rep w φ (OK G st.bx φ w) (.fn f caps) (.func (.func f) #[] capv)) : RepAll w φ (OK G st.bx φ w) (argsOf st args caps) (args.map a.eval ++ capv).toList := by
  cases hc with | fn _ _ vs hl hr =>
  refine ⟨by simp [argsOf, hl], fun i x v hx hv => ?_⟩
  simp only [argsOf, Array.toList_append, Array.toList_map] at hx hv
  rw [List.getElem?_append] at hx hv
  simp only [List.length_map] at hx hv
  split at hx
  · rename_i hi
    rw [if_pos hi] at hv
    simp only [List.getElem?_map, Option.map_eq_some_iff] at hx hv
    obtain ⟨o, h1, rfl⟩ := hx
    obtain ⟨o', h2, rfl⟩ := hv
    rw [h1] at h2
    obtain rfl := Option.some.inj h2
    exact r.get o
  · rename_i hi
    rw [if_neg hi] at hv
    exact hr _ x v hx (by simpa using hv)

/-- What values are, told by value, all of them. -/
def VwAll (bx : List (Nat × Option Box)) (xs : List AV) (Y : List AV → Prop) : Prop :=
  ∀ G nx φ w vs, Rel G bx nx φ w → RepAll w φ (OK G bx φ w) xs vs → ∃ ys, Y ys ∧ RepAll w NoLoc (OK G bx φ w) ys vs

theorem vwAll_pure {bx : List (Nat × Option Box)} {xs : List AV} (h : ∀ x ∈ xs, Pure x) : VwAll bx xs (· = xs) :=
  fun _ _ _ _ _ _ k => ⟨xs, rfl, k.1, fun i x v hx hv => h x (List.mem_of_getElem? hx) _ _ _ _ (k.2 i x v hx hv)⟩

theorem vwAll_nil {bx : List (Nat × Option Box)} : VwAll bx [] (· = []) := vwAll_pure (by simp)

theorem vwAll_cons {bx : List (Nat × Option Box)} {x : AV} {xs : List AV} {Y : AV → Prop} {Ys : List AV → Prop} (h : Vw bx x Y) (k : VwAll bx xs Ys) :
    VwAll bx (x :: xs) (fun l => ∃ y ys, l = y :: ys ∧ Y y ∧ Ys ys) := by
  intro G nx φ w vs hrel hr
  cases vs with
  | nil => have := hr.1; simp at this
  | cons v vs =>
    obtain ⟨y, h1, h2⟩ := h G nx φ w v hrel (hr.2 0 x v rfl rfl)
    obtain ⟨ys, h3, h4⟩ := k G nx φ w vs hrel ⟨by simpa using hr.1, fun i a b ha hb => hr.2 (i + 1) a b (by simpa using ha) (by simpa using hb)⟩
    refine ⟨y :: ys, ⟨y, ys, rfl, h1, h3⟩, by simp [h4.1], fun i a b ha hb => ?_⟩
    cases i with
    | zero => simp at ha hb; subst ha; subst hb; exact h2
    | succ i => exact h4.2 i a b (by simpa using ha) (by simpa using hb)

/-- A call, told by value. -/
theorem op_callV {o : Oper} {fop : Operand} {args : Array Operand} {ats : Array TypeId} (hop : o.op = .call ⟨.value fop, args, ats⟩) {f : FuncId} {caps : List AV} (hf : st.get fop = .fn f caps)
    {Y : List AV → Prop} (hv : VwAll st.bx (argsOf st args caps) Y) {R : AV → Prop} (hcal : Callee P f) (hC : ∀ as, Y as → CV P f as R) (hd : slotOk G.n o.dst = true) {K : Act → World → Prop}
    (hK : ∀ r, R r → ∀ φ a w, RelA G (st.set o.dst r) φ a w → K a w) : ∀ φ a w, RelA G st φ a w → o.wp P a w K (QE G Q) := by
  intro φ a w hr
  obtain ⟨dst, op, type, pos, after, guard⟩ := o
  simp only at hop hd hK
  subst hop
  have hfv := hr.get fop
  rw [hf] at hfv
  have hfv0 := hfv
  generalize hvv : a.eval fop = u at hfv
  cases hfv with | fn _ _ capv hl hcr =>
  rw [hvv] at hfv0
  have hA := rep_args hr (args := args) hfv0
  obtain ⟨as, hY, hA2⟩ := hv G st.nx φ w _ hr.rel hA
  unfold Oper.wp
  rw [run_call hcal hvv w, Oper.upon_enter]
  refine ((hC as hY).2 (OK G st.bx φ w) w _ (fun b o h => h.1) hA2).mono ?_
  rintro e w' ⟨v, r, rfl, hR, hE, hrep⟩
  refine hK r hR φ _ w' ((hr.ext hE).put hd ?_)
  refine hrep.mono (fun b o h => ⟨⟨h.1, ?_, ?_⟩, rfl⟩) (fun id L h => by cases h)
  · intro id box L h1 h2 hvt he
    by_cases hb : b < w.heap.size
    · exact (h.2 hb).2.1 id box L h1 h2 hvt he
    · obtain ⟨L', hL', hB, _⟩ := hr.rel.box id box h1
      obtain rfl : L = L' := by rw [h2] at hL'; exact Option.some.inj hL'
      have := hB.lt hvt
      omega
  · intro hlt
    have hb : b < w.heap.size := Nat.lt_of_lt_of_le hlt hr.rel.size
    exact (h.2 hb).2.2 hlt

theorem box?_append (l l' : List (Nat × Option Box)) (id : Nat) : box? (l ++ l') id = match look l id with | some b => b | none => box? l' id := by
  induction l with
  | nil => rfl
  | cons a l ih =>
    obtain ⟨k, b⟩ := a
    simp only [List.cons_append, box?_cons, look_cons]
    split
    · rfl
    · exact ih

theorem look_kill (ids : List Nat) (id : Nat) : look (ids.map fun i => (i, (none : Option Box))) id = if id ∈ ids then some none else none := by
  induction ids with
  | nil => simp [look]
  | cons a ids ih =>
    simp only [List.map_cons, look_cons, ih, List.mem_cons]
    by_cases h : a = id
    · simp [h]
    · have h' : ¬ id = a := fun e => h e.symm
      simp [h, h']

/-- A call that is lent boxes. -/
theorem op_callR {o : Oper} {fop : Operand} {args : Array Operand} {ats : Array TypeId} (hop : o.op = .call ⟨.value fop, args, ats⟩) {f : FuncId} {caps : List AV} (hf : st.get fop = .fn f caps)
    (ids : List Nat) {R : AV → List (Nat × Option Box) → Nat → Prop} (hC : CR P f (argsOf st args caps) (pickSlots st.bx ids) st.nx R)
    (hids : ∀ r bs' nx', R r bs' nx' → ∀ id b, look bs' id = some b → id ∈ ids ∨ st.nx ≤ id) (hd : slotOk G.n o.dst = true) {K : Act → World → Prop}
    (hK : ∀ r bs' nx', R r bs' nx' → ∀ φ a w, RelA G ((St.mk st.env (bs' ++ (ids.map fun i => (i, none)) ++ st.bx) nx').set o.dst r) φ a w → K a w) :
    ∀ φ a w, RelA G st φ a w → o.wp P a w K (QE G Q) := by
  intro φ a w hr
  obtain ⟨dst, op, type, pos, after, guard⟩ := o
  simp only at hop hd hK
  subst hop
  have hfv := hr.get fop
  rw [hf] at hfv
  have hfv0 := hfv
  generalize hvv : a.eval fop = u at hfv
  cases hfv with | fn _ _ capv hl hcr =>
  rw [hvv] at hfv0
  have hA := rep_args hr (args := args) hfv0
  have hsub : ∀ id b, box? (pickSlots st.bx ids) id = some b → box? st.bx id = some b := by
    intro id b h
    simp only [box?] at h ⊢
    cases hl : look (pickSlots st.bx ids) id with
    | none => rw [hl] at h; cases h
    | some o => rw [hl] at h; rw [look_pick _ _ _ _ hl]; exact h
  have hpick : ∀ ids id b, look (pickSlots st.bx ids) id = some b → id ∈ ids := by
    intro ids
    induction ids with
    | nil => intro id b h; simp [pickSlots, look] at h
    | cons k ids ih =>
      intro id b h
      simp only [pickSlots] at h
      split at h
      · rw [look_cons] at h
        split at h
        · rename_i e; simp [e]
        · exact List.mem_cons_of_mem _ (ih id b h)
      · exact List.mem_cons_of_mem _ (ih id b h)
  let G2 : Gh := ⟨w, OK G st.bx φ w, fun b => ∃ id box L, box? (pickSlots st.bx ids) id = some box ∧ φ id = some L ∧ L.virt = false ∧ L.blk = b, 0, φ, st.nx⟩
  have hokB : ∀ b o, okB st.bx φ b o → okB (pickSlots st.bx ids) φ b o := fun b o h id box L h1 h2 => h id box L (hsub id box h1) h2
  have hcell : ∀ b o, OK G st.bx φ w b o → OK G2 (pickSlots st.bx ids) φ w b o ∧ w.cell? ⟨b, o, none⟩ = w.cell? ⟨b, o, none⟩ := fun b o h => ⟨⟨h.1, hokB b o h.2.1, fun _ => .inl h⟩, rfl⟩
  have hrel2 : Rel G2 (pickSlots st.bx ids) st.nx φ w := by
    constructor
    · rfl
    · rfl
    · rfl
    · exact Nat.le_refl _
    · exact fun _ _ _ => rfl
    · exact fun _ _ _ => rfl
    · exact fun b o h => ⟨h.1, hokB b o h.2.1⟩
    · intro id b hb
      obtain ⟨L, hL, hB, hm⟩ := hr.rel.box id b (hsub id b hb)
      exact ⟨L, hL, hB.mono hcell (fun _ _ h => h) (fun _ => rfl), fun hv => .inr ⟨id, b, L, hb, hL, hv, rfl⟩⟩
    · exact fun id id' b b' L L' h1 h2 => hr.rel.apart id id' b b' L L' (hsub id b h1) (hsub id' b' h2)
    · exact hr.rel.dom
    · exact fun _ _ => rfl
    · exact Nat.le_refl _
  unfold Oper.wp
  rw [run_call hC.1 hvv w, Oper.upon_enter]
  refine (hC.2 G2 φ w _ rfl rfl rfl hrel2 ⟨hA.1, fun i x v hx hv => (hA.2 i x v hx hv).mono hcell (fun _ _ h => h)⟩).mono ?_
  rintro e w' ⟨v, r, bs', nx', φ', rfl, hR, hrel', hrep⟩
  -- all that the caller knew of cells holds on
  have hloc : ∀ id L, φ id = some L → φ' id = some L := by
    intro id L h
    have : id < st.nx := by
      rcases Nat.lt_or_ge id st.nx with k | k
      · exact k
      · rw [hr.rel.dom id k] at h; cases h
    rw [hrel'.agree id this]; exact h
  have hbx : ∀ id b, box? (bs' ++ (ids.map fun i => (i, none)) ++ st.bx) id = some b → box? bs' id = some b ∨ (look bs' id = none ∧ id ∉ ids ∧ box? st.bx id = some b) := by
    intro id b h
    rw [List.append_assoc, box?_append] at h
    cases hl : look bs' id with
    | some o => rw [hl] at h; left; simp only [box?, hl]; exact h
    | none =>
      rw [hl] at h
      simp only at h
      rw [box?_append, look_kill] at h
      by_cases hi : id ∈ ids
      · rw [if_pos hi] at h; cases h
      · rw [if_neg hi] at h; exact .inr ⟨rfl, hi, h⟩
  -- a box of the rest lies apart from what was lent and what is new
  have hrest : ∀ id b L, id ∉ ids → box? st.bx id = some b → φ id = some L → L.virt = false → ¬ G2.wr L.blk ∧ L.blk < w.heap.size := by
    intro id b L h1 h2 h3 h4
    obtain ⟨L', hL', hB, _⟩ := hr.rel.box id b h2
    obtain rfl : L = L' := by rw [h3] at hL'; exact Option.some.inj hL'
    refine ⟨?_, hB.lt h4⟩
    rintro ⟨id', b', L', g1, g2, g3, g4⟩
    have hin : id' ∈ ids := by
      simp only [box?] at g1
      cases hl : look (pickSlots st.bx ids) id' with
      | none => rw [hl] at g1; cases g1
      | some o => exact hpick ids id' o hl
    exact hr.rel.apart id' id b' b L' L (hsub _ _ g1) h2 (fun e => h1 (e ▸ hin)) g2 h3 g3 h4 g4
  have hlook : ∀ id b, look bs' id = some b → id ∈ ids ∨ st.nx ≤ id := hids r bs' nx' hR
  have hlookb : ∀ id b, box? bs' id = some b → ∃ o, look bs' id = some o := by
    intro id b h
    simp only [box?] at h
    cases hl : look bs' id with
    | none => rw [hl] at h; cases h
    | some o => exact ⟨o, rfl⟩
  have hcell' : ∀ b o, OK G st.bx φ w b o → OK G (bs' ++ (ids.map fun i => (i, none)) ++ st.bx) φ' w' b o ∧ w'.cell? ⟨b, o, none⟩ = w.cell? ⟨b, o, none⟩ := by
    intro b o h
    refine ⟨⟨Nat.lt_of_lt_of_le h.1 hrel'.size, ?_, h.2.2⟩, hrel'.kept b o h⟩
    intro id box L h1 h2 hv he
    rcases hbx id box h1 with h3 | ⟨h3, h4, h5⟩
    · exact (hrel'.okk b o h).2 id box L h3 h2 hv he
    · obtain ⟨L', hL', _⟩ := hr.rel.box id box h5
      have := hloc _ _ hL'
      rw [h2] at this
      obtain rfl := Option.some.inj this
      exact h.2.1 id box L h5 hL' hv he
  have hcellR : ∀ b o, OK G2 bs' φ' w' b o → OK G (bs' ++ (ids.map fun i => (i, none)) ++ st.bx) φ' w' b o ∧ w'.cell? ⟨b, o, none⟩ = w'.cell? ⟨b, o, none⟩ := by
    intro b o h
    refine ⟨⟨h.1, ?_, fun hlt => ?_⟩, rfl⟩
    · intro id box L h1 h2 hv he
      rcases hbx id box h1 with h3 | ⟨h3, h4, h5⟩
      · exact h.2.1 id box L h3 h2 hv he
      · obtain ⟨L', hL', _⟩ := hr.rel.box id box h5
        have := hloc _ _ hL'
        rw [h2] at this
        obtain rfl := Option.some.inj this
        obtain ⟨g1, g2⟩ := hrest id box L h4 h5 hL' hv
        rw [he] at g1 g2
        rcases h.2.2 g2 with k | k
        · exact k.2.1 id box L h5 hL' hv he
        · exact absurd k g1
    · rcases h.2.2 (Nat.lt_of_lt_of_le hlt hr.rel.size) with k | ⟨id, box, L, k1, k2, k3, k4⟩
      · exact k.2.2 hlt
      · obtain ⟨L', hL', _, hm⟩ := hr.rel.box id box (hsub _ _ k1)
        obtain rfl : L = L' := by rw [k2] at hL'; exact Option.some.inj hL'
        rcases hm k3 with k5 | k5
        · omega
        · right; rw [← k4]; exact k5
  have hfin : Rel G (bs' ++ (ids.map fun i => (i, none)) ++ st.bx) nx' φ' w' := by
    constructor
    · exact hrel'.os.trans hr.rel.os
    · exact hrel'.tape.trans hr.rel.tape
    · exact hrel'.output.trans hr.rel.output
    · exact Nat.le_trans hr.rel.size hrel'.size
    · intro b hb hw
      have hlt : b < w.heap.size := Nat.lt_of_lt_of_le hb hr.rel.size
      refine (hrel'.frame b hlt ?_).trans (hr.rel.frame b hb hw)
      rintro ⟨id, box, L, k1, k2, k3, k4⟩
      obtain ⟨L', hL', _, hm⟩ := hr.rel.box id box (hsub _ _ k1)
      obtain rfl : L = L' := by rw [k2] at hL'; exact Option.some.inj hL'
      rcases hm k3 with k5 | k5
      · omega
      · rw [k4] at k5; exact hw k5
    · intro b o hk
      exact (hrel'.kept b o (hr.rel.ok_of_ok0 hk)).trans (hr.rel.kept b o hk)
    · intro b o hk
      exact ⟨(hr.rel.okk b o hk).1, (hcell' b o (hr.rel.ok_of_ok0 hk)).1.2.1⟩
    · intro id b hb
      rcases hbx id b hb with h3 | ⟨h3, h4, h5⟩
      · obtain ⟨L, hL, hB, hm⟩ := hrel'.box id b h3
        refine ⟨L, hL, hB.mono hcellR (fun _ _ h => h) (fun _ => rfl), fun hv => ?_⟩
        rcases hm hv with k | ⟨id2, box2, L2, k1, k2, k3, k4⟩
        · exact .inl (Nat.le_trans hr.rel.size k)
        · obtain ⟨L', hL', _, hm'⟩ := hr.rel.box id2 box2 (hsub _ _ k1)
          obtain rfl : L2 = L' := by rw [k2] at hL'; exact Option.some.inj hL'
          rw [← k4]
          exact hm' k3
      · obtain ⟨L, hL, hB, hm⟩ := hr.rel.box id b h5
        refine ⟨L, hloc _ _ hL, hB.mono hcell' hloc (fun hv => ?_), hm⟩
        obtain ⟨g1, g2⟩ := hrest id b L h4 h5 hL hv
        exact hrel'.frame L.blk g2 g1
    · intro i i' c c' L1 L2 h1 h2 hne h3 h4 hv1 hv2
      rcases hbx i c h1 with k1 | ⟨k1, k2, k3⟩
      · rcases hbx i' c' h2 with j1 | ⟨j1, j2, j3⟩
        · exact hrel'.apart i i' c c' L1 L2 k1 j1 hne h3 h4 hv1 hv2
        · obtain ⟨L, hL, _⟩ := hr.rel.box i' c' j3
          have := hloc _ _ hL
          rw [h4] at this
          obtain rfl := Option.some.inj this
          obtain ⟨g1, g2⟩ := hrest i' c' L2 j2 j3 hL hv2
          obtain ⟨L', hL', _, hm⟩ := hrel'.box i c k1
          obtain rfl : L1 = L' := by rw [h3] at hL'; exact Option.some.inj hL'
          intro e
          rcases hm hv1 with q | q
          · have q' : w.heap.size ≤ L1.blk := q
            omega
          · rw [e] at q; exact g1 q
      · obtain ⟨L, hL, _⟩ := hr.rel.box i c k3
        have := hloc _ _ hL
        rw [h3] at this
        obtain rfl := Option.some.inj this
        rcases hbx i' c' h2 with j1 | ⟨j1, j2, j3⟩
        · obtain ⟨g1, g2⟩ := hrest i c L1 k2 k3 hL hv1
          obtain ⟨L', hL', _, hm⟩ := hrel'.box i' c' j1
          obtain rfl : L2 = L' := by rw [h4] at hL'; exact Option.some.inj hL'
          intro e
          rcases hm hv2 with q | q
          · have q' : w.heap.size ≤ L2.blk := q
            omega
          · rw [← e] at q; exact g1 q
        · obtain ⟨L', hL', _⟩ := hr.rel.box i' c' j3
          have := hloc _ _ hL'
          rw [h4] at this
          obtain rfl := Option.some.inj this
          exact hr.rel.apart i i' c c' L1 L2 k3 j3 hne hL hL' hv1 hv2
    · exact hrel'.dom
    · intro id hid
      have : id < st.nx := Nat.lt_of_lt_of_le hid hr.rel.nxle
      rw [hrel'.agree id this]
      exact hr.rel.agree id hid
    · exact Nat.le_trans hr.rel.nxle hrel'.nxle
  refine hK r bs' nx' hR φ' _ w' (RelA.put (st := St.mk st.env (bs' ++ (ids.map fun i => (i, none)) ++ st.bx) nx') ⟨hfin, hr.defers, hr.sz, fun t v ht => ⟨(hr.env t v ht).1, (hr.env t v ht).2.mono hcell' hloc⟩⟩ hd ?_)
  exact hrep.mono hcellR (fun _ _ h => h)
end

end Go.Av
