/- A small logic for code over pictures of values and boxes: part 8. -/
import Derived.Test.YtmaginepopldnaaDoorGg
set_option linter.unusedSimpArgs false
set_option linter.unusedVariables false
namespace Go.Av

def Is (r0 : AV) (b0 : List (Nat × Option Box)) (n0 : Nat) : AV → List (Nat × Option Box) → Nat → Prop := fun r b n => r = r0 ∧ b = b0 ∧ n = n0

def LowL (N : Nat) : List AV → Prop
  | [] => True
  | x :: l => Low N x ∧ LowL N l
theorem lowL_nil {N : Nat} : LowL N [] := trivial
theorem lowL_cons {N : Nat} {x : AV} {l : List AV} (h : Low N x) (k : LowL N l) : LowL N (x :: l) := ⟨h, k⟩
theorem LowL.mem {N : Nat} : ∀ {l : List AV}, LowL N l → ∀ x ∈ l, Low N x
  | [], _, _, h => by cases h
  | a :: l, h, x, hx => by
    rcases List.mem_cons.1 hx with rfl | hx
    · exact h.1
    · exact LowL.mem h.2 x hx
theorem low_agg {N : Nat} {cs : List AV} (h : LowL N cs) : Low N (.agg cs) := .agg h.mem
theorem low_tup {N : Nat} {cs : List AV} (h : LowL N cs) : Low N (.tup cs) := .tup h.mem

def LowX (N : Nat) (E : List AV) : Prop := ∀ x ∈ E, ∀ y ∈ x.cells, Low N y
theorem lowX_one {N : Nat} {x : AV} (h : LowL N x.cells) : LowX N [x] := fun y hy z hz => by
  simp at hy; subst hy; exact h.mem z hz
theorem lowX_nil {N : Nat} : LowX N [] := fun y hy => by cases hy

def PureB (E : List AV) : Prop := ∀ x ∈ E, PureAll x.cells ∧ x.cells.all AV.cellOk = true
theorem PureB.low {E : List AV} (h : PureB E) (N : Nat) : LowX N E := fun x hx y hy => .pure ((h x hx).1.mem y hy)
theorem pureB_bA (bs : List UInt8) : PureB (bA bs) := fun x hx => by
  obtain ⟨b, _, rfl⟩ := List.mem_map.1 hx
  exact ⟨⟨pure_int _ _, trivial⟩, rfl⟩
theorem pureB_nil : PureB [] := fun y hy => by cases hy
theorem pureB_cons {x : AV} {E : List AV} (h : PureAll x.cells) (h' : x.cells.all AV.cellOk = true) (k : PureB E) : PureB (x :: E) := fun y hy => by
  rcases List.mem_cons.1 hy with rfl | hy
  · exact ⟨h, h'⟩
  · exact k y hy
theorem pureB_append {E F : List AV} (h : PureB E) (k : PureB F) : PureB (E ++ F) := fun y hy => by
  rcases List.mem_append.1 hy with hy | hy
  · exact h y hy
  · exact k y hy

def OwnE (E : List AV) : Prop := ∀ x ∈ E, ∀ y ∈ x.cells, Own y
theorem ownE_nil : OwnE [] := fun y hy => by cases hy
theorem ownE_cons {x : AV} {E : List AV} (h : OwnL x.cells) (k : OwnE E) : OwnE (x :: E) := fun y hy => by
  rcases List.mem_cons.1 hy with rfl | hy
  · exact h.mem
  · exact k y hy
theorem ownE_bA (bs : List UInt8) : OwnE (bA bs) := fun x hx y hy => by
  obtain ⟨b, _, rfl⟩ := List.mem_map.1 hx
  simp [AV.cells] at hy; subst hy; exact (flat_int _ _).own
theorem ownE_append {E F : List AV} (h : OwnE E) (k : OwnE F) : OwnE (E ++ F) := fun y hy => by
  rcases List.mem_append.1 hy with hy | hy
  · exact h y hy
  · exact k y hy
theorem view_slA {bx : List (Nat × Option Box)} {id len cap st : Nat} {E : List AV} {sl ro : Bool} (hb : box? bx id = some ⟨E, st, sl, ro⟩) (hl : len = E.length) (hp : PureB E) : View bx (.sl id 0 len cap) (.ls st true false E) :=
  view_sl hb (by simp [hl]) hp (by simp [hl])
theorem view_slP {bx : List (Nat × Option Box)} {id off len cap st : Nat} {E ys : List AV} {sl ro : Bool} (hb : box? bx id = some ⟨E, st, sl, ro⟩) (hl : off + len ≤ E.length) (hp : PureB E) (e : (E.drop off).take len = ys) : View bx (.sl id off len cap) (.ls st true false ys) :=
  view_sl hb hl hp e

theorem rel_pull {G : Gh} {bx0 : List (Nat × Option Box)} {nx0 : Nat} {φ : Nat → Option Loc} {w : World} (R : Rel G bx0 nx0 φ w) {bx : List (Nat × Option Box)} {N : Nat} (ps : List (Nat × Nat)) (h2 : PullB (swapTo ps) bx0 bx)
    (hlow : ∀ id, id < G.nx0 → swapTo ps id = id) (hN : G.nx0 ≤ N) (hdom' : ∀ id b, look bx id = some b → id < N)
    (hB : ∀ id b, box? bx id = some b → LowX N b.elems)
    (inj : ∀ i j b c, look bx i = some b → look bx j = some c → swapTo ps i = swapTo ps j → i = j) :
    ∃ φ', Rel G bx N φ' w ∧ ∀ (x x' : AV) (u : Value), Ren (swapTo ps) x x' → Low N x → Rep w φ (OK G bx0 φ w) x' u → Rep w φ' (OK G bx φ' w) x u := by
  let ρ := swapTo ps
  let φ' : Nat → Option Loc := cutφ N (fun i => φ (ρ i))
  have hφ' : ∀ id, id < N → φ' id = φ (ρ id) := fun id h => by simp only [φ', cutφ, if_pos h]
  have lk : ∀ id b, box? bx id = some b → ∃ o, look bx id = some o := by
    intro id b h
    simp only [box?] at h
    cases hl : look bx id with
    | none => rw [hl] at h; cases h
    | some o => exact ⟨o, rfl⟩
  have blt : ∀ id b, box? bx id = some b → id < N := fun id b h => by obtain ⟨o, ho⟩ := lk id b h; exact hdom' id o ho
  have hok : ∀ b o, OK G bx0 φ w b o → OK G bx φ' w b o := by
    intro b o hk
    refine ⟨hk.1, fun id box L hb hL hv hbl => ?_, hk.2.2⟩
    rw [hφ' id (blt id box hb)] at hL
    obtain ⟨c, g1, g2⟩ := h2.box id box hb
    have := hk.2.1 (ρ id) c L g1 hL hv hbl
    rw [g2.ro, g2.len] at this
    exact this
  have rep : ∀ {x x' : AV} {u : Value}, Ren ρ x x' → Low N x → Rep w φ (OK G bx0 φ w) x' u → Rep w φ' (OK G bx φ' w) x u := fun hx hl hu =>
    (Rep.low hl (Rep.pull hx hu)).mono (fun b o hk => ⟨hok b o hk, rfl⟩) (fun id L e => e)
  refine ⟨φ', ⟨R.os, R.tape, R.output, R.size, R.frame, R.kept, fun b o hk => ⟨(R.okk b o hk).1, (hok b o (R.ok_of_ok0 hk)).2.1⟩, fun id b hb => ?_, fun id id' b b' L L' hb hb' hne hL hL' hv hv' => ?_, fun id hid => ?_, fun id hid => ?_, hN⟩, fun x x' u => rep⟩
  · obtain ⟨c, g1, g2⟩ := h2.box id b hb
    obtain ⟨L, hL, hBx, hm⟩ := R.box (ρ id) c g1
    have gl := g2.len
    refine ⟨L, by rw [hφ' id (blt id b hb)]; exact hL, ⟨by rw [← g2.st]; exact hBx.st, by rw [← g2.slack]; exact hBx.slack, fun i x hx => ?_, fun hv => ?_, fun hv => by rw [← gl]; exact hBx.lies hv, fun hv i x j y hx hy => ?_⟩, hm⟩
    · have hi : i < c.elems.length := by rw [gl]; exact (List.getElem?_eq_some_iff.1 hx).1
      have hx' : c.elems[i]? = some c.elems[i] := by simp
      have hc := (g2.el i x _ hx hx').get
      have ho := hBx.len i _ hx'
      refine ⟨by rw [← hc.1]; exact ho.1, fun y hy => ?_⟩
      obtain ⟨j, hj⟩ := List.mem_iff_getElem?.1 hy
      have hjl : j < (c.elems[i]).cells.length := by rw [hc.1]; exact (List.getElem?_eq_some_iff.1 hj).1
      have hy' : (c.elems[i]).cells[j]? = some (c.elems[i]).cells[j] := by simp
      rw [← (hc.2 j y _ hj hy').cellOk]
      exact ho.2 _ (List.mem_of_getElem? hy')
    · have := hBx.virt hv
      rw [this] at gl
      exact List.length_eq_zero_iff.1 (by simpa using gl.symm)
    · have hi : i < c.elems.length := by rw [gl]; exact (List.getElem?_eq_some_iff.1 hx).1
      have hx' : c.elems[i]? = some c.elems[i] := by simp
      have hc := (g2.el i x _ hx hx').get
      have hjl : j < (c.elems[i]).cells.length := by rw [hc.1]; exact (List.getElem?_eq_some_iff.1 hy).1
      have hy' : (c.elems[i]).cells[j]? = some (c.elems[i]).cells[j] := by simp
      obtain ⟨u, e1, e2⟩ := hBx.cont hv i _ j _ hx' hy'
      exact ⟨u, e1, rep (hc.2 j y _ hy hy') (hB id b hb x (List.mem_of_getElem? hx) y (List.mem_of_getElem? hy)) e2⟩
  · obtain ⟨c, g1, g2⟩ := h2.box id b hb
    obtain ⟨c', g1', g2'⟩ := h2.box id' b' hb'
    rw [hφ' id (blt id b hb)] at hL
    rw [hφ' id' (blt id' b' hb')] at hL'
    obtain ⟨o, ho⟩ := lk id b hb
    obtain ⟨o', ho'⟩ := lk id' b' hb'
    exact R.apart (ρ id) (ρ id') c c' L L' g1 g1' (fun e => hne (inj id id' o o' ho ho' e)) hL hL' hv hv'
  · have : ¬ id < N := by omega
    simp only [φ', cutφ, if_neg this]
  · rw [hφ' id (by omega), show ρ id = id from hlow id hid]
    exact R.agree id hid

def NamesOk (ps : List (Nat × Nat)) (nx0 N : Nat) (bx : List (Nat × Option Box)) : Bool :=
  (List.range nx0).all (fun i => swapTo ps i == i) && decide (nx0 ≤ N) && (bx.map (·.1)).all (fun i => decide (i < N)) && ((bx.map (·.1)).all fun i => (bx.map (·.1)).all fun j => !(swapTo ps i == swapTo ps j) || i == j)

theorem look_mem {α : Type} : ∀ {l : List (Nat × α)} {i : Nat} {b : α}, look l i = some b → i ∈ l.map (·.1)
  | [], _, _, h => by cases h
  | (k, x) :: r, i, b, h => by
    simp only [look_cons] at h
    split at h
    · rename_i e; simp [e]
    · exact List.mem_cons_of_mem _ (look_mem h)

structure NamesP (ps : List (Nat × Nat)) (nx0 N : Nat) (bx : List (Nat × Option Box)) : Prop where
  low : ∀ id, id < nx0 → swapTo ps id = id
  le : nx0 ≤ N
  dom : ∀ id b, look bx id = some b → id < N
  inj : ∀ i j b c, look bx i = some b → look bx j = some c → swapTo ps i = swapTo ps j → i = j

theorem namesOk_spec {ps : List (Nat × Nat)} {nx0 N : Nat} {bx : List (Nat × Option Box)} (h : NamesOk ps nx0 N bx = true) : NamesP ps nx0 N bx := by
  simp only [NamesOk, Bool.and_eq_true, List.all_eq_true, List.mem_range, beq_iff_eq, decide_eq_true_eq, Bool.or_eq_true, Bool.not_eq_true', beq_eq_false_iff_ne] at h
  obtain ⟨⟨⟨h1, h2⟩, h3⟩, h4⟩ := h
  refine ⟨h1, h2, fun id b e => h3 id (look_mem e), fun i j b c e1 e2 e => ?_⟩
  rcases h4 i (look_mem e1) j (look_mem e2) with k | k
  · exact absurd e k
  · exact k

def LowBs (N : Nat) : List (Nat × Option Box) → Prop
  | [] => True
  | (_, b) :: l => (∀ b', b = some b' → LowX N b'.elems) ∧ LowBs N l
theorem lowBs_nil {N : Nat} : LowBs N [] := trivial
theorem lowBs_cons {N id : Nat} {E : List AV} {st : Nat} {sl ro : Bool} {l : List (Nat × Option Box)} (h : LowX N E) (k : LowBs N l) : LowBs N ((id, some ⟨E, st, sl, ro⟩) :: l) := ⟨fun b e => by cases e; exact h, k⟩
theorem LowBs.get {N : Nat} : ∀ {l : List (Nat × Option Box)}, LowBs N l → ∀ id b, box? l id = some b → LowX N b.elems
  | [], _, id, b, h => by cases h
  | (k, x) :: l, h, id, b, e => by
    rw [box?_cons] at e
    split at e
    · exact h.1 b e
    · exact LowBs.get h.2 id b e

structure PullTo (nx0 : Nat) (r0 : AV) (b0 : List (Nat × Option Box)) (n0 : Nat) (ps : List (Nat × Nat)) (r : AV) (b : List (Nat × Option Box)) : Prop where
  names : NamesP ps nx0 n0 b0
  res : Ren (swapTo ps) r0 r
  low : Low n0 r0
  box : PullB (swapTo ps) b b0
  lowB : LowBs n0 b0

theorem CR.pull {P : Program} {f : FuncId} {args : List AV} {bs : List (Nat × Option Box)} {nx : Nat} {R : AV → List (Nat × Option Box) → Nat → Prop} {r0 : AV} {b0 : List (Nat × Option Box)} {n0 : Nat} (h : CR P f args bs nx R)
    (k : ∀ r b n, R r b n → ∃ ps, PullTo nx r0 b0 n0 ps r b) : CR P f args bs nx (Is r0 b0 n0) := by
  refine ⟨h.1, fun G φ w vs h1 h2 h3 hrel hA => (h.2 G φ w vs h1 h2 h3 hrel hA).mono ?_⟩
  rintro e w' ⟨v, r, b, n, φ', rfl, hR, hrel', hrep⟩
  obtain ⟨ps, hp⟩ := k r b n hR
  subst h3
  obtain ⟨φ2, h4, h5⟩ := rel_pull hrel' ps hp.box hp.names.low hp.names.le hp.names.dom hp.lowB.get hp.names.inj
  exact ⟨v, r0, b0, n0, φ2, rfl, ⟨rfl, rfl, rfl⟩, h4, h5 r0 r v hp.res hp.low hrep⟩

theorem E_W {ty : TypeId → Option TI} {R : AV → Prop} {rs : List ResultVar} {s : St} {xs : List AV} {y : AV} (h1 : ResL ty s rs xs) (hv : View s.bx (oneOrTup xs) y) (hR : R y) : retV ty rs R .ret s := by
  obtain ⟨p, h2, h3⟩ := h1.list
  exact E_V h2 h3 hv hR

theorem CR.allN {P : Program} {f : FuncId} {args : List AV} {r0 r : AV} {b0 b : List (Nat × Option Box)} {n0 : Nat} (h : CR P f args [] 0 (Is r0 b0 n0)) (N : Nat) (hp : PureAll args) (hr : Ren (N + ·) r0 r) (hb : RenBs (N + ·) b0 b) : CR P f args [] N (Is r b (N + n0)) :=
  CR.at N h hp (fun r1 b1 n1 ⟨e1, e2, e3⟩ => by subst e1 e2 e3; exact ⟨r, b, hr, hb, rfl, rfl, rfl⟩)

theorem renBs_box {ρ : Nat → Nat} {i j : Nat} {E E' : List AV} {st : Nat} {sl ro : Bool} {l r : List (Nat × Option Box)} (hj : j = ρ i) (hl : E'.length = E.length) (h : ∀ (i : Nat) (x x' : AV), E[i]? = some x → E'[i]? = some x' → RenL ρ x.cells x'.cells) (k : RenBs ρ l r) :
    RenBs ρ ((i, some ⟨E, st, sl, ro⟩) :: l) ((j, some ⟨E', st, sl, ro⟩) :: r) := ⟨hj, ⟨rfl, rfl, rfl, hl, h⟩, k⟩
theorem renL_refl {ρ : Nat → Nat} : ∀ {l : List AV}, PureAll l → RenL ρ l l
  | [], _ => trivial
  | _ :: _, h => ⟨.pure h.1, renL_refl h.2⟩
theorem renE_pure {ρ : Nat → Nat} {E : List AV} (h : PureB E) : ∀ (i : Nat) (x x' : AV), E[i]? = some x → E[i]? = some x' → RenL ρ x.cells x'.cells := fun i x x' h1 h2 => by
  rw [h1] at h2
  obtain rfl := Option.some.inj h2
  exact renL_refl (h x (List.mem_of_getElem? h1)).1
theorem renBs_pure {ρ : Nat → Nat} {i j : Nat} {E : List AV} {st : Nat} {sl ro : Bool} {l r : List (Nat × Option Box)} (hj : j = ρ i) (h : PureB E) (k : RenBs ρ l r) :
    RenBs ρ ((i, some ⟨E, st, sl, ro⟩) :: l) ((j, some ⟨E, st, sl, ro⟩) :: r) := renBs_box hj rfl (renE_pure h) k
theorem renBs_one {ρ : Nat → Nat} {i j : Nat} {x x' : AV} {st : Nat} {sl ro : Bool} {l r : List (Nat × Option Box)} (hj : j = ρ i) (h : RenL ρ x.cells x'.cells) (k : RenBs ρ l r) :
    RenBs ρ ((i, some ⟨[x], st, sl, ro⟩) :: l) ((j, some ⟨[x'], st, sl, ro⟩) :: r) := renBs_box hj rfl (fun i a a' h1 h2 => by
      cases i with
      | zero => simp at h1 h2; subst h1 h2; exact h
      | succ i => simp at h1) k

theorem pullB_pure {ρ : Nat → Nat} {bx l : List (Nat × Option Box)} {id : Nat} {E : List AV} {st : Nat} {sl ro : Bool} (h : box? bx (ρ id) = some ⟨E, st, sl, ro⟩) (hp : PureB E) (k : PullB ρ bx l) : PullB ρ bx ((id, some ⟨E, st, sl, ro⟩) :: l) :=
  pullB_cons h ⟨rfl, rfl, rfl, rfl, renE_pure hp⟩ k
theorem pullB_one {ρ : Nat → Nat} {bx l : List (Nat × Option Box)} {id : Nat} {x x' : AV} {st : Nat} {sl ro : Bool} (h : box? bx (ρ id) = some ⟨[x'], st, sl, ro⟩) (hr : RenL ρ x.cells x'.cells) (k : PullB ρ bx l) : PullB ρ bx ((id, some ⟨[x], st, sl, ro⟩) :: l) :=
  pullB_cons h ⟨rfl, rfl, rfl, rfl, fun i a a' h1 h2 => by
      cases i with
      | zero => simp at h1 h2; subst h1 h2; exact hr
      | succ i => simp at h1⟩ k
theorem pullB_box {ρ : Nat → Nat} {bx l : List (Nat × Option Box)} {id : Nat} {E E' : List AV} {st : Nat} {sl ro : Bool} (h : box? bx (ρ id) = some ⟨E', st, sl, ro⟩) (hl : E'.length = E.length) (hr : ∀ (i : Nat) (x x' : AV), E[i]? = some x → E'[i]? = some x' → RenL ρ x.cells x'.cells) (k : PullB ρ bx l) : PullB ρ bx ((id, some ⟨E, st, sl, ro⟩) :: l) :=
  pullB_cons h ⟨rfl, rfl, rfl, hl, hr⟩ k
theorem sub_names {G : Gh} {st : St} {env : List (Nat × AV)} {bx : List (Nat × Option Box)} {N : Nat} (ps : List (Nat × Nat)) {k0 : Nat} (hG : G.nx0 = k0) (hn : NamesOk ps k0 N bx = true) (h1 : PullE (swapTo ps) st.env env) (h2 : PullB (swapTo ps) st.bx bx) (h3 : LowE N env) (h4 : LowBs N bx) : Sub G st ⟨env, bx, N⟩ := by
  have hs := (namesOk_spec hn)
  subst hG
  intro φ a w r
  obtain ⟨φ', h5, h6⟩ := rel_pull r.rel ps h2 hs.low hs.le hs.dom h4.get hs.inj
  refine ⟨φ', h5, r.defers, r.sz, fun t v hv => ?_⟩
  obtain ⟨u, e1, e2⟩ := h1.look t v hv
  obtain ⟨e3, e4⟩ := r.env t u e1
  exact ⟨e3, h6 v u _ e2 (h3.get t v hv) e4⟩

section
variable {P : Program} {ty : TypeId → Option TI} {n : Nat} {ops l : List Oper} {K : St → Prop} {tp : TypeId} {pos : String} {aft : Array Edge} {env : List (Nat × AV)} {bx : List (Nat × Option Box)} {nx : Nat} {d : Tmp}
  {f : FuncId} {args : List Operand} {ats : Array TypeId} {xs ys : List AV}

theorem S_callI {r0 : AV} {b0 : List (Nat × Option Box)} {n0 : Nat} (hg : Gts env args xs) (hv : ViewL bx xs ys) (hc : CR P f ys [] nx (Is r0 b0 n0)) (ho : Own r0) (hb : OwnB nx b0) (hd : slotOk n (some d) = true)
    (h : WX false P ty n ops l ⟨(d, r0) :: env, b0 ++ bx, n0⟩ K) :
    WX false P ty n ops (⟨some d, .call ⟨.value (.func f), args.toArray, ats⟩, tp, pos, aft, none⟩ :: l) ⟨env, bx, nx⟩ K :=
  S_callN hg hv hc (fun r b n ⟨e1, e2, e3⟩ => by subst e1 e2 e3; exact ⟨ho, hb⟩) hd (fun r b n ⟨e1, e2, e3⟩ => by subst e1 e2 e3; exact h)

theorem S_callL (ids : List Nat) {bs : List (Nat × Option Box)} {r0 : AV} {b0 : List (Nat × Option Box)} {n0 : Nat} (hg : Gts env args xs) (hb : pickSlots bx ids = bs) (hc : CR P f xs bs nx (Is r0 b0 n0))
    (hids : (b0.map (·.1)).all (fun i => ids.contains i || decide (nx ≤ i)) = true) (hd : slotOk n (some d) = true)
    (h : WX false P ty n ops l ⟨(d, r0) :: env, b0 ++ (ids.map fun i => (i, none)) ++ bx, n0⟩ K) :
    WX false P ty n ops (⟨some d, .call ⟨.value (.func f), args.toArray, ats⟩, tp, pos, aft, none⟩ :: l) ⟨env, bx, nx⟩ K :=
  S_callB ids hg hb hc (fun r b n ⟨e1, e2, e3⟩ id b' hl => by
    subst e1 e2 e3
    have := List.all_eq_true.1 hids id (look_mem hl)
    simpa using this) hd (fun r b n ⟨e1, e2, e3⟩ => by subst e1 e2 e3; exact h)
end

theorem CR.toI {P : Program} {f : FuncId} {args args' : List AV} {bs bs' : List (Nat × Option Box)} {r0 r : AV} {b0 b : List (Nat × Option Box)} {n0 m : Nat} (h : CR P f args bs m (Is r0 b0 n0)) (ids : List Nat) (hm : ids.length = m) (hnd : ids.Nodup) (N : Nat) (hlt : ∀ x ∈ ids, x < N)
    (ha : RenL (nameOf ids N) args args') (hb : RenBs (nameOf ids N) bs bs') (hn : m ≤ n0) (hr : Ren (nameOf ids N) r0 r) (hb0 : RenBs (nameOf ids N) b0 b) : CR P f args' bs' N (Is r b (N + (n0 - m))) := by
  subst hm
  exact CR.to ids hnd hlt h ha hb (fun r1 b1 n1 ⟨e1, e2, e3⟩ => by subst e1 e2 e3; exact ⟨hn, r, b, hr, hb0, rfl, rfl, rfl⟩)

end Go.Av
namespace Go.Av

def parts (k : Nat) : List AV → List (Nat × AV)
  | [] => []
  | x :: l => (k, x) :: parts (k + 1) l

def GtsI (env : List (Nat × AV)) : Nat → List (Nat × Operand) → List AV → Prop
  | _, [], [] => True
  | k, (i, x) :: l, v :: r => i = k ∧ Gt env x v ∧ GtsI env (k + 1) l r
  | _, _, _ => False
theorem gtsI_nil {env : List (Nat × AV)} {k : Nat} : GtsI env k [] [] := trivial
theorem gtsI_cons {env : List (Nat × AV)} {k : Nat} {x : Operand} {l : List (Nat × Operand)} {v : AV} {r : List AV} (h : Gt env x v) (h2 : GtsI env (k + 1) l r) : GtsI env k ((k, x) :: l) (v :: r) := ⟨rfl, h, h2⟩
theorem GtsI.gtsP {env : List (Nat × AV)} : ∀ {k : Nat} {l : List (Nat × Operand)} {r : List AV}, GtsI env k l r → GtsP env l (parts k r)
  | _, [], [], _ => trivial
  | k, (i, x) :: l, v :: r, h => by obtain ⟨rfl, h1, h2⟩ := h; exact ⟨rfl, h1, h2.gtsP⟩
  | _, [], _ :: _, h => h.elim
  | _, _ :: _, [], h => h.elim

theorem fill_parts {size : Nat} (hpos : 0 < size) : ∀ (vs done : List AV) (z : List AV), (∀ x ∈ vs, x.cells.length = size ∧ x ≠ .undef) → z.length = size →
    (fillL size (parts done.length vs) (flatC done ++ zeros size z vs.length)).1 ∧ (fillL size (parts done.length vs) (flatC done ++ zeros size z vs.length)).2 = flatC (done ++ vs) ∨ ¬ ((flatC done).length = done.length * size)
  | [], done, z, _, _ => by left; simp [parts, fillL, zeros]
  | v :: vs, done, z, h, hz => by
    by_cases hd : (flatC done).length = done.length * size
    · have hv := h v (by simp)
      have hz1 : z.take size = z := List.take_of_length_le (by omega)
      have e1 : splice (flatC done ++ zeros size z (vs.length + 1)) (done.length * size) v.cells = flatC (done ++ [v]) ++ zeros size z vs.length := by
        simp only [splice, zeros]
        rw [List.take_left' hd, ← List.append_assoc, List.drop_left' (by simp [hd, hz1, hv.1, hz])]
        simp [flatC, List.append_assoc]
      have hd' : (flatC (done ++ [v])).length = (done ++ [v]).length * size := by
        simp [flatC, hv.1, Nat.add_mul] at hd ⊢
        exact hd
      have ih := fill_parts hpos vs (done ++ [v]) z (fun x hx => h x (by simp [hx])) hz
      rcases ih with ⟨i1, i2⟩ | ih
      · left
        simp only [parts, fillL, List.length_cons]
        rw [show done.length + 1 = (done ++ [v]).length by simp, e1]
        refine ⟨⟨⟨hv.1, ?_, hv.2⟩, i1⟩, by rw [i2]; simp⟩
        have hzl := zeros_length size z hz (vs.length + 1)
        rw [List.length_append, hd, hzl, Nat.add_mul]
        omega
      · exact absurd hd' ih
    · exact .inr hd

theorem chunk_flat {agg : Bool} {size : Nat} : ∀ (vs : List AV), (∀ x ∈ vs, x.cells.length = size ∧ (if agg then x = .agg x.cells else x.cells = [x])) → chunk agg size vs.length (flatC vs) = vs
  | [], _ => rfl
  | v :: vs, h => by
    have hv := h v (by simp)
    have ih := chunk_flat vs (fun x hx => h x (by simp [hx]))
    have e : flatC (v :: vs) = v.cells ++ flatC vs := by simp [flatC]
    simp only [List.length_cons, chunk]
    rw [e, List.drop_left' hv.1, ih]
    congr 1
    cases agg with
    | true => simp only [if_true] at hv ⊢; rw [List.take_left' hv.1]; exact hv.2.symm
    | false => 
      simp only [Bool.false_eq_true, if_false] at hv ⊢
      rw [hv.2]
      simp

def Elts (ei : TI) : List AV → Prop
  | [] => True
  | x :: l => (okCells ei.size x ∧ x ≠ .undef ∧ (if isAggK ei.k then x = .agg x.cells else x.cells = [x])) ∧ Elts ei l
theorem elts_nil {ei : TI} : Elts ei [] := trivial
theorem elts_cons {ei : TI} {x : AV} {l : List AV} (h : okCells ei.size x) (h1 : x ≠ .undef) (h2 : if isAggK ei.k then x = .agg x.cells else x.cells = [x]) (k : Elts ei l) : Elts ei (x :: l) := ⟨⟨h, h1, h2⟩, k⟩
theorem Elts.mem {ei : TI} : ∀ {l : List AV}, Elts ei l → ∀ x ∈ l, okCells ei.size x ∧ x ≠ .undef ∧ (if isAggK ei.k then x = .agg x.cells else x.cells = [x])
  | [], _, _, h => by cases h
  | a :: l, h, x, hx => by
    rcases List.mem_cons.1 hx with rfl | hx
    · exact h.1
    · exact Elts.mem h.2 x hx

section
variable {P : Program} {ty : TypeId → Option TI} {n : Nat} {ops l : List Oper} {K : St → Prop} {tp : TypeId} {pos : String} {aft : Array Edge} {env : List (Nat × AV)} {bx : List (Nat × Option Box)} {nx : Nat} {d : Tmp}
  {t : TypeId}

theorem elts_facts (hty : TyOk P ty) {e : TypeId} {ei : TI} (he : ty e = some ei) {vs : List AV} (hv : Elts ei vs) (hpos : 0 < ei.size) :
    (fillL ei.size (parts 0 vs) (zeros ei.size ei.zero vs.length)).1 ∧ chunk (isAggK ei.k) ei.size vs.length (fillL ei.size (parts 0 vs) (zeros ei.size ei.zero vs.length)).2 = vs ∧ ∀ x ∈ vs, okCells ei.size x ∧ (isAggK ei.k || x.flat) = true := by
  obtain ⟨d', f', z', T'⟩ := hty.at he
  have hzl : ei.zero.length = ei.size := by rw [T'.zer]; simp [T'.cells]
  rcases fill_parts hpos vs [] ei.zero (fun x hx => ⟨(hv.mem x hx).1.1, (hv.mem x hx).2.1⟩) hzl with ⟨h1, h2⟩ | h
  · simp only [List.length_nil, flatC, List.flatMap_nil, List.nil_append] at h1 h2
    refine ⟨h1, by rw [h2]; exact chunk_flat vs (fun x hx => ⟨(hv.mem x hx).1.1, (hv.mem x hx).2.2⟩), fun x hx => ⟨(hv.mem x hx).1, ?_⟩⟩
    have := (hv.mem x hx).2.2
    cases ha : isAggK ei.k with
    | true => rfl
    | false =>
      rw [ha] at this
      simp only [Bool.false_eq_true, if_false] at this
      cases x with
      | agg cs =>
        exfalso
        simp only [AV.cells] at this
        have hk : ∀ x : List AV, x = [AV.agg x] → False := fun x h => by
          have h2 : SizeOf.sizeOf x = SizeOf.sizeOf [AV.agg x] := congrArg (fun l : List AV => SizeOf.sizeOf l) h
          simp only [List.cons.sizeOf_spec, List.nil.sizeOf_spec, AV.agg.sizeOf_spec] at h2
          omega
        exact hk cs this
      | _ => rfl
  · simp [flatC] at h

theorem S_buildL (hty : TyOk P ty) {len : Nat} {ps : List (Nat × Operand)} {vs : List AV} {e : TypeId} {ti ei : TI} (ht : ty t = some ti) (hk : ti.k = .slice e) (he : ty e = some ei) (hg : GtsI env 0 ps vs)
    (hl : vs.length = len) (hv : Elts ei vs) (hlim : len * ei.size ≤ 16777216) (hpos : 0 < ei.size) (hd : slotOk n (some d) = true)
    (h : WX false P ty n ops l ⟨(d, .sl nx 0 len len) :: env, (nx, some ⟨vs, ei.size, true, false⟩) :: bx, nx + 1⟩ K) :
    WX false P ty n ops (⟨some d, .buildSlice t len ps.toArray, tp, pos, aft, none⟩ :: l) ⟨env, bx, nx⟩ K := by
  subst hl
  obtain ⟨h1, h2, h3⟩ := elts_facts hty he hv hpos
  exact S_buildB hty ht hk he hg.gtsP h1 h2 hlim hpos h3 hd h

theorem S_buildV (hty : TyOk P ty) {q : Bool} {len : Nat} {ps : List (Nat × Operand)} {vs : List AV} {e : TypeId} {ei : TI} (ht : (ty t).map TI.k = some (.slice e)) (he : ty e = some ei) (hg : GtsI env 0 ps vs)
    (hl : vs.length = len) (hv : Elts ei vs) (hlim : len * ei.size ≤ 16777216) (hpos : 0 < ei.size) (hd : slotOk n (some d) = true)
    (h : WX q P ty n ops l ⟨(d, .ls ei.size false true vs) :: env, bx, nx⟩ K) :
    WX q P ty n ops (⟨some d, .buildSlice t len ps.toArray, tp, pos, aft, none⟩ :: l) ⟨env, bx, nx⟩ K := by
  subst hl
  obtain ⟨h1, h2, h3⟩ := elts_facts hty he hv hpos
  have hm : (ps.map fun p => (p.1, St.get ⟨env, bx, nx⟩ p.2)) = parts 0 vs := hg.gtsP.map bx nx
  have hval : valStep ty bx (St.get ⟨env, bx, nx⟩) (.buildSlice t vs.length ps.toArray) = some ((fillL ei.size (parts 0 vs) (zeros ei.size ei.zero vs.length)).1 ∧ vs.length * ei.size ≤ 16777216 ∧ 0 < ei.size ∧ (∀ x ∈ vs, okCells ei.size x ∧ (isAggK ei.k || x.flat) = true), .ls ei.size false true vs) := by
    simp only [valStep, opVal, ht, he, hm, h2]
  exact S_val hd hval ⟨h1, hlim, hpos, h3⟩ h
end

theorem View.ofEq {bx : List (Nat × Option Box)} {x y : AV} (h : Pure x) (e : x = y) : View bx x y := e ▸ .pure h
theorem view_slE {bx : List (Nat × Option Box)} {id len cap st : Nat} {E ys : List AV} {sl ro : Bool} (hb : box? bx id = some ⟨E, st, sl, ro⟩) (hl : len = E.length) (hp : PureB E) (e : E = ys) : View bx (.sl id 0 len cap) (.ls st true false ys) := e ▸ view_slA hb hl hp
theorem view_loose {bx : List (Nat × Option Box)} {st : Nat} {n e : Bool} {xs ys : List AV} (hp : PureB xs) (h : xs = ys) : View bx (.ls st n e xs) (.ls st true false ys) := by
  subst h
  refine .ls (.inr ⟨rfl, rfl⟩) rfl (fun i x y h1 h2 => ?_) (fun i x y j c d h1 h2 h3 h4 => ?_)
  · rw [h1] at h2
    obtain rfl := Option.some.inj h2
    exact ⟨rfl, fun d hd => List.all_eq_true.1 (hp _ (List.mem_of_getElem? h1)).2 d hd⟩
  · rw [h1] at h2
    obtain rfl := Option.some.inj h2
    rw [h3] at h4
    obtain rfl := Option.some.inj h4
    exact .pure ((hp _ (List.mem_of_getElem? h1)).1.mem _ (List.mem_of_getElem? h3))

theorem E_X {ty : TypeId → Option TI} {rs : List ResultVar} {s : St} {xs : List AV} {r : AV} (h1 : ResL ty s rs xs) (hv : View s.bx (oneOrTup xs) r) : retV ty rs (· = r) .ret s := E_W h1 hv rfl

theorem take_full {E : List AV} {len : Nat} (h : len = E.length) : (E.drop 0).take len = E := by simp [h]
theorem app_nil0 (ys : List AV) : ([] : List AV).drop 0 ++ ys = ys := rfl
theorem app_norm (E ys : List AV) : E.drop 0 ++ ys = E ++ ys := rfl

end Go.Av
namespace Go.Av

class CellC (x : AV) : Prop where
  pure : Pure x
  ok : x.cellOk = true
class CellsC (l : List AV) : Prop where
  out : ∀ y ∈ l, Pure y ∧ y.cellOk = true
class PureC (x : AV) : Prop where
  out : Pure x
class PureLC (l : List AV) : Prop where
  out : PureAll l
class ElemF {α : Type} (f : α → AV) : Prop where
  out : ∀ a, ∀ y ∈ (f a).cells, Pure y ∧ y.cellOk = true
class PureEC (E : List AV) : Prop where
  out : PureB E

theorem pureAll_of {l : List AV} (h : ∀ y ∈ l, Pure y) : PureAll l := by
  induction l with
  | nil => trivial
  | cons a l ih => exact ⟨h a (by simp), ih (fun y hy => h y (by simp [hy]))⟩
theorem pureB_of {E : List AV} (h : ∀ x ∈ E, ∀ y ∈ x.cells, Pure y ∧ y.cellOk = true) : PureB E := fun x hx => ⟨pureAll_of fun y hy => (h x hx y hy).1, List.all_eq_true.2 fun y hy => (h x hx y hy).2⟩
theorem PureB.all {E : List AV} (h : PureB E) : ∀ x ∈ E, ∀ y ∈ x.cells, Pure y ∧ y.cellOk = true := fun x hx y hy => ⟨(h x hx).1.mem y hy, List.all_eq_true.1 (h x hx).2 y hy⟩

instance (k : IntKind) (n : Int) : CellC (.int k n) := ⟨pure_int _ _, rfl⟩
instance (b : Bool) : CellC (.bool b) := ⟨pure_bool _, rfl⟩
instance (s : ByteArray) : CellC (.str s) := ⟨pure_str _, rfl⟩
instance : CellC .nilp := ⟨pure_nilp, rfl⟩
instance (st : Nat) (n e : Bool) (E : List AV) [h : PureEC E] : CellC (.ls st n e E) := ⟨pure_ls fun x hx y hy => (h.out.all x hx y hy).1, rfl⟩
instance : CellsC [] := ⟨fun _ h => by cases h⟩
instance (x : AV) (l : List AV) [h : CellC x] [k : CellsC l] : CellsC (x :: l) := ⟨fun y hy => by
  rcases List.mem_cons.1 hy with rfl | hy
  · exact ⟨h.pure, h.ok⟩
  · exact k.out y hy⟩
instance (cs : List AV) [h : CellsC cs] : CellC (.vp cs) := ⟨pure_vp fun y hy => (h.out y hy).1, rfl⟩
instance (x : AV) [h : CellC x] : PureC x := ⟨h.pure⟩
instance : PureLC [] := ⟨trivial⟩
instance (x : AV) (l : List AV) [h : PureC x] [k : PureLC l] : PureLC (x :: l) := ⟨⟨h.out, k.out⟩⟩
instance (cs : List AV) [h : PureLC cs] : PureC (.agg cs) := ⟨pure_aggL h.out⟩
instance (cs : List AV) [h : PureLC cs] : PureC (.tup cs) := ⟨pure_tupL h.out⟩
instance (f : FuncId) (cs : List AV) [h : PureLC cs] : PureC (.fn f cs) := ⟨pure_fn h.out.mem⟩
instance : PureC .undef := ⟨pure_undef⟩
instance : PureEC [] := ⟨pureB_nil⟩
instance (bs : List UInt8) : PureEC (bA bs) := ⟨pureB_bA bs⟩
instance {α : Type} (f : α → AV) (q : List α) [h : ElemF f] : PureEC (q.map f) := ⟨pureB_of fun x hx y hy => by
  obtain ⟨a, _, rfl⟩ := List.mem_map.1 hx
  exact h.out a y hy⟩
instance (E F : List AV) [h : PureEC E] [k : PureEC F] : PureEC (E ++ F) := ⟨pureB_append h.out k.out⟩
instance (E : List AV) (n : Nat) [h : PureEC E] : PureEC (E.take n) := ⟨fun x hx => h.out x (List.mem_of_mem_take hx)⟩
instance (E : List AV) (n : Nat) [h : PureEC E] : PureEC (E.drop n) := ⟨fun x hx => h.out x (List.mem_of_mem_drop hx)⟩
instance (k : IntKind) (n : Int) (E : List AV) [h : PureEC E] : PureEC (.int k n :: E) := ⟨pureB_cons ⟨pure_int _ _, trivial⟩ rfl h.out⟩
instance (b : Bool) (E : List AV) [h : PureEC E] : PureEC (.bool b :: E) := ⟨pureB_cons ⟨pure_bool _, trivial⟩ rfl h.out⟩
instance (s : ByteArray) (E : List AV) [h : PureEC E] : PureEC (.str s :: E) := ⟨pureB_cons ⟨pure_str _, trivial⟩ rfl h.out⟩
instance (st : Nat) (n e : Bool) (F : List AV) (E : List AV) [k : PureEC F] [h : PureEC E] : PureEC (.ls st n e F :: E) := ⟨pureB_cons ⟨pure_ls fun x hx y hy => (k.out.all x hx y hy).1, trivial⟩ rfl h.out⟩
instance (cs : List AV) (E : List AV) [k : CellsC cs] [h : PureEC E] : PureEC (.agg cs :: E) := ⟨pureB_cons (x := .agg cs) (pureAll_of fun y hy => (k.out y hy).1) (List.all_eq_true.2 fun y hy => (k.out y hy).2) h.out⟩
instance (n : Nat) (k : IntKind) (v : Int) : PureEC (List.replicate n (.int k v)) := ⟨fun x hx => by
  rw [(List.mem_replicate.1 hx).2]; exact ⟨⟨pure_int _ _, trivial⟩, rfl⟩⟩
instance (s : ByteArray) : PureEC (listOf s) := ⟨pureB_of fun x hx y hy => by
  obtain ⟨a, _, rfl⟩ := List.mem_map.1 hx
  simp only [AV.cells, List.mem_cons, List.not_mem_nil, or_false] at hy
  subst hy
  exact ⟨pure_int _ _, rfl⟩⟩

class FlatC (x : AV) : Prop where
  out : Flat x
class FlatLC (l : List AV) : Prop where
  out : FlatL l
instance (k : IntKind) (n : Int) : FlatC (.int k n) := ⟨flat_int _ _⟩
instance (b : Bool) : FlatC (.bool b) := ⟨flat_bool _⟩
instance (s : ByteArray) : FlatC (.str s) := ⟨flat_str _⟩
instance : FlatC .nilp := ⟨flat_nilp⟩
instance (st : Nat) (n e : Bool) : FlatC (.ls st n e []) := ⟨flat_ls0 _ _ _⟩
instance : FlatLC [] := ⟨trivial⟩
instance (x : AV) (l : List AV) [h : FlatC x] [k : FlatLC l] : FlatLC (x :: l) := ⟨⟨h.out, k.out⟩⟩
instance (cs : List AV) [h : FlatLC cs] : FlatC (.agg cs) := ⟨flat_agg h.out⟩
instance (cs : List AV) [h : FlatLC cs] : FlatC (.tup cs) := ⟨flat_tup h.out⟩

class OwnC (x : AV) : Prop where
  out : Own x
class OwnLC (l : List AV) : Prop where
  out : OwnL l
class OwnEC (E : List AV) : Prop where
  out : OwnE E
class OwnF {α : Type} (f : α → AV) : Prop where
  out : ∀ a, ∀ y ∈ (f a).cells, Own y
instance (x : AV) [h : FlatC x] : OwnC x := ⟨h.out.own⟩
instance (id off len cap : Nat) : OwnC (.sl id off len cap) := ⟨own_sl _ _ _ _⟩
instance (id e k : Nat) : OwnC (.ptr id e k) := ⟨own_ptr _ _ _⟩
instance : OwnLC [] := ⟨trivial⟩
instance (x : AV) (l : List AV) [h : OwnC x] [k : OwnLC l] : OwnLC (x :: l) := ⟨⟨h.out, k.out⟩⟩
instance (cs : List AV) [h : OwnLC cs] : OwnC (.agg cs) := ⟨own_agg h.out⟩
instance (cs : List AV) [h : OwnLC cs] : OwnC (.tup cs) := ⟨own_tup h.out⟩
instance : OwnEC [] := ⟨ownE_nil⟩
instance (bs : List UInt8) : OwnEC (bA bs) := ⟨ownE_bA bs⟩
instance {α : Type} (f : α → AV) (q : List α) [h : OwnF f] : OwnEC (q.map f) := ⟨fun x hx y hy => by
  obtain ⟨a, _, rfl⟩ := List.mem_map.1 hx
  exact h.out a y hy⟩
instance (E F : List AV) [h : OwnEC E] [k : OwnEC F] : OwnEC (E ++ F) := ⟨ownE_append h.out k.out⟩
instance (E : List AV) (n : Nat) [h : OwnEC E] : OwnEC (E.take n) := ⟨fun x hx => h.out x (List.mem_of_mem_take hx)⟩
instance (k : IntKind) (n : Int) (E : List AV) [h : OwnEC E] : OwnEC (.int k n :: E) := ⟨ownE_cons (x := .int k n) ⟨(flat_int _ _).own, trivial⟩ h.out⟩
instance (id off len cap : Nat) (E : List AV) [h : OwnEC E] : OwnEC (.sl id off len cap :: E) := ⟨ownE_cons (x := .sl id off len cap) ⟨own_sl _ _ _ _, trivial⟩ h.out⟩
instance (cs : List AV) (E : List AV) [k : OwnLC cs] [h : OwnEC E] : OwnEC (.agg cs :: E) := ⟨ownE_cons (x := .agg cs) k.out h.out⟩

structure Mlen (p : Prop) : Prop where
  out : p
structure Msz (p : Prop) : Prop where
  out : p
structure Mnorm (p : Prop) : Prop where
  out : p
structure Mtake (p : Prop) : Prop where
  out : p
structure Mnat (p : Prop) : Prop where
  out : p
structure Mif (p : Prop) : Prop where
  out : p
theorem mlen {p : Prop} (h : p) : Mlen p := ⟨h⟩
theorem msz {p : Prop} (h : p) : Msz p := ⟨h⟩
theorem mnorm {p : Prop} (h : p) : Mnorm p := ⟨h⟩
theorem mtake {p : Prop} (h : p) : Mtake p := ⟨h⟩
theorem mnat {p : Prop} (h : p) : Mnat p := ⟨h⟩
theorem src_sl {ty : TypeId → Option TI} {bx : List (Nat × Option Box)} {ei : TI} {xt : TypeId} {e : TypeId} {id off len cap : Nat} {E : List AV} {st : Nat} {sl ro : Bool} {ys : List AV} (ht : (ty xt).map TI.k = some (.slice e)) (hb : box? bx id = some ⟨E, st, sl, ro⟩) (hst : st = ei.size)
    (hfit : Mlen (off + len ≤ E.length)) (hys : Mtake ((E.drop off).take len = ys)) : Src ty bx ei xt (.sl id off len cap) ys := .sl ht hb hst hfit.out hys.out

section
variable {P : Program} {ty : TypeId → Option TI} {n : Nat} {ops l : List Oper} {K : St → Prop} {tp : TypeId} {pos : String} {aft : Array Edge} {env : List (Nat × AV)} {bx : List (Nat × Option Box)} {nx : Nat} {d : Tmp}
  {t xt : TypeId} {x y : Operand} {q : Bool}

theorem bd_at {k : IntKind} {a : Int} {v w : Nat} (hx : Gt env x (.int k a)) (h0 : 0 ≤ a) (h : Mnat (a.toNat = v)) : Bd env (some x) w v := .at hx h0 h.out

theorem M_appB {e : TypeId} {ei : TI} {id off len cap st : Nat} {E ys E' : List AV} {sl ro : Bool} {v : AV} (ht : (ty t).map TI.k = some (.slice e)) (he : ty e = some ei) (hx : Gt env x (.sl id off len cap)) (hB : box? bx id = some ⟨E, st, sl, ro⟩)
    (hst : st = ei.size) (hy : Gt env y v) (hs : Src ty bx ei xt v ys) (hend : Mlen (off + len = E.length)) (hpos : 0 < ei.bytes) (hr : Mnorm (E.drop off ++ ys = E')) (hd : slotOk n (some d) = true) (hsz : Msz ((len + ys.length) * ei.bytes ≤ 140737488355328))
    (h : WX false P ty n ops l ⟨(d, .sl nx 0 (len + ys.length) (len + ys.length)) :: env, (nx, some ⟨E', ei.size, true, ro⟩) :: (id, none) :: bx, nx + 1⟩ K) :
    WX false P ty n ops (⟨some d, .call ⟨.builtin .append, #[x, y], #[t, xt]⟩, tp, pos, aft, none⟩ :: l) ⟨env, bx, nx⟩ K := S_appB ht he hx hB hst hy hs hend.out hpos hr.out hd hsz.out h

theorem M_slLs {e : TypeId} {ei : TI} {lo hi : Option Operand} {st l0 h0 : Nat} {nn ex : Bool} {xs ys : List AV} (ht : (ty t).map TI.k = some (.slice e)) (he : ty e = some ei) (hx : Gt env x (.ls st nn ex xs)) (hst : st = ei.size) (hl : Bd env lo 0 l0) (hh : Bd env hi xs.length h0)
    (h1 : Mlen (l0 ≤ h0)) (h2 : Mlen (h0 ≤ xs.length)) (hr : Mtake ((xs.drop l0).take (h0 - l0) = ys)) (hd : slotOk n (some d) = true) (hex : ex = false)
    (h : WX q P ty n ops l ⟨(d, .ls ei.size nn false ys) :: env, bx, nx⟩ K) :
    WX q P ty n ops (⟨some d, .slice t x lo hi none, tp, pos, aft, none⟩ :: l) ⟨env, bx, nx⟩ K := S_slLs ht he hx hst hl hh h1.out h2.out hr.out hd hex h

theorem M_slSl {e : TypeId} {ei : TI} {lo hi : Option Operand} {id off len cap l0 h0 : Nat} {b : Box} {off' len' cap' : Nat} (ht : (ty t).map TI.k = some (.slice e)) (he : ty e = some ei) (hx : Gt env x (.sl id off len cap)) (hB : box? bx id = some b) (hst : b.st = ei.size) (hl : Bd env lo 0 l0) (hh : Bd env hi len h0)
    (h1 : Mlen (l0 ≤ h0)) (h2 : Mlen (h0 ≤ cap)) (e1 : off + l0 = off') (e2 : h0 - l0 = len') (e3 : cap - l0 = cap') (hd : slotOk n (some d) = true)
    (h : WX q P ty n ops l ⟨(d, .sl id off' len' cap') :: env, bx, nx⟩ K) :
    WX q P ty n ops (⟨some d, .slice t x lo hi none, tp, pos, aft, none⟩ :: l) ⟨env, bx, nx⟩ K := S_slSl ht he hx hB hst hl hh h1.out h2.out e1 e2 e3 hd h
end

theorem view_nothingE {bx : List (Nat × Option Box)} {st st' : Nat} {n e : Bool} {ys : List AV} (h : ys = []) : View bx (.ls st n e []) (.ls st' true false ys) := by subst h; exact .nothing
theorem view_slN {bx : List (Nat × Option Box)} {id off len cap st : Nat} {E ys : List AV} {sl ro : Bool} (hb : box? bx id = some ⟨E, st, sl, ro⟩) (hl : Mlen (off + len ≤ E.length)) (hp : PureB E) (e : Mtake ((E.drop off).take len = ys)) : View bx (.sl id off len cap) (.ls st true false ys) := view_slP hb hl.out hp e.out
theorem ownB_boxM {N id : Nat} {E : List AV} {st : Nat} {sl ro : Bool} {l : List (Nat × Option Box)} (hid : Mlen (N ≤ id)) (h : OwnE E) (k : OwnB N l) : OwnB N ((id, some ⟨E, st, sl, ro⟩) :: l) := ownB_cons hid.out h k

end Go.Av
namespace Go.Av

def upFirst (n : Nat) : List AV → List AV
  | [] => []
  | .ls st true true [] :: l => .sl n 0 0 0 :: l
  | x :: l => x :: upFirst n l
def upV (n : Nat) : AV → AV
  | .agg cs => .agg (upFirst n cs)
  | .ls st true true [] => .sl n 0 0 0
  | v => v

theorem up_reflL {n : Nat} : ∀ l : List AV, UpL n l l
  | [] => trivial
  | _ :: l => ⟨.refl _, up_reflL l⟩
theorem up_first (n : Nat) : ∀ l : List AV, UpL n l (upFirst n l)
  | [] => trivial
  | x :: l => by
    unfold upFirst
    split
    · trivial
    · rename_i h; cases h; exact ⟨.nil _, up_reflL _⟩
    · rename_i h; cases h; exact ⟨.refl _, up_first n _⟩
theorem up_V (n : Nat) (v : AV) : Up n v (upV n v) := by
  unfold upV
  split
  · exact up_agg (up_first n _)
  · exact .nil _
  · exact .refl _

theorem rel_up {G : Gh} {bx : List (Nat × Option Box)} {nx : Nat} {φ : Nat → Option Loc} {w : World} (R : Rel G bx nx φ w) (sz : Nat) : ∃ φ', Rel G ((nx, some ⟨[], sz, true, false⟩) :: bx) (nx + 1) φ' w ∧
    ∀ (x y : AV) (v : Value), Up nx x y → Rep w φ (OK G bx φ w) x v → Rep w φ' (OK G ((nx, some ⟨[], sz, true, false⟩) :: bx) φ' w) y v := by
  have hA := R.add_box (w' := w) (.refl w) (L := (.one 0 0 sz 0 true true)) (b := ⟨[], sz, true, false⟩) (fun h => by cases h) rfl rfl (fun i x h => by simp at h) (fun _ => rfl) (fun h => by cases h) (fun h => by cases h)
  exact ⟨_, hA.rel, fun x y v hu hr => (hu.rep hA.loc hr).mono (fun b o k => ⟨(hA.cell b o k).1, rfl⟩) (fun _ _ k => k)⟩

inductive UpTo : AV → List (Nat × Option Box) → Nat → AV → List (Nat × Option Box) → Nat → Prop
  | refl (r : AV) (b : List (Nat × Option Box)) (n : Nat) : UpTo r b n r b n
  | step {r : AV} {b : List (Nat × Option Box)} {n : Nat} {r' : AV} {b' : List (Nat × Option Box)} {n' : Nat} (sz : Nat) (h : UpTo (upV n r) ((n, some ⟨[], sz, true, false⟩) :: b) (n + 1) r' b' n') : UpTo r b n r' b' n'

theorem UpTo.rel {r : AV} {b : List (Nat × Option Box)} {n : Nat} {r' : AV} {b' : List (Nat × Option Box)} {n' : Nat} (h : UpTo r b n r' b' n') {G : Gh} {w : World} {v : Value} :
    ∀ {φ : Nat → Option Loc}, Rel G b n φ w → Rep w φ (OK G b φ w) r v → ∃ φ', Rel G b' n' φ' w ∧ Rep w φ' (OK G b' φ' w) r' v := by
  induction h with
  | refl r b n => exact fun R h => ⟨_, R, h⟩
  | step sz _ ih =>
    intro φ R h
    obtain ⟨φ', R', k⟩ := rel_up R sz
    exact ih R' (k _ _ v (up_V _ _) h)

theorem CR.pullU {P : Program} {f : FuncId} {args : List AV} {bs : List (Nat × Option Box)} {nx : Nat} {R : AV → List (Nat × Option Box) → Nat → Prop} {r0 : AV} {b0 : List (Nat × Option Box)} {n0 : Nat} (h : CR P f args bs nx R)
    (k : ∀ r b n, R r b n → ∃ r1 b1 n1 ps, UpTo r b n r1 b1 n1 ∧ PullTo nx r0 b0 n0 ps r1 b1) : CR P f args bs nx (Is r0 b0 n0) := by
  refine ⟨h.1, fun G φ w vs h1 h2 h3 hrel hA => (h.2 G φ w vs h1 h2 h3 hrel hA).mono ?_⟩
  rintro e w' ⟨v, r, b, n, φ', rfl, hR, hrel', hrep⟩
  obtain ⟨r1, b1, n1, ps, hu, hp⟩ := k r b n hR
  obtain ⟨φ1, hrel1, hrep1⟩ := hu.rel hrel' hrep
  subst h3
  obtain ⟨φ2, h4, h5⟩ := rel_pull hrel1 ps hp.box hp.names.low hp.names.le hp.names.dom hp.lowB.get hp.names.inj
  exact ⟨v, r0, b0, n0, φ2, rfl, ⟨rfl, rfl, rfl⟩, h4, h5 r0 r1 v hp.res hp.low hrep1⟩

def EndB (nx0 : Nat) (r0 : AV) (b0 : List (Nat × Option Box)) (n0 : Nat) (r : AV) (b : List (Nat × Option Box)) (n : Nat) : Prop := ∃ r1 b1 n1 ps, UpTo r b n r1 b1 n1 ∧ PullTo nx0 r0 b0 n0 ps r1 b1

theorem CR_introU {P : Program} {ty : TypeId → Option TI} (hty : TyOk P ty) {f : FuncId} {fn : Func} {c : Code} {args : List AV} {bs : List (Nat × Option Box)} {nx : Nat} {r0 : AV} {b0 : List (Nat × Option Box)} {n0 : Nat} (hf : P.funcs[f]? = some fn)
    (hname : (fn.name == "runtime.NumGoroutine") = false) (hb : fn.body = some c) (n : Nat) (hn : fn.ntmps = n) (hargs : args.length ≤ n) (rs : List ResultVar) (hrs : fn.results.toList = rs)
    (h : ∀ w0 ok0 wr φ0, T P ⟨w0, ok0, wr, n, φ0, nx⟩ c ⟨argEnv 0 args, bs, nx⟩ (retR ty rs (EndB nx r0 b0 n0))) : CR P f args bs nx (Is r0 b0 n0) :=
  CR.pullU (CR_intro hty hf hname hb n hn hargs rs hrs h) (fun _ _ _ k => k)

section
variable {ty : TypeId → Option TI} {nx0 : Nat} {r0 : AV} {b0 : List (Nat × Option Box)} {n0 : Nat} {rs : List ResultVar} {s : St} {xs : List AV}

theorem E_U {r1 : AV} {b1 : List (Nat × Option Box)} {n1 : Nat} (ps : List (Nat × Nat)) (h1 : ResL ty s rs xs) (hu : UpTo (oneOrTup xs) s.bx s.nx r1 b1 n1) (hn : NamesOk ps nx0 n0 b0 = true) (hr : Ren (swapTo ps) r0 r1) (hl : Low n0 r0)
    (hb : PullB (swapTo ps) b1 b0) (hlb : LowBs n0 b0) : retR ty rs (EndB nx0 r0 b0 n0) .ret s := by
  obtain ⟨p, h2, h3⟩ := h1.list
  exact E_R h2 h3 ⟨r1, b1, n1, ps, hu, namesOk_spec hn, hr, hl, hb, hlb⟩
theorem E_U0 (ps : List (Nat × Nat)) (h1 : ResL ty s rs xs) (hn : NamesOk ps nx0 n0 b0 = true) (hr : Ren (swapTo ps) r0 (oneOrTup xs)) (hl : Low n0 r0) (hb : PullB (swapTo ps) s.bx b0) (hlb : LowBs n0 b0) : retR ty rs (EndB nx0 r0 b0 n0) .ret s :=
  E_U ps h1 (.refl _ _ _) hn hr hl hb hlb
theorem E_U1 (ps : List (Nat × Nat)) (sz : Nat) (h1 : ResL ty s rs xs) (hn : NamesOk ps nx0 n0 b0 = true) (hr : Ren (swapTo ps) r0 (upV s.nx (oneOrTup xs))) (hl : Low n0 r0) (hb : PullB (swapTo ps) ((s.nx, some ⟨[], sz, true, false⟩) :: s.bx) b0) (hlb : LowBs n0 b0) : retR ty rs (EndB nx0 r0 b0 n0) .ret s :=
  E_U ps h1 (.step sz (.refl _ _ _)) hn hr hl hb hlb
end

end Go.Av
namespace Go.Av

inductive SubL : List AV → Nat → Nat → List AV → Prop
  | nil (l : List AV) : SubL l 0 0 []
  | take {a : AV} {l r : List AV} {n : Nat} (h : SubL l 0 n r) : SubL (a :: l) 0 (n + 1) (a :: r)
  | skip {a : AV} {l r : List AV} {k n : Nat} (h : SubL l k n r) : SubL (a :: l) (k + 1) n r
theorem SubL.eq {l r : List AV} {k n : Nat} (h : SubL l k n r) : k + n ≤ l.length ∧ (l.drop k).take n = r := by
  induction h with
  | nil l => simp
  | take h ih => simp only [List.drop_zero, List.length_cons] at ih ⊢; exact ⟨by omega, by rw [List.take_succ_cons, ih.2]⟩
  | skip h ih => simp only [List.drop_succ_cons, List.length_cons]; exact ⟨by omega, ih.2⟩

section
variable {P : Program} {ty : TypeId → Option TI} {n : Nat} {ops l : List Oper} {K : St → Prop} {tp : TypeId} {pos : String} {aft : Array Edge} {env : List (Nat × AV)} {bx : List (Nat × Option Box)} {nx : Nat} {d : Tmp}
  {t : TypeId} {x : Operand} {q : Bool}

theorem M_loadA {ti : TI} {id e j : Nat} {B : Box} {w : AV} {cs : List AV} (ht : ty t = some ti) (ha : isAggK ti.k = true) (hx : Gt env x (.ptr id e j)) (hB : box? bx id = some B) (he : B.elems[e]? = some w)
    (hc : SubL w.cells j ti.size cs) (hd : slotOk n (some d) = true) (h : WX q P ty n ops l ⟨(d, .agg cs) :: env, bx, nx⟩ K) :
    WX q P ty n ops (⟨some d, .load t x, tp, pos, aft, none⟩ :: l) ⟨env, bx, nx⟩ K := by
  obtain ⟨h1, h2⟩ := hc.eq
  subst h2
  exact S_loadA ht hx hB he ha h1 hd h

end

theorem ren_slE {ρ : Nat → Nat} {id off off' len len' cap cap' : Nat} (h1 : off' = off) (h2 : len' = len) (h3 : cap' = cap) : Ren ρ (.sl id off len cap) (.sl (ρ id) off' len' cap') := by
  subst h1 h2 h3; exact .sl _ _ _ _
theorem pullB_pureE {ρ : Nat → Nat} {bx l : List (Nat × Option Box)} {id : Nat} {E E' : List AV} {st : Nat} {sl ro : Bool} (h : box? bx (ρ id) = some ⟨E', st, sl, ro⟩) (e : E' = E) (hp : PureB E) (k : PullB ρ bx l) : PullB ρ bx ((id, some ⟨E, st, sl, ro⟩) :: l) := by
  subst e; exact pullB_pure h hp k

section
variable {P : Program} {ty : TypeId → Option TI} {n : Nat} {ops l : List Oper} {K : St → Prop} {tp : TypeId} {pos : String} {aft : Array Edge} {env : List (Nat × AV)} {bx : List (Nat × Option Box)} {nx : Nat} {d : Tmp}

end

end Go.Av
namespace Go.Av

section
variable {P : Program} {ty : TypeId → Option TI} {n : Nat} {ops l : List Oper} {K : St → Prop} {tp : TypeId} {pos : String} {aft : Array Edge} {env : List (Nat × AV)} {bx : List (Nat × Option Box)} {nx : Nat} {d : Tmp}
  {t : TypeId} {x y : Operand} {q : Bool} {v : AV}

theorem M_appV {q : Bool} {xt : TypeId} {e : TypeId} {ei : TI} {st : Nat} {nil : Bool} {xs ys zs : List AV} {v : AV} (ht : (ty t).map TI.k = some (.slice e)) (he : ty e = some ei) (hx : Gt env x (.ls st nil true xs))
    (hy : Gt env y v) (hs : Src ty bx ei xt v ys) (hpos : 0 < ei.bytes) (hst : (st == ei.size) = true) (hd : slotOk n (some d) = true) (hr : Mnorm (xs ++ ys = zs)) (hsz : Msz ((xs.length + ys.length) * ei.bytes ≤ 140737488355328))
    (h : WX q P ty n ops l ⟨(d, .ls ei.size (nil && ys.isEmpty) false zs) :: env, bx, nx⟩ K) :
    WX q P ty n ops (⟨some d, .call ⟨.builtin .append, #[x, y], #[t, xt]⟩, tp, pos, aft, none⟩ :: l) ⟨env, bx, nx⟩ K := by
  obtain ⟨p, h1, h2⟩ := hs.of
  have hr := hr.out
  have hsz := hsz.out
  subst hr
  refine S_val (r := .ls ei.size (nil && ys.isEmpty) false (xs ++ ys)) hd (by simp only [valStep, appVal, ht, he, hy.get bx nx, h1, hx.get bx nx]; rfl) ?_ h
  exact ⟨h2, by simp, .inl (by simpa using hst), by omega, hpos⟩

end

theorem T_drawM {P : Program} {ty : TypeId → Option TI} {G : Gh} {Q : Exit → St → Prop} {id : Nat} {l pre post : List Oper} {st : St} (m : Nat) (hty : TyOk P ty) (hmix : P.follows .mixedOrders = true) (h1 : l.take m = pre) (h2 : l.drop m = post) (hD : drawOk l m = true) (hm : m ≤ l.length)
    (h : WX true P ty G.n l pre st fun s => WX false P ty G.n l post s (Q .normal)) : T P G (.region id l.toArray true) st Q := by
  subst h1 h2
  exact T_draw hty hmix m hD hm h

end Go.Av
namespace Go.Av

theorem srcOf_mono {ty : TypeId → Option TI} {bx bx' : List (Nat × Option Box)} (hk : Stay bx bx') {ei : TI} {xt : TypeId} {x : AV} {r : Prop × List AV} (h : srcOf ty bx ei xt x = some r) : srcOf ty bx' ei xt x = some r := by
  unfold srcOf at h ⊢
  split at h
  all_goals first
    | exact h
    | (split at h
       all_goals first
         | (rename_i hb; simp only [hk _ _ hb]; exact h)
         | (rename_i hb _ _; simp only [hk _ _ hb, *]; exact h)
         | (simp_all; done)
         | exact h
         | cases h)

theorem sliceVal_mono {ty : TypeId → Option TI} {bx bx' : List (Nat × Option Box)} (hk : Stay bx bx') {get : Operand → AV} {t : TypeId} {x : AV} {lo hi mx : Option Operand} {r : Prop × AV} (h : sliceVal ty bx get t x lo hi mx = some r) : sliceVal ty bx' get t x lo hi mx = some r := by
  unfold sliceVal at h ⊢
  split at h
  · exact h
  · exact h
  · split at h
    · rename_i e1 e2 e3 e4
      simp only [e1, hk _ _ e2, e3, e4]
      exact h
    · cases h
  · cases h

theorem appVal_mono {ty : TypeId → Option TI} {bx bx' : List (Nat × Option Box)} (hk : Stay bx bx') {t xt : TypeId} {s x : AV} {r : Prop × AV} (h : appVal ty bx t xt s x = some r) : appVal ty bx' t xt s x = some r := by
  unfold appVal at h ⊢
  split at h
  · split at h
    · split at h
      · rename_i hs
        simp only [srcOf_mono hk hs]
        exact h
      · cases h
    · cases h
  · cases h

theorem valStep_mono {ty : TypeId → Option TI} {bx bx' : List (Nat × Option Box)} (hk : Stay bx bx') {get : Operand → AV} {o : Op} {r : Prop × AV} (h : valStep ty bx get o = some r) : valStep ty bx' get o = some r := by
  unfold valStep at h ⊢
  split at h
  · split at h
    · exact appVal_mono hk h
    · cases h
  · exact h
  · cases o with
    | load t a =>
      simp only [opVal] at h ⊢
      split at h
      · split at h
        · rename_i hb; simp only [hk _ _ hb]; exact h
        · cases h
      · exact h
      · cases h
    | slice t x lo hi mx => simp only [opVal] at h ⊢; exact sliceVal_mono hk h
    | indexAddr t x i =>
      simp only [opVal] at h ⊢
      split at h
      · split at h
        · exact h
        · split at h
          · rename_i hb; simp only [hk _ _ hb]; exact h
          · cases h
        · cases h
      · exact h
      · cases h
    | makeFunc fn first caps => cases fn <;> exact h
    | call c =>
      obtain ⟨callee, args, ats⟩ := c
      cases callee with
      | builtin b => simp only [opVal] at h ⊢; exact h
      | _ => exact h
    | _ => exact h

theorem QV_mono {P : Program} {ty : TypeId → Option TI} {bx bx' : List (Nat × Option Box)} (hk : Stay bx bx') {get : Operand → AV} {o : Op} {v : AV} (h : QV P ty bx get o v) : QV P ty bx' get o v := by
  unfold QV at h ⊢
  split at h
  · rename_i p r e
    rw [valStep_mono hk e]
    exact h
  · rename_i e
    split at h
    · rename_i f xs e2
      have e3 : valStep ty bx' get o = none := by
        unfold callOf at e2
        split at e2
        · exact valStep_call
        · cases e2
      rw [e3]
      exact fun bx2 h2 => h bx2 (fun id B hb => h2 id B (hk id B hb))
    · rename_i e2
      rw [h.1 bx']
      exact h

end Go.Av
namespace Go.Av

theorem memStep_congr {ty : TypeId → Option TI} {bx : List (Nat × Option Box)} {nx : Nat} {get get' : Operand → AV} {o : Op} (h : ∀ x ∈ o.operands, get x = get' x) : memStep ty bx nx get o = memStep ty bx nx get' o := by
  cases o with
  | call c =>
    obtain ⟨callee, args, ats⟩ := c
    cases callee with
    | builtin b =>
      have ha : ∀ x ∈ args.toList, get x = get' x := fun x hx => h x (by simp [Op.operands, Call.operands]; simpa using hx)
      obtain ⟨args⟩ := args
      rcases args with _ | ⟨x, _ | ⟨y, _ | ⟨z, r⟩⟩⟩
      · cases b <;> rfl
      · have hx : get x = get' x := ha x (by simp)
        rcases hats : ats.toList with _ | ⟨t, _ | ⟨t', _ | ⟨t'', r'⟩⟩⟩ <;> cases b <;> simp only [memStep, hx, hats]
      · have hx : get x = get' x := ha x (by simp)
        have hy : get y = get' y := ha y (by simp)
        rcases hats : ats.toList with _ | ⟨t, _ | ⟨t', _ | ⟨t'', r'⟩⟩⟩ <;> cases b <;> simp only [memStep, hx, hy, hats]
      · cases b <;> rfl
    | _ => rfl
  | _ =>
    simp only [Op.operands, List.mem_toArray, List.mem_cons, List.not_mem_nil, or_false, forall_eq_or_imp, forall_eq] at h
    first
      | rfl
      | (simp only [memStep, h]; done)

def AOp (P : Program) (o : Oper) (get : Operand → AV) (bx : List (Nat × Option Box)) (nx : Nat) (r : AV) (bx' : List (Nat × Option Box)) (nx' : Nat) : Prop :=
  ∀ (G : Gh) (φ : Nat → Option Loc) (w : World) (ρ : Operand → Value), Rel G bx nx φ w → (∀ x ∈ o.op.operands, Rep w φ (OK G bx φ w) (get x) (ρ x)) →
    ∃ w' φ', Adv G bx φ w bx' nx' φ' w' ∧ ((∃ v, (execOp ρ o).run P w = .ok (.value v) w' ∧ Rep w' φ' (OK G bx' φ' w') r v) ∨ ((execOp ρ o).run P w = .ok .skip w' ∧ r = .undef))
def AStep (P : Program) (o : Oper) (get : Operand → AV) (bx : List (Nat × Option Box)) (nx : Nat) (r : AV) (bx' : List (Nat × Option Box)) (nx' : Nat) : Prop :=
  AOp P o get bx nx r bx' nx' ∨ ∃ f xs, callOf get o.op = some (f, xs) ∧ CallS P f bx nx xs (fun r1 b1 n1 => r1 = r ∧ b1 = bx' ∧ n1 = nx')

theorem AStep.congr {P : Program} {o : Oper} {get get' : Operand → AV} {bx bx' : List (Nat × Option Box)} {nx nx' : Nat} {r : AV} (h : ∀ x ∈ o.op.operands, get x = get' x) (k : AStep P o get bx nx r bx' nx') : AStep P o get' bx nx r bx' nx' := by
  rcases k with k | ⟨f, xs, k1, k2⟩
  · exact .inl fun G φ w ρ hr hx => k G φ w ρ hr fun x hm => by rw [h x hm]; exact hx x hm
  · exact .inr ⟨f, xs, by rw [← k1]; exact (callOf_congr h).symm, k2⟩

theorem AStep.mem {P : Program} {ty : TypeId → Option TI} (hty : TyOk P ty) {o : Oper} {get : Operand → AV} {bx bx' : List (Nat × Option Box)} {nx nx' : Nat} {r : AV} {p : Prop} (h : memStep ty bx nx get o.op = some (p, r, bx', nx')) (hp : p) : AStep P o get bx nx r bx' nx' := by
  refine .inl ?_
  intro G φ w ρ hr hx
  classical
  let get' : Operand → AV := fun x => if x ∈ o.op.operands then get x else .undef
  have e : memStep ty bx nx get' o.op = some (p, r, bx', nx') := by
    rw [← h]
    exact memStep_congr fun x hm => by simp only [get']; rw [if_pos hm]
  refine memStep_ok (P := P) hty hr (ρ := ρ) (fun x => ?_) e hp
  simp only [get']
  split
  · rename_i hm; exact hx x hm
  · exact .undef _

section
variable {P : Program} {G : Gh} {Q : Exit → St → Prop} {st : St}
theorem op_step {o : Oper} {K : Act → World → Prop} {r : AV} {bx' : List (Nat × Option Box)} {nx' : Nat} (h : AStep P o st.get st.bx st.nx r bx' nx')
    (hd : slotOk G.n o.dst = true) (hK : ∀ φ a w, RelA G ((St.mk st.env bx' nx').set o.dst r) φ a w → K a w) : ∀ φ a w, RelA G st φ a w → o.wp P a w K (QE G Q) := by
  rcases h with h | ⟨f, xs, h1, h2⟩
  rotate_left
  · obtain ⟨dst, op, type, pos, after, guard⟩ := o
    simp only at h1 hd hK
    unfold callOf at h1
    split at h1
    · rename_i fop args ats
      split at h1
      · rename_i f' caps hf
        simp only [Option.some.injEq, Prod.mk.injEq] at h1
        obtain ⟨rfl, rfl⟩ := h1
        exact op_callS (o := ⟨dst, .call ⟨.value fop, args, ats⟩, type, pos, after, guard⟩) rfl hf h2 hd (fun r1 b1 n1 ⟨e1, e2, e3⟩ => by subst e1 e2 e3; exact hK)
      · cases h1
    · cases h1
  intro φ a w hr
  obtain ⟨w', φ', h1, h2⟩ := h G φ w a.eval hr.rel fun x _ => hr.get x
  have hA := h1.relA hr
  unfold Oper.wp
  rcases h2 with ⟨v, h3, h4⟩ | ⟨h3, rfl⟩
  · rw [h3]
    exact hK φ' _ w' (hA.put hd h4)
  · rw [h3]
    exact hK φ' _ w' (hA.put_undef hd _)
end

structure DrawMix (ops : List Oper) (m : Nat) (lq : Nat → Bool) : Prop where
  gd : ∀ (j : Nat) (o : Oper), j < m → ops[j]? = some o → o.guard = none
  ord : ∀ (j : Nat) (o : Oper) (i : Nat), j < m → ops[j]? = some o → lq j = true → i < j → lq i = true → reach ops ops.length j i = true
  mix : ∀ (j k : Nat) (oj ok : Oper), j < k → k < m → lq j = true → lq k = false → ops[j]? = some oj → ops[k]? = some ok → oj.apart ops.toArray ok = true

theorem bxs_same {bxs : Nat → List (Nat × Option Box)} {nxs : Nat → Nat} {lq : Nat → Bool} {m : Nat} (hB : ∀ i, i < m → lq i = false → bxs (i + 1) = bxs i ∧ nxs (i + 1) = nxs i) :
    ∀ d c, c + d ≤ m → (∀ i, c ≤ i → i < c + d → lq i = false) → bxs (c + d) = bxs c ∧ nxs (c + d) = nxs c
  | 0, c, _, _ => ⟨rfl, rfl⟩
  | d + 1, c, h, hq => by
    obtain ⟨h1, h2⟩ := bxs_same hB d c (by omega) (fun i a b => hq i a (by omega))
    obtain ⟨h3, h4⟩ := hB (c + d) (by omega) (hq _ (by omega) (by omega))
    exact ⟨h3.trans h1, h4.trans h2⟩

section
variable {P : Program} {ty : TypeId → Option TI} {G : Gh} {Q : Exit → St → Prop}

theorem any_mixed (hty : TyOk P ty) {ops : List Oper} {m : Nat} {lq : Nat → Bool} (hD : DrawOk ops m) (hX : DrawMix ops m lq) (hm : m ≤ ops.length) {vs : Nat → AV} {e0 : List (Nat × AV)} {bxs : Nat → List (Nat × Option Box)} {nxs : Nat → Nat}
    (hF : ∀ i o, i < m → lq i = false → ops[i]? = some o → slotOk G.n o.dst = true ∧ ∀ c, c ≤ m → (∀ k, k < c → k < m → lq k = true → reach ops ops.length k i = false) → QV P ty (bxs c) (St.get ⟨EV ops vs e0 (fun k => !lq k) i, [], 0⟩) o.op (vs i))
    (hL : ∀ i o, i < m → lq i = true → ops[i]? = some o → slotOk G.n o.dst = true ∧ AStep P o (St.get ⟨EV ops vs e0 (fun k => !lq k || decide (k < i)) m, [], 0⟩) (bxs i) (nxs i) (vs i) (bxs (i + 1)) (nxs (i + 1)))
    (hB : ∀ i, i < m → lq i = false → bxs (i + 1) = bxs i ∧ nxs (i + 1) = nxs i) {K : St → Prop}
    {eT : List (Nat × AV)} (hE : ∀ t v, look eT t = some v → look (EV ops vs e0 (fun _ => true) m) t = some v) (hT : WX false P ty G.n ops (ops.drop m) ⟨eT, bxs m, nxs m⟩ K) (hK : ∀ s, K s → Q .normal s) :
    ∀ (fuel : Nat) (listed : Array Bool) (φ : Nat → Option Loc) (a : Act) (w : World), listed.size = ops.length → cnt (got listed) ops.length = fuel → Closed ops (got listed) → (∀ i, m ≤ i → i < ops.length → got listed i = false) →
      (∃ c, c ≤ m ∧ (∀ i, i < m → lq i = true → got listed i = decide (i < c)) ∧ RelA G ⟨EV ops vs e0 (got listed) m, bxs c, nxs c⟩ φ a w) → wpAny P .any ops.toArray (QE G Q) fuel listed a w := by
  -- two places with the same loud steps behind them have the same boxes
  have same : ∀ c d, c ≤ m → d ≤ m → (∀ i, i < m → lq i = true → decide (i < c) = decide (i < d)) → bxs c = bxs d ∧ nxs c = nxs d := by
    intro c d hc hd h
    rcases Nat.le_total c d with hcd | hcd
    · obtain ⟨h1, h2⟩ := bxs_same hB (d - c) c (by omega) (fun i a b => by
        cases hl : lq i with
        | false => rfl
        | true => have := h i (by omega) hl; simp at this; omega)
      rw [show c + (d - c) = d by omega] at h1 h2
      exact ⟨h1.symm, h2.symm⟩
    · obtain ⟨h1, h2⟩ := bxs_same hB (c - d) d (by omega) (fun i a b => by
        cases hl : lq i with
        | false => rfl
        | true => have := h i (by omega) hl; simp at this; omega)
      rw [show d + (c - d) = c by omega] at h1 h2
      exact ⟨h1, h2⟩
  intro fuel
  induction fuel with
  | zero =>
    intro listed φ a w hsz hc hC hM r
    obtain ⟨c, hcm, hcl, r⟩ := r
    have all : ∀ i, i < ops.length → got listed i = true := by
      intro i hi
      cases hS : got listed i with
      | true => rfl
      | false => have := cnt_all (S := got listed) ⟨i, hi, hS⟩; omega
    have hml : m = ops.length := by
      rcases Nat.lt_or_eq_of_le hm with h | h
      · have := hM m (Nat.le_refl _) h
        rw [all m h] at this
        cases this
      · exact h
    have hd : ops.drop m = [] := by simp [hml]
    have he : EV ops vs e0 (got listed) m = EV ops vs e0 (fun _ => true) m := EV_congr m fun k hk => ⟨rfl, all k (by omega)⟩
    obtain ⟨b1, b2⟩ := same c m hcm (Nat.le_refl _) (fun i hi hl => by rw [← hcl i hi hl, all i (by omega)]; simp [hi])
    rw [he, b1, b2] at r
    have r := r.weak (st' := ⟨eT, bxs m, nxs m⟩) ⟨hE, Nat.le_refl _, fun id b' hb => ⟨b', hb, rfl, rfl, rfl, fun h => h⟩⟩
    have := any_tail (Q := Q) hty hD (ops.drop m) m _ K listed φ a w rfl (Nat.le_refl _) hsz (fun i hi => by rw [all i hi]; simp; omega) hT hK r
    rw [hd] at this
    exact this
  | succ fuel ih =>
    intro listed φ a w hsz hc hC hM r
    obtain ⟨c, hcm, hcl, r⟩ := r
    by_cases hall : ∀ i, i < m → got listed i = true
    · have he : EV ops vs e0 (got listed) m = EV ops vs e0 (fun _ => true) m := EV_congr m fun k hk => ⟨rfl, hall k hk⟩
      obtain ⟨b1, b2⟩ := same c m hcm (Nat.le_refl _) (fun i hi hl => by rw [← hcl i hi hl, hall i hi]; simp [hi])
      rw [he, b1, b2] at r
      have r := r.weak (st' := ⟨eT, bxs m, nxs m⟩) ⟨hE, Nat.le_refl _, fun id b' hb => ⟨b', hb, rfl, rfl, rfl, fun h => h⟩⟩
      have hS : ∀ i, i < ops.length → got listed i = decide (i < m) := by
        intro i hi
        by_cases e : i < m
        · rw [hall i e]; simp [e]
        · rw [hM i (by omega) hi]; simp [e]
      have hlen : (ops.drop m).length = fuel + 1 := by
        have key : ∀ n, m ≤ n → n ≤ ops.length → cnt (got listed) n = n - m := by
          intro n
          induction n with
          | zero => intro _ _; simp [cnt]
          | succ n ih =>
            intro h1 h2
            by_cases e : m = n + 1
            · rw [cnt_zero _ (fun i hi => hall i (by omega))]; omega
            · simp only [cnt, ih (by omega) (by omega), hM n (by omega) (by omega)]
              simp
              omega
        rw [key _ hm (Nat.le_refl _)] at hc
        simpa using hc
      have := any_tail (Q := Q) hty hD (ops.drop m) m _ K listed φ a w rfl (Nat.le_refl _) hsz hS hT hK r
      rw [hlen] at this
      exact this
    · have hex : ∃ i, i < m ∧ got listed i = false := by
        refine Classical.byContradiction fun hn => hall fun i hi => ?_
        cases hS : got listed i with
        | true => rfl
        | false => exact absurd ⟨i, hi, hS⟩ hn
      refine ⟨fun h0 => ?_, fun j hj => ?_⟩
      · obtain ⟨j, h1, h2, h3⟩ := cnt_pos (S := got listed) ops.length (by omega)
        have ho : ops[j]? = some ops[j] := by simp
        have : j ∈ Region.ready .any ops.toArray listed := (mem_ready' hsz).2 ⟨h2, _, ho, fun e he hbd => h3 _ (hD.back j _ ho e he hbd)⟩
        rw [h0] at this
        cases this
      · obtain ⟨h1, o, h2, h3⟩ := (mem_ready' hsz).1 hj
        have hlt : j < ops.length := (List.getElem?_eq_some_iff.1 h2).1
        have hjm : j < m := by
          rcases Nat.lt_or_ge j m with h | h
          · exact h
          · obtain ⟨i, hi, hSi⟩ := hex
            have := reach_closed hC _ j i o h2 h3 (hD.tail j o i h2 h (by omega))
            rw [hSi] at this
            cases this
        have hgd := hX.gd j o hjm h2
        -- who writes what this one looks at
        have later : ∀ k, j < k → k < ops.length → got listed k = true → ∀ ok, ops[k]? = some ok → o.apart ops.toArray ok = true := by
          intro k hk hkl hSk ok hok
          rcases hD.edge k ok j o hok hk h2 with h | ⟨e, he, hb, rfl⟩
          · exact h
          · have := hC k ok hok hSk e he hb
            rw [h1] at this
            cases this
        have hg : ∀ k, got (listed.setIfInBounds j true) k = if k = j then true else got listed k := got_set (by omega)
        -- behind it
        have next : ∀ c', c' ≤ m → (∀ i, i < m → lq i = true → (if i = j then true else got listed i) = decide (i < c')) → ∀ φ a w, RelA G ((St.mk (EV ops vs e0 (got listed) m) (bxs c') (nxs c')).set o.dst (vs j)) φ a w → wpAny P .any ops.toArray (QE G Q) fuel (listed.setIfInBounds j true) a w := by
          intro c' hc' hcl' φ a w r
          refine ih _ φ a w (by simpa using hsz) ?_ ?_ ?_ ⟨c', hc', ?_, ?_⟩
          · have := cnt_set (S := got listed) (S' := got (listed.setIfInBounds j true)) h1 (by rw [hg]; simp) (fun k hk => by rw [hg, if_neg hk]) _ hlt
            omega
          · intro k ok hok hSk e he hb
            rw [hg] at hSk ⊢
            by_cases e' : e.on = j
            · simp [e']
            · rw [if_neg e']
              by_cases e'' : k = j
              · subst e''
                rw [h2] at hok
                cases hok
                exact h3 e he hb
              · rw [if_neg e''] at hSk
                exact hC k ok hok hSk e he hb
          · intro i h1 h2
            rw [hg, if_neg (by omega)]
            exact hM i h1 h2
          · intro i hi hl
            rw [hg]
            exact hcl' i hi hl
          · refine r.weak ⟨fun t v h => ?_, ?_, ?_⟩
            · have hbind : (ops[j]?).bind (·.dst) = o.dst := by rw [h2]; rfl
              cases hd : o.dst with
              | none =>
                simp only [St.set]
                rw [← h]
                refine EV_agree m fun k hk hw => ?_
                rw [hg]
                by_cases e : k = j
                · subst e; rw [hbind, hd] at hw; cases hw
                · rw [if_neg e]
              | some t' =>
                simp only [St.set, look]
                by_cases e : t' = t
                · subst e
                  simp only [if_true]
                  rw [← h]
                  refine (EV_last (by rw [hg]; simp) (by rw [hbind, hd]) m hjm fun k hk hkm hw => ?_).symm
                  rw [hg, if_neg (by omega)]
                  cases hSk : got listed k with
                  | false => rfl
                  | true =>
                    have hok : ops[k]? = some (ops[k]'(by omega)) := by simp
                    rw [hok] at hw
                    exact absurd hw ((Oper.apart_spec (later k hk (by omega) hSk _ hok)).2.1 t' hd)
                · rw [if_neg e, ← h]
                  refine EV_agree m fun k hk hw => ?_
                  rw [hg]
                  by_cases e' : k = j
                  · subst e'
                    rw [hbind, hd] at hw
                    exact absurd (Option.some.inj hw) e
                  · rw [if_neg e']
            · cases o.dst <;> exact Nat.le_refl _
            · intro id b' hb
              refine ⟨b', ?_, rfl, rfl, rfl, fun h => h⟩
              cases o.dst <;> exact hb
        have hA : ops.toArray[j]? = some o := by simpa using h2
        have getq : ∀ (env : List (Nat × AV)), (∀ t, t ∈ o.looksAt ops.toArray → look env t = look (EV ops vs e0 (got listed) m) t) → ∀ x ∈ o.op.operands, St.get ⟨env, [], 0⟩ x = St.get ⟨EV ops vs e0 (got listed) m, bxs c, nxs c⟩ x := by
          intro env h x hx
          cases x with
          | tmp t =>
            simp only [St.get]
            rw [h t (List.mem_append_left _ (List.mem_filterMap.2 ⟨.tmp t, by simpa using hx, rfl⟩))]
          | _ => rfl
        cases hq : lq j with
        | false =>
          obtain ⟨hd, hv⟩ := hF j o hjm hq h2
          have sees : ∀ t, t ∈ o.looksAt ops.toArray → look (EV ops vs e0 (fun k => !lq k) j) t = look (EV ops vs e0 (got listed) m) t := by
            intro t ht
            have e1 : EV ops vs e0 (fun k => !lq k) j = EV ops vs e0 (fun i => !lq i && decide (i < j)) m := by
              rw [EV_stop (S := fun i => !lq i && decide (i < j)) (k := j) m (by omega) (fun i h1 h2 => by simp; omega)]
              exact EV_congr j fun k hk => ⟨rfl, by simp [hk]⟩
            rw [e1]
            refine EV_agree m fun k hk hw => ?_
            have hkl : k < ops.length := by omega
            have hok : ops[k]? = some ops[k] := by simp
            rw [hok] at hw
            simp only [Option.bind_some] at hw
            rcases Nat.lt_trichotomy k j with h | h | h
            · rcases hD.edge j o k _ h2 h hok with hap | ⟨e, he, hb, rfl⟩
              · exact absurd ht ((Oper.apart_spec hap).1 t hw)
              · rw [h3 e he hb]
                cases hlk : lq e.on with
                | false => simpa using h
                | true => exact absurd ht ((Oper.apart_spec (hX.mix _ _ _ _ h hjm hlk hq hok h2)).1 t hw)
            · subst h; rw [h1]; simp
            · cases hSk : got listed k with
              | false => simp; omega
              | true => exact absurd ht ((Oper.apart_spec (later k h hkl hSk _ hok)).2.2 t hw)
          have hv' : QV P ty (bxs c) (St.get ⟨EV ops vs e0 (got listed) m, bxs c, nxs c⟩) o.op (vs j) := QV_congr (getq _ sees) (hv c hcm fun k hkc hkm hkl => by
            cases hr : reach ops ops.length k j with
            | false => rfl
            | true =>
              have hok : ops[k]? = some (ops[k]'(by omega)) := by simp
              have hSk : got listed k = true := by rw [hcl k hkm hkl]; simp [hkc]
              have := reach_closed hC _ k j _ hok (fun e he hb => hC k _ hok hSk e he hb) hr
              rw [h1] at this
              cases this)
          refine OP_none hA hgd (QV_ok (st := ⟨EV ops vs e0 (got listed) m, bxs c, nxs c⟩) hty hv' hd (next c hcm fun i hi hl => ?_) φ a w r)
          by_cases e : i = j
          · subst e; rw [hq] at hl; cases hl
          · rw [if_neg e]; exact hcl i hi hl
        | true =>
          obtain ⟨hd, hv⟩ := hL j o hjm hq h2
          -- the loud ones behind it are done, those ahead are not
          have lo : ∀ i, i < m → lq i = true → got listed i = decide (i < j) := by
            intro i hi hl
            have hoi : ops[i]? = some (ops[i]'(by omega)) := by simp
            rcases Nat.lt_trichotomy i j with h | h | h
            · rw [reach_closed hC _ j i o h2 h3 (hX.ord j o i hjm h2 hq h hl)]; simp [h]
            · subst h; rw [h1]; simp
            · cases hSi : got listed i with
              | false => simp; omega
              | true =>
                have := reach_closed hC _ i j _ hoi (fun e he hb => hC i _ hoi hSi e he hb) (hX.ord i _ j hi hoi hl h hq)
                rw [h1] at this
                cases this
          obtain ⟨b1, b2⟩ := same c j hcm (by omega) (fun i hi hl => by rw [← hcl i hi hl, lo i hi hl])
          have sees : ∀ t, t ∈ o.looksAt ops.toArray → look (EV ops vs e0 (fun k => !lq k || decide (k < j)) m) t = look (EV ops vs e0 (got listed) m) t := by
            intro t ht
            refine EV_agree m fun k hk hw => ?_
            have hkl : k < ops.length := by omega
            have hok : ops[k]? = some ops[k] := by simp
            rw [hok] at hw
            simp only [Option.bind_some] at hw
            rcases Nat.lt_trichotomy k j with h | h | h
            · rcases hD.edge j o k _ h2 h hok with hap | ⟨e, he, hb, rfl⟩
              · exact absurd ht ((Oper.apart_spec hap).1 t hw)
              · rw [h3 e he hb]; simp [h]
            · subst h; rw [h1]; simp [hq]
            · cases hlk : lq k with
              | false => exact absurd ht ((Oper.apart_spec (hX.mix _ _ _ _ h hk hq hlk h2 hok)).2.2 t hw)
              | true => rw [lo k hk hlk]; simp
          have hv' : AStep P o (St.get ⟨EV ops vs e0 (got listed) m, bxs c, nxs c⟩) (bxs c) (nxs c) (vs j) (bxs (j + 1)) (nxs (j + 1)) := by
            refine AStep.congr (getq _ sees) ?_
            rw [b1, b2]
            exact hv
          refine OP_none hA hgd (op_step (st := ⟨EV ops vs e0 (got listed) m, bxs c, nxs c⟩) hv' hd (next (j + 1) (by omega) fun i hi hl => ?_) φ a w r)
          by_cases e : i = j
          · subst e; simp
          · rw [if_neg e, lo i hi hl]; congr 1; simp only [eq_iff_iff]; omega
end

end Go.Av
namespace Go.Av

def sel (lq : Nat → Bool) (b : Bool) : Nat → List Oper → List Oper
  | _, [] => []
  | k, o :: l => if lq k = b then o :: sel lq b (k + 1) l else sel lq b (k + 1) l

def WL (P : Program) (n : Nat) (bx0 : List (Nat × Option Box)) : List Oper → St → (St → Prop) → Prop
  | [], st, K => K st
  | o :: l, st, K => slotOk n o.dst = true ∧ (Stay bx0 st.bx → ∃ r bx' nx', AStep P o st.get st.bx st.nx r bx' nx' ∧ Stay bx0 bx' ∧ WL P n bx0 l ((St.mk st.env bx' nx').set o.dst r) K)

def noCall (o : Op) : Bool := match o with
  | .call { callee := .value _, .. } => false
  | _ => true

theorem EV_congrS {ops : List Oper} {vs vs' : Nat → AV} {e0 : List (Nat × AV)} {S S' : Nat → Bool} : ∀ n, (∀ k, k < n → S k = S' k ∧ (S k = true → vs k = vs' k)) → EV ops vs e0 S n = EV ops vs' e0 S' n
  | 0, _ => rfl
  | n + 1, h => by
    have ih := EV_congrS (ops := ops) (e0 := e0) n (fun k hk => h k (by omega))
    obtain ⟨h1, h2⟩ := h n (by omega)
    simp only [EV, ih, ← h1]
    cases hS : S n with
    | false => rfl
    | true => rw [h2 hS]

section
variable {P : Program} {ty : TypeId → Option TI} {n : Nat} {ops : List Oper} {m : Nat} {lq : Nat → Bool} {e0 : List (Nat × AV)} {bx : List (Nat × Option Box)} {nx : Nat}

theorem drop_at (hm : m ≤ ops.length) {k : Nat} (hk : k < m) : ∃ o, ops[k]? = some o ∧ (ops.take m).drop k = o :: (ops.take m).drop (k + 1) := by
  have hl : k < (ops.take m).length := by simp; omega
  refine ⟨ops[k]'(by omega), by simp, ?_⟩
  rw [List.drop_eq_getElem_cons hl]
  simp

theorem WX_factsQ (hm : m ≤ ops.length) (hG : ∀ (j : Nat) (o : Oper), j < m → ops[j]? = some o → o.guard = none) {K : St → Prop} :
    ∀ (d k : Nat), k + d = m → ∀ (vs0 : Nat → AV), WX true P ty n ops (sel lq false k ((ops.take m).drop k)) ⟨EV ops vs0 e0 (fun i => !lq i) k, bx, nx⟩ K →
      ∃ vs : Nat → AV, (∀ i, i < k → vs i = vs0 i) ∧ (∀ i o, k ≤ i → i < m → lq i = false → ops[i]? = some o → slotOk n o.dst = true ∧ QV P ty bx (St.get ⟨EV ops vs e0 (fun k => !lq k) i, [], 0⟩) o.op (vs i)) ∧
        K ⟨EV ops vs e0 (fun k => !lq k) m, bx, nx⟩
  | 0, k, hk, vs0, h => by
    obtain rfl : k = m := by omega
    have e : (ops.take k).drop k = [] := by simp
    rw [e] at h
    exact ⟨vs0, fun _ _ => rfl, fun i o h1 h2 => by omega, h⟩
  | d + 1, k, hk, vs0, h => by
    obtain ⟨o, ho, he⟩ := drop_at hm (k := k) (by omega)
    rw [he, sel] at h
    cases hq : lq k with
    | true =>
      rw [hq, if_neg (by decide)] at h
      have hE : EV ops vs0 e0 (fun i => !lq i) k = EV ops vs0 e0 (fun i => !lq i) (k + 1) := by simp [EV, hq]
      rw [hE] at h
      obtain ⟨vs, g1, g2, g3⟩ := WX_factsQ hm hG d (k + 1) (by omega) vs0 h
      refine ⟨vs, fun i hi => g1 i (by omega), fun i o' h1 h2 hl h3 => ?_, g3⟩
      by_cases e : i = k
      · subst e; rw [hq] at hl; cases hl
      · exact g2 i o' (by omega) h2 hl h3
    | false =>
      rw [hq, if_pos rfl] at h
      simp only [WX, hG k o (by omega) ho] at h
      obtain ⟨hd, h⟩ := h
      rcases h with ⟨v, hv, h⟩ | ⟨h, _⟩
      · have hfact : QV P ty bx (St.get ⟨EV ops vs0 e0 (fun k => !lq k) k, [], 0⟩) o.op v := by
          have hget : St.get ⟨EV ops vs0 e0 (fun i => !lq i) k, bx, nx⟩ = St.get ⟨EV ops vs0 e0 (fun k => !lq k) k, [], 0⟩ := by
            funext x; cases x <;> rfl
          rw [← hget]
          exact hv
        let vs1 : Nat → AV := fun i => if i = k then v else vs0 i
        have hEk : EV ops vs1 e0 (fun i => !lq i) k = EV ops vs0 e0 (fun i => !lq i) k := EV_congr k fun i hi => ⟨by simp only [vs1]; rw [if_neg (by omega)], rfl⟩
        have hE1 : (St.mk (EV ops vs0 e0 (fun i => !lq i) k) bx nx).set o.dst v = ⟨EV ops vs1 e0 (fun i => !lq i) (k + 1), bx, nx⟩ := by
          simp only [EV, hq, Bool.not_false, if_true, ho, Option.bind_some, hEk]
          cases hd : o.dst with
          | none => rfl
          | some t => simp [St.set, vs1]
        rw [hE1] at h
        obtain ⟨vs, g1, g2, g3⟩ := WX_factsQ hm hG d (k + 1) (by omega) vs1 h
        refine ⟨vs, fun i hi => by rw [g1 i (by omega)]; simp only [vs1]; rw [if_neg (by omega)], fun i o' h1 h2 hl h3 => ?_, g3⟩
        by_cases e : i = k
        · subst e
          rw [ho] at h3
          cases h3
          have e1 : vs i = v := by rw [g1 i (by omega)]; simp [vs1]
          have e2 : EV ops vs e0 (fun k => !lq k) i = EV ops vs0 e0 (fun k => !lq k) i := EV_congr i fun j hj => ⟨by rw [g1 j (by omega)]; simp only [vs1]; rw [if_neg (by omega)], rfl⟩
          rw [e1, e2]
          exact ⟨hd, hfact⟩
        · exact g2 i o' (by omega) h2 hl h3
      · cases h

theorem WL_facts {bx0 : List (Nat × Option Box)} (hm : m ≤ ops.length) (hX : DrawMix ops m lq) {K : St → Prop} :
    ∀ (d k : Nat), k + d = m → ∀ (vs0 : Nat → AV) (env : List (Nat × AV)) (bx : List (Nat × Option Box)) (nx : Nat), (∀ t, look env t = look (EV ops vs0 e0 (fun i => !lq i || decide (i < k)) m) t) → Stay bx0 bx →
      WL P n bx0 (sel lq true k ((ops.take m).drop k)) ⟨env, bx, nx⟩ K →
      ∃ (vs : Nat → AV) (bxs : Nat → List (Nat × Option Box)) (nxs : Nat → Nat) (eT : List (Nat × AV)), (∀ i, (i < k ∨ lq i = false) → vs i = vs0 i) ∧ bxs k = bx ∧ nxs k = nx ∧
        (∀ i o, k ≤ i → i < m → lq i = true → ops[i]? = some o → slotOk n o.dst = true ∧ AStep P o (St.get ⟨EV ops vs e0 (fun j => !lq j || decide (j < i)) m, [], 0⟩) (bxs i) (nxs i) (vs i) (bxs (i + 1)) (nxs (i + 1))) ∧
        (∀ i, k ≤ i → i < m → lq i = false → bxs (i + 1) = bxs i ∧ nxs (i + 1) = nxs i) ∧ (∀ i, k ≤ i → i ≤ m → Stay bx0 (bxs i)) ∧
        (∀ t, look eT t = look (EV ops vs e0 (fun _ => true) m) t) ∧ K ⟨eT, bxs m, nxs m⟩
  | 0, k, hk, vs0, env, bx, nx, hE, hst, h => by
    obtain rfl : k = m := by omega
    have e : (ops.take k).drop k = [] := by simp
    rw [e] at h
    refine ⟨vs0, fun _ => bx, fun _ => nx, env, fun _ _ => rfl, rfl, rfl, fun i o h1 h2 => by omega, fun i h1 h2 => by omega, fun _ _ _ => hst, fun t => ?_, h⟩
    rw [hE t]
    exact congrArg (look · t) (EV_congr k fun i hi => ⟨rfl, by simp [hi]⟩)
  | d + 1, k, hk, vs0, env, bx, nx, hE, hst, h => by
    obtain ⟨o, ho, he⟩ := drop_at hm (k := k) (by omega)
    rw [he, sel] at h
    cases hq : lq k with
    | false =>
      rw [hq, if_neg (by decide)] at h
      have hS : EV ops vs0 e0 (fun i => !lq i || decide (i < k)) m = EV ops vs0 e0 (fun i => !lq i || decide (i < k + 1)) m := EV_congr m fun i hi => ⟨rfl, by
        by_cases e : i = k
        · subst e; simp [hq]
        · congr 1; simp only [decide_eq_decide]; omega⟩
      obtain ⟨vs, bxs, nxs, eT, g1, g2, g3, g4, g5, g6, g7, g8⟩ := WL_facts hm hX d (k + 1) (by omega) vs0 env bx nx (fun t => by rw [hE t, hS]) hst h
      have hb : ∀ i, k ≤ i → i ≤ k → (fun i => if i = k then bx else bxs i) i = bx := fun i h1 h2 => by simp; intro e; omega
      refine ⟨vs, fun i => if i = k then bx else bxs i, fun i => if i = k then nx else nxs i, eT, fun i hi => g1 i (hi.imp (fun h => by omega) id), by simp, by simp, fun i o' h1 h2 hl h3 => ?_, fun i h1 h2 hl => ?_, fun i h1 h2 => ?_, g7, ?_⟩
      · by_cases e : i = k
        · subst e; rw [hq] at hl; cases hl
        · simp only [if_neg e, if_neg (show ¬ i + 1 = k by omega)]
          exact g4 i o' (by omega) h2 hl h3
      · by_cases e : i = k
        · subst e; simp [g2, g3]
        · simp only [if_neg e, if_neg (show ¬ i + 1 = k by omega)]
          exact g5 i (by omega) h2 hl
      · by_cases e : i = k
        · simp only [if_pos e]; exact hst
        · simp only [if_neg e]; exact g6 i (by omega) h2
      · simp only [if_neg (show ¬ m = k by omega)]; exact g8
    | true =>
      rw [hq, if_pos rfl] at h
      obtain ⟨hd, h⟩ := h
      obtain ⟨r, bx', nx', hv, hst', h⟩ := h hst
      let vs1 : Nat → AV := fun i => if i = k then r else vs0 i
      have hS0 : ∀ t, look (EV ops vs1 e0 (fun i => !lq i || decide (i < k)) m) t = look env t := fun t => by
        rw [hE t]
        exact congrArg (look · t) (EV_congrS m fun i hi => ⟨rfl, fun hs => by
          simp only [vs1]
          rw [if_neg]
          intro e; subst e; simp [hq] at hs⟩)
      have hbind : (ops[k]?).bind (·.dst) = o.dst := by rw [ho]; rfl
      have hE1 : ∀ t, look ((St.mk env bx' nx').set o.dst r).env t = look (EV ops vs1 e0 (fun i => !lq i || decide (i < k + 1)) m) t := by
        intro t
        have agree : (o.dst = some t → False) → look (EV ops vs1 e0 (fun i => !lq i || decide (i < k)) m) t = look (EV ops vs1 e0 (fun i => !lq i || decide (i < k + 1)) m) t := fun hne =>
          EV_agree m fun i hi hw => by
            by_cases e : i = k
            · subst e; rw [hbind] at hw; exact (hne hw).elim
            · congr 1; simp only [decide_eq_decide]; omega
        cases hdst : o.dst with
        | none => simp only [St.set]; rw [← hS0 t]; exact agree (fun h => by rw [hdst] at h; cases h)
        | some t' =>
          simp only [St.set, look]
          by_cases e : t' = t
          · subst e
            simp only [if_true]
            refine (Eq.trans (EV_last (j := k) (vs := vs1) (by simp [hq]) (by rw [hbind, hdst]) m (by omega) fun i hi him hw => ?_) (by simp [vs1])).symm
            have hoi : ops[i]? = some (ops[i]'(by omega)) := by simp
            rw [hoi] at hw
            simp only [Option.bind_some] at hw
            cases hl : lq i with
            | false => exact absurd hw ((Oper.apart_spec (hX.mix k i _ _ hi him hq hl ho hoi)).2.1 t' hdst)
            | true => simp; omega
          · rw [if_neg e, ← hS0 t]
            exact agree (fun h => by rw [hdst] at h; exact e (Option.some.inj h))
      obtain ⟨vs, bxs, nxs, eT, g1, g2, g3, g4, g5, g6, g7, g8⟩ := WL_facts hm hX d (k + 1) (by omega) vs1 _ bx' nx' hE1 hst' (by
        cases hdst : o.dst <;> (rw [hdst] at h; exact h))
      refine ⟨vs, fun i => if i = k then bx else bxs i, fun i => if i = k then nx else nxs i, eT, fun i hi => ?_, by simp, by simp, fun i o' h1 h2 hl h3 => ?_, fun i h1 h2 hl => ?_, fun i h1 h2 => ?_, g7, ?_⟩
      · rw [g1 i (hi.imp (fun h => by omega) id)]
        simp only [vs1]
        rw [if_neg]
        intro e; subst e
        rcases hi with h | h
        · omega
        · rw [hq] at h; cases h
      · by_cases e : i = k
        · subst e
          rw [ho] at h3
          cases h3
          have e1 : vs i = r := by rw [g1 i (by omega)]; simp [vs1]
          simp only [if_true, if_neg (show ¬ i + 1 = i by omega), g2, g3, e1]
          refine ⟨hd, ?_⟩
          have hget : St.get ⟨EV ops vs e0 (fun j => !lq j || decide (j < i)) m, [], 0⟩ = St.get ⟨env, bx, nx⟩ := by
            funext x
            cases x with
            | tmp t =>
              simp only [St.get]
              rw [← hS0 t]
              exact congrArg (fun e => (look e t).getD .undef) (EV_congrS m fun j hj => ⟨rfl, fun hs => g1 j (by
                have hs' : (!lq j || decide (j < i)) = true := hs
                simp only [Bool.or_eq_true, Bool.not_eq_true', decide_eq_true_eq] at hs'
                rcases hs' with h | h
                · exact .inr h
                · exact .inl (by omega))⟩)
            | _ => rfl
          rw [hget]
          exact hv
        · simp only [if_neg e, if_neg (show ¬ i + 1 = k by omega)]
          exact g4 i o' (by omega) h2 hl h3
      · by_cases e : i = k
        · subst e; rw [hq] at hl; cases hl
        · simp only [if_neg e, if_neg (show ¬ i + 1 = k by omega)]
          exact g5 i (by omega) h2 hl
      · by_cases e : i = k
        · simp only [if_pos e]; exact hst
        · simp only [if_neg e]; exact g6 i (by omega) h2
      · simp only [if_neg (show ¬ m = k by omega)]; exact g8
def drawMix (ops : List Oper) (m : Nat) (lq : Nat → Bool) : Bool :=
  (List.range m).all fun j => match ops[j]? with
    | none => true
    | some oj => oj.guard.isNone && if lq j then (List.range j).all (fun i => !lq i || reach ops ops.length j i) && (List.range m).all (fun k => decide (k ≤ j) || lq k || match ops[k]? with
        | some ok => oj.apart ops.toArray ok
        | none => true) else true

theorem drawMix_spec {ops : List Oper} {m : Nat} {lq : Nat → Bool} (h : drawMix ops m lq = true) : DrawMix ops m lq := by
  simp only [drawMix, List.all_eq_true, List.mem_range] at h
  refine ⟨fun j o hj ho => ?_, fun j o i hj ho hl hi hli => ?_, fun j k oj ok hjk hk hl hlk ho hok => ?_⟩
  · have := h j hj
    rw [ho] at this
    simp only [Bool.and_eq_true] at this
    simpa using this.1
  · have := h j hj
    rw [ho] at this
    simp only [Bool.and_eq_true, hl, if_true, List.all_eq_true, List.mem_range] at this
    have := this.2.1 i hi
    simpa [hli] using this
  · have := h j (by omega)
    rw [ho] at this
    simp only [Bool.and_eq_true, hl, if_true, List.all_eq_true, List.mem_range] at this
    have := this.2.2 k hk
    rw [hok, hlk] at this
    simpa [show ¬ k ≤ j by omega] using this

theorem T_drawL {G : Gh} {Q : Exit → St → Prop} {id : Nat} {l qs ls post : List Oper} {st : St} (m : Nat) (lq : Nat → Bool) (hty : TyOk P ty) (hmix : P.follows .mixedOrders = true)
    (h1 : sel lq false 0 (l.take m) = qs) (h2 : sel lq true 0 (l.take m) = ls) (h3 : l.drop m = post) (hD : drawOk l m = true) (hX : drawMix l m lq = true) (hm : m ≤ l.length)
    (h : WX true P ty G.n l qs st fun s => WL P G.n st.bx ls s fun s => WX false P ty G.n l post s (Q .normal)) : T P G (.region id l.toArray true) st Q := by
  subst h1 h2 h3
  have hX := drawMix_spec hX
  intro φ a w r
  refine wp_region_any hmix ?_
  obtain ⟨vs0, _, hF, h⟩ := WX_factsQ (e0 := st.env) (bx := st.bx) (nx := st.nx) hm hX.gd m 0 (by omega) (fun _ => .undef) h
  obtain ⟨vs, bxs, nxs, eT, g1, g2, g3, g4, g5, g6, g7, g8⟩ := WL_facts (e0 := st.env) (bx0 := st.bx) hm hX m 0 (by omega) vs0 (EV l vs0 st.env (fun k => !lq k) m) st.bx st.nx (fun t => congrArg (look · t) (EV_congr m fun i hi => ⟨rfl, by simp⟩)) (fun _ _ h => h) h
  have hz : ∀ i, got (Array.replicate l.toArray.size false) i = false := by
    intro i
    simp only [got, Array.getD]
    split <;> simp
  have hE : EV l vs st.env (got (Array.replicate l.toArray.size false)) m = st.env := by
    rw [EV_stop (k := 0) m (by omega) (fun i _ _ => hz i)]
    rfl
  refine any_mixed (Q := Q) hty (drawOk_spec hD) hX hm (vs := vs) (e0 := st.env) (bxs := bxs) (nxs := nxs) (fun i o hi hl ho => ?_) (fun i o hi hl ho => g4 i o (Nat.zero_le _) hi hl ho) (fun i hi hl => g5 i (Nat.zero_le _) hi hl)
    (fun t v h => by rw [← g7 t]; exact h) g8 (fun s hs => hs) _ _ φ a _ (by simp) ?_ (fun j o _ h => by rw [hz] at h; cases h) (fun i _ _ => hz i) ⟨0, Nat.zero_le _, fun i _ _ => by rw [hz]; simp, ?_⟩
  · obtain ⟨k1, k2⟩ := hF i o (Nat.zero_le _) hi hl ho
    refine ⟨k1, fun c hc _ => ?_⟩
    rw [g1 i (.inr hl)]
    have e : EV l vs st.env (fun k => !lq k) i = EV l vs0 st.env (fun k => !lq k) i := EV_congrS i fun j hj => ⟨rfl, fun hs => g1 j (.inr (by simpa using hs))⟩
    rw [e]
    exact QV_mono (g6 c (Nat.zero_le _) hc) k2
  · have : ∀ n, cnt (got (Array.replicate l.toArray.size false)) n = n := by
      intro n
      induction n with
      | zero => rfl
      | succ n ih => simp only [cnt, ih, hz]; simp
    rw [this]
    simp
  · rw [hE, g2, g3]
    exact r.ext (.drew w)
theorem T_drawQ {G : Gh} {Q : Exit → St → Prop} {id : Nat} {l qs ls post : List Oper} {st : St} (m : Nat) (loud : List Nat) (hty : TyOk P ty) (hmix : P.follows .mixedOrders = true)
    (h1 : sel (fun k => loud.contains k) false 0 (l.take m) = qs) (h2 : sel (fun k => loud.contains k) true 0 (l.take m) = ls) (h3 : l.drop m = post) (hD : drawOk l m = true) (hX : drawMix l m (fun k => loud.contains k) = true) (hm : m ≤ l.length)
    (h : WX true P ty G.n l qs st fun s => WL P G.n st.bx ls s fun s => WX false P ty G.n l post s (Q .normal)) : T P G (.region id l.toArray true) st Q :=
  T_drawL m _ hty hmix h1 h2 h3 hD hX hm h
theorem T_drawR {G : Gh} {Q : Exit → St → Prop} {id : Nat} {l qs ls post : List Oper} {st : St} (bq : List (Nat × Option Box)) (hq : Stay bq st.bx) (m : Nat) (lq : Nat → Bool) (hty : TyOk P ty) (hmix : P.follows .mixedOrders = true)
    (h1 : sel lq false 0 (l.take m) = qs) (h2 : sel lq true 0 (l.take m) = ls) (h3 : l.drop m = post) (hD : drawOk l m = true) (hX : drawMix l m lq = true) (hm : m ≤ l.length)
    (h : WX true P ty G.n l qs ⟨st.env, bq, st.nx⟩ fun s => WL P G.n bq ls ⟨s.env, st.bx, st.nx⟩ fun s => WX false P ty G.n l post s (Q .normal)) : T P G (.region id l.toArray true) st Q := by
  subst h1 h2 h3
  have hX := drawMix_spec hX
  intro φ a w r
  refine wp_region_any hmix ?_
  obtain ⟨vs0, _, hF, h⟩ := WX_factsQ (e0 := st.env) (bx := bq) (nx := st.nx) hm hX.gd m 0 (by omega) (fun _ => .undef) h
  obtain ⟨vs, bxs, nxs, eT, g1, g2, g3, g4, g5, g6, g7, g8⟩ := WL_facts (e0 := st.env) (bx0 := bq) hm hX m 0 (by omega) vs0 (EV l vs0 st.env (fun k => !lq k) m) st.bx st.nx (fun t => congrArg (look · t) (EV_congr m fun i hi => ⟨rfl, by simp⟩)) hq h
  have hz : ∀ i, got (Array.replicate l.toArray.size false) i = false := by
    intro i
    simp only [got, Array.getD]
    split <;> simp
  have hE : EV l vs st.env (got (Array.replicate l.toArray.size false)) m = st.env := by
    rw [EV_stop (k := 0) m (by omega) (fun i _ _ => hz i)]
    rfl
  refine any_mixed (Q := Q) hty (drawOk_spec hD) hX hm (vs := vs) (e0 := st.env) (bxs := bxs) (nxs := nxs) (fun i o hi hl ho => ?_) (fun i o hi hl ho => g4 i o (Nat.zero_le _) hi hl ho) (fun i hi hl => g5 i (Nat.zero_le _) hi hl)
    (fun t v h => by rw [← g7 t]; exact h) g8 (fun s hs => hs) _ _ φ a _ (by simp) ?_ (fun j o _ h => by rw [hz] at h; cases h) (fun i _ _ => hz i) ⟨0, Nat.zero_le _, fun i _ _ => by rw [hz]; simp, ?_⟩
  · obtain ⟨k1, k2⟩ := hF i o (Nat.zero_le _) hi hl ho
    refine ⟨k1, fun c hc _ => ?_⟩
    rw [g1 i (.inr hl)]
    have e : EV l vs st.env (fun k => !lq k) i = EV l vs0 st.env (fun k => !lq k) i := EV_congrS i fun j hj => ⟨rfl, fun hs => g1 j (.inr (by simpa using hs))⟩
    rw [e]
    exact QV_mono (g6 c (Nat.zero_le _) hc) k2
  · have : ∀ n, cnt (got (Array.replicate l.toArray.size false)) n = n := by
      intro n
      induction n with
      | zero => rfl
      | succ n ih => simp only [cnt, ih, hz]; simp
    rw [this]
    simp
  · rw [hE, g2, g3]
    exact r.ext (.drew w)
def noMem : Op → Bool
  | .move _ => true
  | .assign _ => true
  | _ => false
def lateOk (l : List Oper) (m : Nat) (lq : Nat → Bool) : Bool :=
  (List.range m).all fun i => lq i || match l[i]? with
    | none => true
    | some o => noMem o.op || (List.range m).all fun k => !lq k || reach l l.length k i
theorem stay_free (i : Nat) (bx : List (Nat × Option Box)) : Stay ((i, none) :: bx) bx := fun id B h => by
  rw [box?_cons] at h
  by_cases e : i = id
  · rw [if_pos e] at h; cases h
  · rw [if_neg e] at h; exact h
theorem T_drawF {G : Gh} {Q : Exit → St → Prop} {id : Nat} {l qs ls post : List Oper} {env : List (Nat × AV)} {bx : List (Nat × Option Box)} {nx : Nat} (i : Nat) (m : Nat) (loud : List Nat) (hty : TyOk P ty) (hmix : P.follows .mixedOrders = true)
    (h1 : sel (fun k => loud.contains k) false 0 (l.take m) = qs) (h2 : sel (fun k => loud.contains k) true 0 (l.take m) = ls) (h3 : l.drop m = post) (hD : drawOk l m = true) (hX : drawMix l m (fun k => loud.contains k) = true) (hm : m ≤ l.length)
    (h : WX true P ty G.n l qs ⟨env, (i, none) :: bx, nx⟩ fun s => WL P G.n ((i, none) :: bx) ls ⟨s.env, bx, nx⟩ fun s => WX false P ty G.n l post s (Q .normal)) : T P G (.region id l.toArray true) ⟨env, bx, nx⟩ Q :=
  T_drawR _ (stay_free i bx) m _ hty hmix h1 h2 h3 hD hX hm h
end

end Go.Av
namespace Go.Av

theorem stay_cons {bx0 bx : List (Nat × Option Box)} {id : Nat} {b : Option Box} (hn : box? bx0 id = none) (h : Stay bx0 bx) : Stay bx0 ((id, b) :: bx) := by
  intro i B hi
  rw [box?_cons]
  by_cases e : id = i
  · subst e; rw [hn] at hi; cases hi
  · rw [if_neg e]; exact h i B hi

section
variable {P : Program} {ty : TypeId → Option TI} {n : Nat} {l : List Oper} {K : St → Prop} {tp : TypeId} {pos : String} {aft : Array Edge} {gd : Option (Nat × Bool)} {env : List (Nat × AV)} {bx bx0 : List (Nat × Option Box)} {nx : Nat} {d : Tmp}
  {t xt : TypeId} {x y : Operand}

theorem L_appB (hty : TyOk P ty) {e : TypeId} {ei : TI} {id off len cap st : Nat} {E ys E' : List AV} {sl ro : Bool} {v : AV} (ht : (ty t).map TI.k = some (.slice e)) (he : ty e = some ei) (hx : Gt env x (.sl id off len cap)) (hB : box? bx id = some ⟨E, st, sl, ro⟩)
    (hst : st = ei.size) (hy : Gt env y v) (hs : Src ty bx ei xt v ys) (hend : Mlen (off + len = E.length)) (hpos : 0 < ei.bytes) (hr : Mnorm (E.drop off ++ ys = E')) (hd : slotOk n (some d) = true) (hn : box? bx0 nx = none) (hi : box? bx0 id = none) (hsz : Msz ((len + ys.length) * ei.bytes ≤ 140737488355328))
    (h : WL P n bx0 l ⟨(d, .sl nx 0 (len + ys.length) (len + ys.length)) :: env, (nx, some ⟨E', ei.size, true, ro⟩) :: (id, none) :: bx, nx + 1⟩ K) :
    WL P n bx0 (⟨some d, .call ⟨.builtin .append, #[x, y], #[t, xt]⟩, tp, pos, aft, gd⟩ :: l) ⟨env, bx, nx⟩ K := by
  obtain ⟨p, h1, h2⟩ := hs.of
  have hsz := hsz.out
  have hr := hr.out
  have hend := hend.out
  subst hr
  refine ⟨hd, fun hS => ⟨.sl nx 0 (len + ys.length) (len + ys.length), (nx, some ⟨E.drop off ++ ys, ei.size, true, ro⟩) :: (id, none) :: bx, nx + 1, AStep.mem hty (p := p ∧ st = ei.size ∧ off + len = E.length ∧ (((len + ys.length) * ei.bytes : Nat) : Int) ≤ 140737488355328 ∧ 0 < ei.bytes) (by simp only [memStep, appendStep, ht, he, hy.get bx nx, h1, hx.get bx nx, hB]) ⟨h2, hst, hend, by omega, hpos⟩, stay_cons hn (stay_cons hi hS), h⟩⟩

end

end Go.Av
namespace Go.Av

section
variable {P : Program} {ty : TypeId → Option TI} {G : Gh} {bx : List (Nat × Option Box)} {nx : Nat} {φ : Nat → Option Loc} {w : World}

end

section
variable {P : Program} {ty : TypeId → Option TI} {n : Nat} {ops l : List Oper} {K : St → Prop} {tp : TypeId} {pos : String} {aft : Array Edge} {env : List (Nat × AV)} {bx : List (Nat × Option Box)} {nx : Nat} {d : Tmp}
  {t xt : TypeId} {x y : Operand}

end

end Go.Av
namespace Go.Av

structure Mix (p : Prop) : Prop where
  out : p
theorem mix {p : Prop} (h : p) : Mix p := ⟨h⟩

section
variable {P : Program} {ty : TypeId → Option TI} {n : Nat} {ops l : List Oper} {K : St → Prop} {tp : TypeId} {pos : String} {aft : Array Edge} {env : List (Nat × AV)} {bx : List (Nat × Option Box)} {nx : Nat} {d : Tmp}
  {t : TypeId} {x y i : Operand} {q : Bool} {v : AV}

theorem M_idxAP {m : Nat} {e : TypeId} {ei : TI} {id e' j j' : Nat} {k : IntKind} {ii : Int} (ht : (ty t).map TI.k = some (.arr m e)) (he : ty e = some ei) (hx : Gt env x (.ptr id e' j)) (hi : Gt env i (.int k ii)) (hr : 0 ≤ ii ∧ ii < (m : Int)) (hj : Mix (j + ii.toNat * ei.size = j'))
    (hd : slotOk n (some d) = true) (h : WX q P ty n ops l ⟨(d, .ptr id e' j') :: env, bx, nx⟩ K) : WX q P ty n ops (⟨some d, .indexAddr t x i, tp, pos, aft, none⟩ :: l) ⟨env, bx, nx⟩ K := by
  obtain ⟨rfl⟩ := hj
  exact S_val (p := 0 ≤ ii ∧ ii < (m : Int)) hd (by simp only [valStep, opVal, ht, hi.get bx nx, idx, he, hx.get bx nx]) hr h

theorem M_storeAr {ti : TI} {id j : Nat} {cs cs' : List AV} {sz : Nat} {sl ro : Bool} (ht : ty t = some ti) (hx : Gt env x (.ptr id 0 j)) (hB : box? bx id = some ⟨[.agg cs], sz, sl, ro⟩) (hs : (ti.size == sz) = false) (h1 : ti.size = 1) (hro : ro = false) (hy : Gt env y v)
    (hv : v.cells = [v]) (hk : v.cellOk = true) (hj : Mlen (j < cs.length)) (hset : Mix (cs.set j v = cs')) (h : WX false P ty n ops l ⟨env, (id, some ⟨[.agg cs'], sz, sl, ro⟩) :: bx, nx⟩ K) : WX false P ty n ops (⟨none, .store t x y, tp, pos, aft, none⟩ :: l) ⟨env, bx, nx⟩ K := by
  obtain ⟨rfl⟩ := hset
  have hj := hj.out
  have hne : ¬ (ti.size = sz) := by simpa using hs
  refine S_memN (r := .undef) (nx' := nx) (p := 0 < [AV.agg cs].length ∧ ro = false ∧ okCells ti.size v ∧ j + ti.size ≤ cs.length) ?_ ⟨by simp, hro, ⟨by simp [hv, h1], by simp [hv, hk]⟩, by omega⟩ h
  simp [memStep, hx.get, hy.get, storeStep, ht, hB, hne, hv, splice_one v hj]

class Single (l : List AV) : Prop where
  out : ∀ x ∈ l, x.cells = [x] ∧ x ≠ .undef
instance : Single [] := ⟨fun _ h => by cases h⟩
instance (k : IntKind) (n : Int) (l : List AV) [h : Single l] : Single (.int k n :: l) := ⟨fun x hx => by
  rcases List.mem_cons.1 hx with rfl | hx
  · exact ⟨rfl, fun h => by cases h⟩
  · exact h.out x hx⟩

end

end Go.Av
namespace Go.Av

abbrev u32A (x : UInt32) : AV := .int .u32 (x.toNat : Int)
abbrev w64A (x : UInt32) : AV := .int .i64 (x.toNat : Int)

def rotr (x : UInt32) (n : Nat) : UInt32 := UInt32.ofNat ((x.toNat >>> n ||| x.toNat <<< (32 - n)) % 4294967296)

theorem ofInt64 (a : Nat) (h : a < 18446744073709551616) : (BitVec.ofInt IntKind.i64.bits (a : Int)).toNat = a := by
  simp [IntKind.bits, BitVec.toNat_ofInt]; omega

theorem bits64 (op : BinOp) (f : BitVec 64 → BitVec 64 → BitVec 64) (g : Nat → Nat → Nat) (a b : Nat) (ha : a < 9223372036854775808) (hb : b < 9223372036854775808)
    (h1 : bits op .i64 (a : Int) (b : Int) = IntKind.wrap .i64 ((f (BitVec.ofInt 64 (a : Int)) (BitVec.ofInt 64 (b : Int))).toNat : Int)) (h2 : ∀ u v, (f u v).toNat = g u.toNat v.toNat) (h3 : g a b < 9223372036854775808) :
    bits op .i64 (a : Int) (b : Int) = ((g a b : Nat) : Int) := by
  have e1 := ofInt64 a (by omega)
  have e2 := ofInt64 b (by omega)
  rw [h1, h2]
  rw [show (BitVec.ofInt 64 (a : Int)).toNat = a from e1, show (BitVec.ofInt 64 (b : Int)).toNat = b from e2]
  exact wrap_i64 (by omega) (by omega)

def word4 (a b c d : UInt8) : UInt32 := (a.toUInt32 <<< 24) ||| (b.toUInt32 <<< 16) ||| (c.toUInt32 <<< 8) ||| d.toUInt32

def mixL : List UInt32 → UInt32 → UInt32 → List UInt32
  | [a, b, c, d, e, f, g, h], w, k =>
    let t1 := h + (rotr e 6 ^^^ rotr e 11 ^^^ rotr e 25) + ((e &&& f) ^^^ (~~~e &&& g)) + k + w
    let t2 := (rotr a 2 ^^^ rotr a 13 ^^^ rotr a 22) + ((a &&& b) ^^^ (a &&& c) ^^^ (b &&& c))
    [t1 + t2, a, b, c, d + t1, e, f, g]
  | l, _, _ => l

def keysL : List UInt32 := [0x428a2f98, 0x71374491, 0xb5c0fbcf, 0xe9b5dba5, 0x3956c25b, 0x59f111f1, 0x923f82a4, 0xab1c5ed5,
  0xd807aa98, 0x12835b01, 0x243185be, 0x550c7dc3, 0x72be5d74, 0x80deb1fe, 0x9bdc06a7, 0xc19bf174,
  0xe49b69c1, 0xefbe4786, 0x0fc19dc6, 0x240ca1cc, 0x2de92c6f, 0x4a7484aa, 0x5cb0a9dc, 0x76f988da,
  0x983e5152, 0xa831c66d, 0xb00327c8, 0xbf597fc7, 0xc6e00bf3, 0xd5a79147, 0x06ca6351, 0x14292967,
  0x27b70a85, 0x2e1b2138, 0x4d2c6dfc, 0x53380d13, 0x650a7354, 0x766a0abb, 0x81c2c92e, 0x92722c85,
  0xa2bfe8a1, 0xa81a664b, 0xc24b8b70, 0xc76c51a3, 0xd192e819, 0xd6990624, 0xf40e3585, 0x106aa070,
  0x19a4c116, 0x1e376c08, 0x2748774c, 0x34b0bcb5, 0x391c0cb3, 0x4ed8aa4a, 0x5b9cca4f, 0x682e6ff3,
  0x748f82ee, 0x78a5636f, 0x84c87814, 0x8cc70208, 0x90befffa, 0xa4506ceb, 0xbef9a3f7, 0xc67178f2]

def startL : List UInt32 := [0x6a09e667, 0xbb67ae85, 0x3c6ef372, 0xa54ff53a, 0x510e527f, 0x9b05688c, 0x1f83d9ab, 0x5be0cd19]

def sig0 (x : UInt32) : UInt32 := rotr x 7 ^^^ rotr x 18 ^^^ (x >>> 3)
def sig1 (y : UInt32) : UInt32 := rotr y 17 ^^^ rotr y 19 ^^^ (y >>> 10)

def wordAt (m : List UInt8) (l : List UInt32) (i : Nat) : UInt32 :=
  if i < 16 then word4 (m.getD (4 * i) 0) (m.getD (4 * i + 1) 0) (m.getD (4 * i + 2) 0) (m.getD (4 * i + 3) 0)
  else sig1 (l.getD (i - 2) 0) + l.getD (i - 7) 0 + sig0 (l.getD (i - 15) 0) + l.getD (i - 16) 0
def wGo (m : List UInt8) : Nat → List UInt32
  | 0 => List.replicate 64 0
  | i + 1 => (wGo m i).set i (wordAt m (wGo m i) i)
def rGo (w : List UInt32) (s : List UInt32) : Nat → List UInt32
  | 0 => s
  | j + 1 => mixL (rGo w s j) (w.getD j 0) (keysL.getD j 0)
def addL (s r : List UInt32) : List UInt32 := List.zipWith (· + ·) s r
def blockL (s : List UInt32) (m : List UInt8) : List UInt32 := addL s (rGo (wGo m 64) s 64)
def shaSt (d : List UInt8) : Nat → List UInt32
  | 0 => startL
  | j + 1 => blockL (shaSt d j) ((d.drop (64 * j)).take 64)
def byteN (n : Nat) : UInt8 := UInt8.ofNat (n % 256)
theorem byteN_wrap (n : Nat) : IntKind.wrap .u8 (n : Int) = ((byteN n).toNat : Int) := by
  unfold byteN
  rw [UInt8.toNat_ofNat', show IntKind.wrap .u8 (n : Int) = (n : Int) % 256 by simp [IntKind.wrap, IntKind.bits, IntKind.signed]]
  omega

def len8 (n : Nat) : List UInt8 := [byteN (n >>> 56), byteN (n >>> 48), byteN (n >>> 40), byteN (n >>> 32), byteN (n >>> 24), byteN (n >>> 16), byteN (n >>> 8), byteN n]
def padZ (n : Nat) : Nat := (119 - n % 64) % 64
def padL (d : List UInt8) : List UInt8 := d ++ [128] ++ List.replicate (padZ d.length) 0 ++ len8 (d.length * 8)
def out4 (x : UInt32) : List UInt8 := [byteN (x.toNat >>> 24), byteN (x.toNat >>> 16), byteN (x.toNat >>> 8), byteN x.toNat]
def outL (s : List UInt32) : List UInt8 := s.flatMap out4
def sha (d : List UInt8) : List UInt8 := outL (shaSt (padL d) ((padL d).length / 64))
end Go.Av
namespace Go.Av

section
variable {P : Program} {ty : TypeId → Option TI} {n : Nat} {ops l : List Oper} {K : St → Prop} {tp : TypeId} {pos : String} {aft : Array Edge} {env : List (Nat × AV)} {bx : List (Nat × Option Box)} {nx : Nat} {d : Tmp}
  {t : TypeId} {x y i : Operand} {q : Bool} {v : AV}
theorem M_loadWA {ti : TI} {id j : Nat} {cs : List AV} {sz : Nat} {sl ro : Bool} (ht : ty t = some ti) (ha : isAggK ti.k = true) (hx : Gt env x (.ptr id 0 j)) (hB : box? bx id = some ⟨[.agg cs], sz, sl, ro⟩) (hj : j = 0) (hl : cs.length = ti.size)
    (hd : slotOk n (some d) = true) (h : WX q P ty n ops l ⟨(d, .agg cs) :: env, bx, nx⟩ K) : WX q P ty n ops (⟨some d, .load t x, tp, pos, aft, none⟩ :: l) ⟨env, bx, nx⟩ K :=
  S_loadW ht hx hB rfl hj ha rfl hl hd h
end

class WordF {α : Type} (f : α → AV) : Prop where
  out : ∀ a, (f a).cells = [f a] ∧ (f a).cellOk = true ∧ Flat (f a) ∧ Pure (f a)
instance : WordF u32A := ⟨fun a => ⟨rfl, rfl, flat_int _ _, pure_int _ _⟩⟩
instance : WordF w64A := ⟨fun a => ⟨rfl, rfl, flat_int _ _, pure_int _ _⟩⟩
instance {α : Type} (f : α → AV) (l : List α) [h : WordF f] : CellsC (l.map f) := ⟨fun y hy => by
  obtain ⟨a, _, rfl⟩ := List.mem_map.1 hy
  exact ⟨(h.out a).2.2.2, (h.out a).2.1⟩⟩
instance {α : Type} (f : α → AV) (l : List α) [h : WordF f] : PureLC (l.map f) := ⟨pureAll_of fun y hy => by
  obtain ⟨a, _, rfl⟩ := List.mem_map.1 hy
  exact (h.out a).2.2.2⟩
theorem flatL_of {l : List AV} (h : ∀ y ∈ l, Flat y) : FlatL l := by
  induction l with
  | nil => exact trivial
  | cons a l ih => exact ⟨h a (by simp), ih fun y hy => h y (by simp [hy])⟩
instance {α : Type} (f : α → AV) (l : List α) [h : WordF f] : FlatLC (l.map f) := ⟨flatL_of fun y hy => by
  obtain ⟨a, _, rfl⟩ := List.mem_map.1 hy
  exact (h.out a).2.2.1⟩
def turnL {α : Type} (x r : List α) (i : Nat) : List α := x.take i ++ r.drop i
theorem resL_arr {ty : TypeId → Option TI} {s : St} {a : Nat} {t : TypeId} {ti : TI} {id : Nat} {cs : List AV} {sz : Nat} {sl ro : Bool} {rs : List ResultVar} {xs : List AV} (ht : ty t = some ti) (ha : look s.env a = some (.ptr id 0 0)) (hb : box? s.bx id = some ⟨[.agg cs], sz, sl, ro⟩) (hk : isAggK ti.k = true)
    (hl : cs.length = ti.size) (k : ResL ty s rs xs) : ResL ty s (.cell a t :: rs) (.agg cs :: xs) :=
  resL_cell ht ha hb hk rfl hl k

theorem view_aggP {bx : List (Nat × Option Box)} {cs : List AV} (h : PureAll cs) : View bx (.agg cs) (.agg cs) := .pure (pure_aggL h)

end Go.Av
namespace Go.Av

def ViewE (bx : List (Nat × Option Box)) : List AV → List AV → Prop
  | [], [] => True
  | x :: l, y :: r => (ViewL bx x.cells y.cells ∧ y.cells.all AV.cellOk = true) ∧ ViewE bx l r
  | _, _ => False
theorem viewE_nil {bx : List (Nat × Option Box)} : ViewE bx [] [] := trivial
theorem ViewE.get {bx : List (Nat × Option Box)} : ∀ {l r : List AV}, ViewE bx l r → r.length = l.length ∧ ∀ (i : Nat) (x y : AV), l[i]? = some x → r[i]? = some y → ViewL bx x.cells y.cells ∧ y.cells.all AV.cellOk = true
  | [], [], _ => ⟨rfl, fun i x y h => by simp at h⟩
  | a :: l, b :: r, h => by
    obtain ⟨h1, h2⟩ := ViewE.get h.2
    refine ⟨by simp [h1], fun i x y hx hy => ?_⟩
    cases i with
    | zero => simp at hx hy; subst hx; subst hy; exact h.1
    | succ i => exact h2 i x y (by simpa using hx) (by simpa using hy)
theorem viewE_one {bx : List (Nat × Option Box)} {x y : AV} {l r : List AV} (h : View bx x y) (hx : x.cells = [x]) (hy : y.cells = [y]) (hk : y.cellOk = true) (k : ViewE bx l r) : ViewE bx (x :: l) (y :: r) :=
  ⟨⟨by rw [hx, hy]; exact ⟨h, trivial⟩, by rw [hy]; simp [hk]⟩, k⟩
theorem viewL_pure {bx : List (Nat × Option Box)} : ∀ {l : List AV}, PureAll l → ViewL bx l l
  | [], _ => trivial
  | a :: l, h => ⟨.pure h.1, viewL_pure h.2⟩
theorem viewE_pure {bx : List (Nat × Option Box)} : ∀ {E : List AV}, PureB E → ViewE bx E E
  | [], _ => trivial
  | a :: l, h => ⟨⟨viewL_pure (h a (by simp)).1, (h a (by simp)).2⟩, viewE_pure fun x hx => h x (by simp [hx])⟩
theorem view_lsV {bx : List (Nat × Option Box)} {st : Nat} {n e : Bool} {xs ys : List AV} (h : ViewE bx xs ys) : View bx (.ls st n e xs) (.ls st true false ys) := by
  obtain ⟨h1, h2⟩ := h.get
  refine .ls (.inr ⟨rfl, rfl⟩) h1 (fun i x y hx hy => ?_) (fun i x y j c d hx hy hc hd => ?_)
  · obtain ⟨k1, k2⟩ := h2 i x y hx hy
    exact ⟨k1.get.1, fun d hd => List.all_eq_true.1 k2 d hd⟩
  · exact (h2 i x y hx hy).1.get.2 j c d hc hd
def strB (s : ByteArray) : List UInt8 := s.data.toList
end Go.Av
