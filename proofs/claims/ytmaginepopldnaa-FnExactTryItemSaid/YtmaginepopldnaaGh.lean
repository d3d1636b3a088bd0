/- A small logic for code over pictures of values and boxes: part 8. -/
import Derived.Test.YtmaginepopldnaaGg
set_option linter.unusedSimpArgs false
set_option linter.unusedVariables false
/- Contracts that name their boxes. -/
namespace Go.Av

/-- Just this value, these boxes, this many names. -/
def Is (r0 : AV) (b0 : List (Nat × Option Box)) (n0 : Nat) : AV → List (Nat × Option Box) → Nat → Prop := fun r b n => r = r0 ∧ b = b0 ∧ n = n0

def LowL (N : Nat) : List AV → Prop
  | [] => True
  | x :: l => Low N x ∧ LowL N l
theorem lowL_nil {N : Nat} : LowL N [] := trivial
theorem lowL_cons {N : Nat} {x : AV} {l : List AV} (h : Low N x) (k : LowL N l) : LowL N (x :: l) := ⟨h, k⟩
theorem LowL.mem {N : Nat} : ∀ {l : List AV}, LowL N l → ∀ x ∈ l, Low N x
  | [], _, _, h => by cases h
  | a :: l, h, x, hx => by
    rcases List.mem_cons.1 hx with rfl | hx
    · exact h.1
    · exact LowL.mem h.2 x hx
theorem low_agg {N : Nat} {cs : List AV} (h : LowL N cs) : Low N (.agg cs) := .agg h.mem
theorem low_tup {N : Nat} {cs : List AV} (h : LowL N cs) : Low N (.tup cs) := .tup h.mem

/-- Elements whose cells name nothing from N on. -/
def LowX (N : Nat) (E : List AV) : Prop := ∀ x ∈ E, ∀ y ∈ x.cells, Low N y
theorem lowX_one {N : Nat} {x : AV} (h : LowL N x.cells) : LowX N [x] := fun y hy z hz => by
  simp at hy; subst hy; exact h.mem z hz
theorem lowX_nil {N : Nat} : LowX N [] := fun y hy => by cases hy

/-- Elements that name no box and may lie in cells. -/
def PureB (E : List AV) : Prop := ∀ x ∈ E, PureAll x.cells ∧ x.cells.all AV.cellOk = true
theorem PureB.low {E : List AV} (h : PureB E) (N : Nat) : LowX N E := fun x hx y hy => .pure ((h x hx).1.mem y hy)
theorem pureB_bA (bs : List UInt8) : PureB (bA bs) := fun x hx => by
  obtain ⟨b, _, rfl⟩ := List.mem_map.1 hx
  exact ⟨⟨pure_int _ _, trivial⟩, rfl⟩
theorem pureB_map {α : Type} {f : α → AV} (hf : ∀ a, PureAll (f a).cells ∧ (f a).cells.all AV.cellOk = true) (l : List α) : PureB (l.map f) := fun x hx => by
  obtain ⟨b, _, rfl⟩ := List.mem_map.1 hx
  exact hf b
theorem pureB_nil : PureB [] := fun y hy => by cases hy
theorem pureB_cons {x : AV} {E : List AV} (h : PureAll x.cells) (h' : x.cells.all AV.cellOk = true) (k : PureB E) : PureB (x :: E) := fun y hy => by
  rcases List.mem_cons.1 hy with rfl | hy
  · exact ⟨h, h'⟩
  · exact k y hy
theorem pureB_append {E F : List AV} (h : PureB E) (k : PureB F) : PureB (E ++ F) := fun y hy => by
  rcases List.mem_append.1 hy with hy | hy
  · exact h y hy
  · exact k y hy

/-- Elements that lead to boxes alone. -/
def OwnE (E : List AV) : Prop := ∀ x ∈ E, ∀ y ∈ x.cells, Own y
theorem ownE_nil : OwnE [] := fun y hy => by cases hy
theorem ownE_cons {x : AV} {E : List AV} (h : OwnL x.cells) (k : OwnE E) : OwnE (x :: E) := fun y hy => by
  rcases List.mem_cons.1 hy with rfl | hy
  · exact h.mem
  · exact k y hy
theorem ownE_bA (bs : List UInt8) : OwnE (bA bs) := fun x hx y hy => by
  obtain ⟨b, _, rfl⟩ := List.mem_map.1 hx
  simp [AV.cells] at hy; subst hy; exact (flat_int _ _).own
theorem ownE_map {α : Type} {f : α → AV} (hf : ∀ a, OwnL (f a).cells) (l : List α) : OwnE (l.map f) := fun x hx y hy => by
  obtain ⟨b, _, rfl⟩ := List.mem_map.1 hx
  exact (hf b).mem y hy
theorem ownE_append {E F : List AV} (h : OwnE E) (k : OwnE F) : OwnE (E ++ F) := fun y hy => by
  rcases List.mem_append.1 hy with hy | hy
  · exact h y hy
  · exact k y hy
theorem ownB_box {N id : Nat} {E : List AV} {st : Nat} {sl ro : Bool} {l : List (Nat × Option Box)} (hid : N ≤ id) (h : OwnE E) (k : OwnB N l) : OwnB N ((id, some ⟨E, st, sl, ro⟩) :: l) := ownB_cons hid h k

/-- A whole box seen by value. -/
theorem view_slA {bx : List (Nat × Option Box)} {id len cap st : Nat} {E : List AV} {sl ro : Bool} (hb : box? bx id = some ⟨E, st, sl, ro⟩) (hl : len = E.length) (hp : PureB E) : View bx (.sl id 0 len cap) (.ls st true false E) :=
  view_sl hb (by simp [hl]) hp (by simp [hl])
/-- A part of a box seen by value. -/
theorem view_slP {bx : List (Nat × Option Box)} {id off len cap st : Nat} {E ys : List AV} {sl ro : Bool} (hb : box? bx id = some ⟨E, st, sl, ro⟩) (hl : off + len ≤ E.length) (hp : PureB E) (e : (E.drop off).take len = ys) : View bx (.sl id off len cap) (.ls st true false ys) :=
  view_sl hb hl hp e

theorem rel_pull {G : Gh} {bx0 : List (Nat × Option Box)} {nx0 : Nat} {φ : Nat → Option Loc} {w : World} (R : Rel G bx0 nx0 φ w) {bx : List (Nat × Option Box)} {N : Nat} (ps : List (Nat × Nat)) (h2 : PullB (swapTo ps) bx0 bx)
    (hlow : ∀ id, id < G.nx0 → swapTo ps id = id) (hN : G.nx0 ≤ N) (hdom' : ∀ id b, look bx id = some b → id < N)
    (hB : ∀ id b, box? bx id = some b → LowX N b.elems)
    (inj : ∀ i j b c, look bx i = some b → look bx j = some c → swapTo ps i = swapTo ps j → i = j) :
    ∃ φ', Rel G bx N φ' w ∧ ∀ (x x' : AV) (u : Value), Ren (swapTo ps) x x' → Low N x → Rep w φ (OK G bx0 φ w) x' u → Rep w φ' (OK G bx φ' w) x u := by
  let ρ := swapTo ps
  let φ' : Nat → Option Loc := cutφ N (fun i => φ (ρ i))
  have hφ' : ∀ id, id < N → φ' id = φ (ρ id) := fun id h => by simp only [φ', cutφ, if_pos h]
  have lk : ∀ id b, box? bx id = some b → ∃ o, look bx id = some o := by
    intro id b h
    simp only [box?] at h
    cases hl : look bx id with
    | none => rw [hl] at h; cases h
    | some o => exact ⟨o, rfl⟩
  have blt : ∀ id b, box? bx id = some b → id < N := fun id b h => by obtain ⟨o, ho⟩ := lk id b h; exact hdom' id o ho
  have hok : ∀ b o, OK G bx0 φ w b o → OK G bx φ' w b o := by
    intro b o hk
    refine ⟨hk.1, fun id box L hb hL hv hbl => ?_, hk.2.2⟩
    rw [hφ' id (blt id box hb)] at hL
    obtain ⟨c, g1, g2⟩ := h2.box id box hb
    have := hk.2.1 (ρ id) c L g1 hL hv hbl
    rw [g2.ro, g2.len] at this
    exact this
  have rep : ∀ {x x' : AV} {u : Value}, Ren ρ x x' → Low N x → Rep w φ (OK G bx0 φ w) x' u → Rep w φ' (OK G bx φ' w) x u := fun hx hl hu =>
    (Rep.low hl (Rep.pull hx hu)).mono (fun b o hk => ⟨hok b o hk, rfl⟩) (fun id L e => e)
  refine ⟨φ', ⟨R.os, R.tape, R.output, R.size, R.frame, R.kept, fun b o hk => ⟨(R.okk b o hk).1, (hok b o (R.ok_of_ok0 hk)).2.1⟩, fun id b hb => ?_, fun id id' b b' L L' hb hb' hne hL hL' hv hv' => ?_, fun id hid => ?_, fun id hid => ?_, hN⟩, fun x x' u => rep⟩
  · obtain ⟨c, g1, g2⟩ := h2.box id b hb
    obtain ⟨L, hL, hBx, hm⟩ := R.box (ρ id) c g1
    have gl := g2.len
    refine ⟨L, by rw [hφ' id (blt id b hb)]; exact hL, ⟨by rw [← g2.st]; exact hBx.st, by rw [← g2.slack]; exact hBx.slack, fun i x hx => ?_, fun hv => ?_, fun hv => by rw [← gl]; exact hBx.lies hv, fun hv i x j y hx hy => ?_⟩, hm⟩
    · have hi : i < c.elems.length := by rw [gl]; exact (List.getElem?_eq_some_iff.1 hx).1
      have hx' : c.elems[i]? = some c.elems[i] := by simp
      have hc := (g2.el i x _ hx hx').get
      have ho := hBx.len i _ hx'
      refine ⟨by rw [← hc.1]; exact ho.1, fun y hy => ?_⟩
      obtain ⟨j, hj⟩ := List.mem_iff_getElem?.1 hy
      have hjl : j < (c.elems[i]).cells.length := by rw [hc.1]; exact (List.getElem?_eq_some_iff.1 hj).1
      have hy' : (c.elems[i]).cells[j]? = some (c.elems[i]).cells[j] := by simp
      rw [← (hc.2 j y _ hj hy').cellOk]
      exact ho.2 _ (List.mem_of_getElem? hy')
    · have := hBx.virt hv
      rw [this] at gl
      exact List.length_eq_zero_iff.1 (by simpa using gl.symm)
    · have hi : i < c.elems.length := by rw [gl]; exact (List.getElem?_eq_some_iff.1 hx).1
      have hx' : c.elems[i]? = some c.elems[i] := by simp
      have hc := (g2.el i x _ hx hx').get
      have hjl : j < (c.elems[i]).cells.length := by rw [hc.1]; exact (List.getElem?_eq_some_iff.1 hy).1
      have hy' : (c.elems[i]).cells[j]? = some (c.elems[i]).cells[j] := by simp
      obtain ⟨u, e1, e2⟩ := hBx.cont hv i _ j _ hx' hy'
      exact ⟨u, e1, rep (hc.2 j y _ hy hy') (hB id b hb x (List.mem_of_getElem? hx) y (List.mem_of_getElem? hy)) e2⟩
  · obtain ⟨c, g1, g2⟩ := h2.box id b hb
    obtain ⟨c', g1', g2'⟩ := h2.box id' b' hb'
    rw [hφ' id (blt id b hb)] at hL
    rw [hφ' id' (blt id' b' hb')] at hL'
    obtain ⟨o, ho⟩ := lk id b hb
    obtain ⟨o', ho'⟩ := lk id' b' hb'
    exact R.apart (ρ id) (ρ id') c c' L L' g1 g1' (fun e => hne (inj id id' o o' ho ho' e)) hL hL' hv hv'
  · have : ¬ id < N := by omega
    simp only [φ', cutφ, if_neg this]
  · rw [hφ' id (by omega), show ρ id = id from hlow id hid]
    exact R.agree id hid

/-- The boxes of a picture: their names are new, below N, each its own old name. -/
def NamesOk (ps : List (Nat × Nat)) (nx0 N : Nat) (bx : List (Nat × Option Box)) : Bool :=
  (List.range nx0).all (fun i => swapTo ps i == i) && decide (nx0 ≤ N) && (bx.map (·.1)).all (fun i => decide (i < N)) && ((bx.map (·.1)).all fun i => (bx.map (·.1)).all fun j => !(swapTo ps i == swapTo ps j) || i == j)

theorem look_mem {α : Type} : ∀ {l : List (Nat × α)} {i : Nat} {b : α}, look l i = some b → i ∈ l.map (·.1)
  | [], _, _, h => by cases h
  | (k, x) :: r, i, b, h => by
    simp only [look_cons] at h
    split at h
    · rename_i e; simp [e]
    · exact List.mem_cons_of_mem _ (look_mem h)

structure NamesP (ps : List (Nat × Nat)) (nx0 N : Nat) (bx : List (Nat × Option Box)) : Prop where
  low : ∀ id, id < nx0 → swapTo ps id = id
  le : nx0 ≤ N
  dom : ∀ id b, look bx id = some b → id < N
  inj : ∀ i j b c, look bx i = some b → look bx j = some c → swapTo ps i = swapTo ps j → i = j

theorem namesOk_spec {ps : List (Nat × Nat)} {nx0 N : Nat} {bx : List (Nat × Option Box)} (h : NamesOk ps nx0 N bx = true) : NamesP ps nx0 N bx := by
  simp only [NamesOk, Bool.and_eq_true, List.all_eq_true, List.mem_range, beq_iff_eq, decide_eq_true_eq, Bool.or_eq_true, Bool.not_eq_true', beq_eq_false_iff_ne] at h
  obtain ⟨⟨⟨h1, h2⟩, h3⟩, h4⟩ := h
  refine ⟨h1, h2, fun id b e => h3 id (look_mem e), fun i j b c e1 e2 e => ?_⟩
  rcases h4 i (look_mem e1) j (look_mem e2) with k | k
  · exact absurd e k
  · exact k

def LowBs (N : Nat) : List (Nat × Option Box) → Prop
  | [] => True
  | (_, b) :: l => (∀ b', b = some b' → LowX N b'.elems) ∧ LowBs N l
theorem lowBs_nil {N : Nat} : LowBs N [] := trivial
theorem lowBs_cons {N id : Nat} {E : List AV} {st : Nat} {sl ro : Bool} {l : List (Nat × Option Box)} (h : LowX N E) (k : LowBs N l) : LowBs N ((id, some ⟨E, st, sl, ro⟩) :: l) := ⟨fun b e => by cases e; exact h, k⟩
theorem LowBs.get {N : Nat} : ∀ {l : List (Nat × Option Box)}, LowBs N l → ∀ id b, box? l id = some b → LowX N b.elems
  | [], _, id, b, h => by cases h
  | (k, x) :: l, h, id, b, e => by
    rw [box?_cons] at e
    split at e
    · exact h.1 b e
    · exact LowBs.get h.2 id b e

/-- A picture of a result, by other names. -/
structure PullTo (nx0 : Nat) (r0 : AV) (b0 : List (Nat × Option Box)) (n0 : Nat) (ps : List (Nat × Nat)) (r : AV) (b : List (Nat × Option Box)) : Prop where
  names : NamesP ps nx0 n0 b0
  res : Ren (swapTo ps) r0 r
  low : Low n0 r0
  box : PullB (swapTo ps) b b0
  lowB : LowBs n0 b0

theorem CR.pull {P : Program} {f : FuncId} {args : List AV} {bs : List (Nat × Option Box)} {nx : Nat} {R : AV → List (Nat × Option Box) → Nat → Prop} {r0 : AV} {b0 : List (Nat × Option Box)} {n0 : Nat} (h : CR P f args bs nx R)
    (k : ∀ r b n, R r b n → ∃ ps, PullTo nx r0 b0 n0 ps r b) : CR P f args bs nx (Is r0 b0 n0) := by
  refine ⟨h.1, fun G φ w vs h1 h2 h3 hrel hA => (h.2 G φ w vs h1 h2 h3 hrel hA).mono ?_⟩
  rintro e w' ⟨v, r, b, n, φ', rfl, hR, hrel', hrep⟩
  obtain ⟨ps, hp⟩ := k r b n hR
  subst h3
  obtain ⟨φ2, h4, h5⟩ := rel_pull hrel' ps hp.box hp.names.low hp.names.le hp.names.dom hp.lowB.get hp.names.inj
  exact ⟨v, r0, b0, n0, φ2, rfl, ⟨rfl, rfl, rfl⟩, h4, h5 r0 r v hp.res hp.low hrep⟩

theorem CR_introP {P : Program} {ty : TypeId → Option TI} (hty : TyOk P ty) {f : FuncId} {fn : Func} {c : Code} {args : List AV} {bs : List (Nat × Option Box)} {nx : Nat} {r0 : AV} {b0 : List (Nat × Option Box)} {n0 : Nat} (hf : P.funcs[f]? = some fn)
    (hname : (fn.name == "runtime.NumGoroutine") = false) (hb : fn.body = some c) (n : Nat) (hn : fn.ntmps = n) (hargs : args.length ≤ n) (rs : List ResultVar) (hrs : fn.results.toList = rs)
    (h : ∀ w0 ok0 wr φ0, T P ⟨w0, ok0, wr, n, φ0, nx⟩ c ⟨argEnv 0 args, bs, nx⟩ (retR ty rs fun r b _ => ∃ ps, PullTo nx r0 b0 n0 ps r b)) : CR P f args bs nx (Is r0 b0 n0) :=
  CR.pull (CR_intro hty hf hname hb n hn hargs rs hrs h) (fun _ _ _ k => k)

theorem E_P {ty : TypeId → Option TI} {nx0 : Nat} {r0 : AV} {b0 : List (Nat × Option Box)} {n0 : Nat} {rs : List ResultVar} {s : St} {xs : List AV} (ps : List (Nat × Nat)) (h1 : ResL ty s rs xs) (hn : NamesOk ps nx0 n0 b0 = true) (hr : Ren (swapTo ps) r0 (oneOrTup xs)) (hl : Low n0 r0)
    (hb : PullB (swapTo ps) s.bx b0) (hlb : LowBs n0 b0) : retR ty rs (fun r b _ => ∃ ps, PullTo nx0 r0 b0 n0 ps r b) .ret s := by
  obtain ⟨p, h2, h3⟩ := h1.list
  exact E_R h2 h3 ⟨ps, (namesOk_spec hn), hr, hl, hb, hlb⟩

theorem E_W {ty : TypeId → Option TI} {R : AV → Prop} {rs : List ResultVar} {s : St} {xs : List AV} {y : AV} (h1 : ResL ty s rs xs) (hv : View s.bx (oneOrTup xs) y) (hR : R y) : retV ty rs R .ret s := by
  obtain ⟨p, h2, h3⟩ := h1.list
  exact E_V h2 h3 hv hR

/-- The same contract from another name on. -/
theorem CR.allN {P : Program} {f : FuncId} {args : List AV} {r0 r : AV} {b0 b : List (Nat × Option Box)} {n0 : Nat} (h : CR P f args [] 0 (Is r0 b0 n0)) (N : Nat) (hp : PureAll args) (hr : Ren (N + ·) r0 r) (hb : RenBs (N + ·) b0 b) : CR P f args [] N (Is r b (N + n0)) :=
  CR.at N h hp (fun r1 b1 n1 ⟨e1, e2, e3⟩ => by subst e1 e2 e3; exact ⟨r, b, hr, hb, rfl, rfl, rfl⟩)

theorem renBs_box {ρ : Nat → Nat} {i j : Nat} {E E' : List AV} {st : Nat} {sl ro : Bool} {l r : List (Nat × Option Box)} (hj : j = ρ i) (hl : E'.length = E.length) (h : ∀ (i : Nat) (x x' : AV), E[i]? = some x → E'[i]? = some x' → RenL ρ x.cells x'.cells) (k : RenBs ρ l r) :
    RenBs ρ ((i, some ⟨E, st, sl, ro⟩) :: l) ((j, some ⟨E', st, sl, ro⟩) :: r) := ⟨hj, ⟨rfl, rfl, rfl, hl, h⟩, k⟩
theorem renL_refl {ρ : Nat → Nat} : ∀ {l : List AV}, PureAll l → RenL ρ l l
  | [], _ => trivial
  | _ :: _, h => ⟨.pure h.1, renL_refl h.2⟩
theorem renE_pure {ρ : Nat → Nat} {E : List AV} (h : PureB E) : ∀ (i : Nat) (x x' : AV), E[i]? = some x → E[i]? = some x' → RenL ρ x.cells x'.cells := fun i x x' h1 h2 => by
  rw [h1] at h2
  obtain rfl := Option.some.inj h2
  exact renL_refl (h x (List.mem_of_getElem? h1)).1
theorem renBs_pure {ρ : Nat → Nat} {i j : Nat} {E : List AV} {st : Nat} {sl ro : Bool} {l r : List (Nat × Option Box)} (hj : j = ρ i) (h : PureB E) (k : RenBs ρ l r) :
    RenBs ρ ((i, some ⟨E, st, sl, ro⟩) :: l) ((j, some ⟨E, st, sl, ro⟩) :: r) := renBs_box hj rfl (renE_pure h) k
theorem renBs_one {ρ : Nat → Nat} {i j : Nat} {x x' : AV} {st : Nat} {sl ro : Bool} {l r : List (Nat × Option Box)} (hj : j = ρ i) (h : RenL ρ x.cells x'.cells) (k : RenBs ρ l r) :
    RenBs ρ ((i, some ⟨[x], st, sl, ro⟩) :: l) ((j, some ⟨[x'], st, sl, ro⟩) :: r) := renBs_box hj rfl (fun i a a' h1 h2 => by
      cases i with
      | zero => simp at h1 h2; subst h1 h2; exact h
      | succ i => simp at h1) k

theorem pullB_pure {ρ : Nat → Nat} {bx l : List (Nat × Option Box)} {id : Nat} {E : List AV} {st : Nat} {sl ro : Bool} (h : box? bx (ρ id) = some ⟨E, st, sl, ro⟩) (hp : PureB E) (k : PullB ρ bx l) : PullB ρ bx ((id, some ⟨E, st, sl, ro⟩) :: l) :=
  pullB_cons h ⟨rfl, rfl, rfl, rfl, renE_pure hp⟩ k
theorem pullB_one {ρ : Nat → Nat} {bx l : List (Nat × Option Box)} {id : Nat} {x x' : AV} {st : Nat} {sl ro : Bool} (h : box? bx (ρ id) = some ⟨[x'], st, sl, ro⟩) (hr : RenL ρ x.cells x'.cells) (k : PullB ρ bx l) : PullB ρ bx ((id, some ⟨[x], st, sl, ro⟩) :: l) :=
  pullB_cons h ⟨rfl, rfl, rfl, rfl, fun i a a' h1 h2 => by
      cases i with
      | zero => simp at h1 h2; subst h1 h2; exact hr
      | succ i => simp at h1⟩ k
theorem pullB_box {ρ : Nat → Nat} {bx l : List (Nat × Option Box)} {id : Nat} {E E' : List AV} {st : Nat} {sl ro : Bool} (h : box? bx (ρ id) = some ⟨E', st, sl, ro⟩) (hl : E'.length = E.length) (hr : ∀ (i : Nat) (x x' : AV), E[i]? = some x → E'[i]? = some x' → RenL ρ x.cells x'.cells) (k : PullB ρ bx l) : PullB ρ bx ((id, some ⟨E, st, sl, ro⟩) :: l) :=
  pullB_cons h ⟨rfl, rfl, rfl, hl, hr⟩ k
theorem pullB_none {ρ : Nat → Nat} {bx l : List (Nat × Option Box)} {id : Nat} (k : PullB ρ bx l) : PullB ρ bx ((id, none) :: l) := ⟨fun b e => (by cases e), k⟩

/-- Another picture at a loop's head: slots and boxes by other names. -/
theorem sub_names {G : Gh} {st : St} {env : List (Nat × AV)} {bx : List (Nat × Option Box)} {N : Nat} (ps : List (Nat × Nat)) {k0 : Nat} (hG : G.nx0 = k0) (hn : NamesOk ps k0 N bx = true) (h1 : PullE (swapTo ps) st.env env) (h2 : PullB (swapTo ps) st.bx bx) (h3 : LowE N env) (h4 : LowBs N bx) : Sub G st ⟨env, bx, N⟩ := by
  have hs := (namesOk_spec hn)
  subst hG
  intro φ a w r
  obtain ⟨φ', h5, h6⟩ := rel_pull r.rel ps h2 hs.low hs.le hs.dom h4.get hs.inj
  refine ⟨φ', h5, r.defers, r.sz, fun t v hv => ?_⟩
  obtain ⟨u, e1, e2⟩ := h1.look t v hv
  obtain ⟨e3, e4⟩ := r.env t u e1
  exact ⟨e3, h6 v u _ e2 (h3.get t v hv) e4⟩

section
variable {P : Program} {ty : TypeId → Option TI} {n : Nat} {ops l : List Oper} {K : St → Prop} {tp : TypeId} {pos : String} {aft : Array Edge} {env : List (Nat × AV)} {bx : List (Nat × Option Box)} {nx : Nat} {d : Tmp}
  {f : FuncId} {args : List Operand} {ats : Array TypeId} {xs ys : List AV}

theorem S_callI {r0 : AV} {b0 : List (Nat × Option Box)} {n0 : Nat} (hg : Gts env args xs) (hv : ViewL bx xs ys) (hc : CR P f ys [] nx (Is r0 b0 n0)) (ho : Own r0) (hb : OwnB nx b0) (hd : slotOk n (some d) = true)
    (h : WX false P ty n ops l ⟨(d, r0) :: env, b0 ++ bx, n0⟩ K) :
    WX false P ty n ops (⟨some d, .call ⟨.value (.func f), args.toArray, ats⟩, tp, pos, aft, none⟩ :: l) ⟨env, bx, nx⟩ K :=
  S_callN hg hv hc (fun r b n ⟨e1, e2, e3⟩ => by subst e1 e2 e3; exact ⟨ho, hb⟩) hd (fun r b n ⟨e1, e2, e3⟩ => by subst e1 e2 e3; exact h)

/-- Boxes are lent. -/
theorem S_callL (ids : List Nat) {bs : List (Nat × Option Box)} {r0 : AV} {b0 : List (Nat × Option Box)} {n0 : Nat} (hg : Gts env args xs) (hb : pickSlots bx ids = bs) (hc : CR P f xs bs nx (Is r0 b0 n0))
    (hids : (b0.map (·.1)).all (fun i => ids.contains i || decide (nx ≤ i)) = true) (hd : slotOk n (some d) = true)
    (h : WX false P ty n ops l ⟨(d, r0) :: env, b0 ++ (ids.map fun i => (i, none)) ++ bx, n0⟩ K) :
    WX false P ty n ops (⟨some d, .call ⟨.value (.func f), args.toArray, ats⟩, tp, pos, aft, none⟩ :: l) ⟨env, bx, nx⟩ K :=
  S_callB ids hg hb hc (fun r b n ⟨e1, e2, e3⟩ id b' hl => by
    subst e1 e2 e3
    have := List.all_eq_true.1 hids id (look_mem hl)
    simpa using this) hd (fun r b n ⟨e1, e2, e3⟩ => by subst e1 e2 e3; exact h)
end

/-- A contract with lent boxes, by other names. -/
theorem CR.toI {P : Program} {f : FuncId} {args args' : List AV} {bs bs' : List (Nat × Option Box)} {r0 r : AV} {b0 b : List (Nat × Option Box)} {n0 m : Nat} (h : CR P f args bs m (Is r0 b0 n0)) (ids : List Nat) (hm : ids.length = m) (hnd : ids.Nodup) (N : Nat) (hlt : ∀ x ∈ ids, x < N)
    (ha : RenL (nameOf ids N) args args') (hb : RenBs (nameOf ids N) bs bs') (hn : m ≤ n0) (hr : Ren (nameOf ids N) r0 r) (hb0 : RenBs (nameOf ids N) b0 b) : CR P f args' bs' N (Is r b (N + (n0 - m))) := by
  subst hm
  exact CR.to ids hnd hlt h ha hb (fun r1 b1 n1 ⟨e1, e2, e3⟩ => by subst e1 e2 e3; exact ⟨hn, r, b, hr, hb0, rfl, rfl, rfl⟩)

end Go.Av
/- Slice literals, element by element. -/
namespace Go.Av

def parts (k : Nat) : List AV → List (Nat × AV)
  | [] => []
  | x :: l => (k, x) :: parts (k + 1) l

def GtsI (env : List (Nat × AV)) : Nat → List (Nat × Operand) → List AV → Prop
  | _, [], [] => True
  | k, (i, x) :: l, v :: r => i = k ∧ Gt env x v ∧ GtsI env (k + 1) l r
  | _, _, _ => False
theorem gtsI_nil {env : List (Nat × AV)} {k : Nat} : GtsI env k [] [] := trivial
theorem gtsI_cons {env : List (Nat × AV)} {k : Nat} {x : Operand} {l : List (Nat × Operand)} {v : AV} {r : List AV} (h : Gt env x v) (h2 : GtsI env (k + 1) l r) : GtsI env k ((k, x) :: l) (v :: r) := ⟨rfl, h, h2⟩
theorem GtsI.gtsP {env : List (Nat × AV)} : ∀ {k : Nat} {l : List (Nat × Operand)} {r : List AV}, GtsI env k l r → GtsP env l (parts k r)
  | _, [], [], _ => trivial
  | k, (i, x) :: l, v :: r, h => by obtain ⟨rfl, h1, h2⟩ := h; exact ⟨rfl, h1, h2.gtsP⟩
  | _, [], _ :: _, h => h.elim
  | _, _ :: _, [], h => h.elim

theorem fill_parts {size : Nat} (hpos : 0 < size) : ∀ (vs done : List AV) (z : List AV), (∀ x ∈ vs, x.cells.length = size ∧ x ≠ .undef) → z.length = size →
    (fillL size (parts done.length vs) (flatC done ++ zeros size z vs.length)).1 ∧ (fillL size (parts done.length vs) (flatC done ++ zeros size z vs.length)).2 = flatC (done ++ vs) ∨ ¬ ((flatC done).length = done.length * size)
  | [], done, z, _, _ => by left; simp [parts, fillL, zeros]
  | v :: vs, done, z, h, hz => by
    by_cases hd : (flatC done).length = done.length * size
    · have hv := h v (by simp)
      have hz1 : z.take size = z := List.take_of_length_le (by omega)
      have e1 : splice (flatC done ++ zeros size z (vs.length + 1)) (done.length * size) v.cells = flatC (done ++ [v]) ++ zeros size z vs.length := by
        simp only [splice, zeros]
        rw [List.take_left' hd, ← List.append_assoc, List.drop_left' (by simp [hd, hz1, hv.1, hz])]
        simp [flatC, List.append_assoc]
      have hd' : (flatC (done ++ [v])).length = (done ++ [v]).length * size := by
        simp [flatC, hv.1, Nat.add_mul] at hd ⊢
        exact hd
      have ih := fill_parts hpos vs (done ++ [v]) z (fun x hx => h x (by simp [hx])) hz
      rcases ih with ⟨i1, i2⟩ | ih
      · left
        simp only [parts, fillL, List.length_cons]
        rw [show done.length + 1 = (done ++ [v]).length by simp, e1]
        refine ⟨⟨⟨hv.1, ?_, hv.2⟩, i1⟩, by rw [i2]; simp⟩
        have hzl := zeros_length size z hz (vs.length + 1)
        rw [List.length_append, hd, hzl, Nat.add_mul]
        omega
      · exact absurd hd' ih
    · exact .inr hd

theorem chunk_flat {agg : Bool} {size : Nat} : ∀ (vs : List AV), (∀ x ∈ vs, x.cells.length = size ∧ (if agg then x = .agg x.cells else x.cells = [x])) → chunk agg size vs.length (flatC vs) = vs
  | [], _ => rfl
  | v :: vs, h => by
    have hv := h v (by simp)
    have ih := chunk_flat vs (fun x hx => h x (by simp [hx]))
    have e : flatC (v :: vs) = v.cells ++ flatC vs := by simp [flatC]
    simp only [List.length_cons, chunk]
    rw [e, List.drop_left' hv.1, ih]
    congr 1
    cases agg with
    | true => simp only [if_true] at hv ⊢; rw [List.take_left' hv.1]; exact hv.2.symm
    | false => 
      simp only [Bool.false_eq_true, if_false] at hv ⊢
      rw [hv.2]
      simp

/-- Elements of a slice literal. -/
def Elts (ei : TI) : List AV → Prop
  | [] => True
  | x :: l => (okCells ei.size x ∧ x ≠ .undef ∧ (if isAggK ei.k then x = .agg x.cells else x.cells = [x])) ∧ Elts ei l
theorem elts_nil {ei : TI} : Elts ei [] := trivial
theorem elts_cons {ei : TI} {x : AV} {l : List AV} (h : okCells ei.size x) (h1 : x ≠ .undef) (h2 : if isAggK ei.k then x = .agg x.cells else x.cells = [x]) (k : Elts ei l) : Elts ei (x :: l) := ⟨⟨h, h1, h2⟩, k⟩
theorem Elts.mem {ei : TI} : ∀ {l : List AV}, Elts ei l → ∀ x ∈ l, okCells ei.size x ∧ x ≠ .undef ∧ (if isAggK ei.k then x = .agg x.cells else x.cells = [x])
  | [], _, _, h => by cases h
  | a :: l, h, x, hx => by
    rcases List.mem_cons.1 hx with rfl | hx
    · exact h.1
    · exact Elts.mem h.2 x hx

section
variable {P : Program} {ty : TypeId → Option TI} {n : Nat} {ops l : List Oper} {K : St → Prop} {tp : TypeId} {pos : String} {aft : Array Edge} {env : List (Nat × AV)} {bx : List (Nat × Option Box)} {nx : Nat} {d : Tmp}
  {t : TypeId}

theorem elts_facts (hty : TyOk P ty) {e : TypeId} {ei : TI} (he : ty e = some ei) {vs : List AV} (hv : Elts ei vs) (hpos : 0 < ei.size) :
    (fillL ei.size (parts 0 vs) (zeros ei.size ei.zero vs.length)).1 ∧ chunk (isAggK ei.k) ei.size vs.length (fillL ei.size (parts 0 vs) (zeros ei.size ei.zero vs.length)).2 = vs ∧ ∀ x ∈ vs, okCells ei.size x ∧ (isAggK ei.k || x.flat) = true := by
  obtain ⟨d', f', z', T'⟩ := hty.at he
  have hzl : ei.zero.length = ei.size := by rw [T'.zer]; simp [T'.cells]
  rcases fill_parts hpos vs [] ei.zero (fun x hx => ⟨(hv.mem x hx).1.1, (hv.mem x hx).2.1⟩) hzl with ⟨h1, h2⟩ | h
  · simp only [List.length_nil, flatC, List.flatMap_nil, List.nil_append] at h1 h2
    refine ⟨h1, by rw [h2]; exact chunk_flat vs (fun x hx => ⟨(hv.mem x hx).1.1, (hv.mem x hx).2.2⟩), fun x hx => ⟨(hv.mem x hx).1, ?_⟩⟩
    have := (hv.mem x hx).2.2
    cases ha : isAggK ei.k with
    | true => rfl
    | false =>
      rw [ha] at this
      simp only [Bool.false_eq_true, if_false] at this
      cases x with
      | agg cs =>
        exfalso
        simp only [AV.cells] at this
        have hk : ∀ x : List AV, x = [AV.agg x] → False := fun x h => by
          have h2 : SizeOf.sizeOf x = SizeOf.sizeOf [AV.agg x] := congrArg (fun l : List AV => SizeOf.sizeOf l) h
          simp only [List.cons.sizeOf_spec, List.nil.sizeOf_spec, AV.agg.sizeOf_spec] at h2
          omega
        exact hk cs this
      | _ => rfl
  · simp [flatC] at h

/-- A slice literal, in a box of its own. -/
theorem S_buildL (hty : TyOk P ty) {len : Nat} {ps : List (Nat × Operand)} {vs : List AV} {e : TypeId} {ti ei : TI} (ht : ty t = some ti) (hk : ti.k = .slice e) (he : ty e = some ei) (hg : GtsI env 0 ps vs)
    (hl : vs.length = len) (hv : Elts ei vs) (hlim : len * ei.size ≤ 16777216) (hpos : 0 < ei.size) (hd : slotOk n (some d) = true)
    (h : WX false P ty n ops l ⟨(d, .sl nx 0 len len) :: env, (nx, some ⟨vs, ei.size, true, false⟩) :: bx, nx + 1⟩ K) :
    WX false P ty n ops (⟨some d, .buildSlice t len ps.toArray, tp, pos, aft, none⟩ :: l) ⟨env, bx, nx⟩ K := by
  subst hl
  obtain ⟨h1, h2, h3⟩ := elts_facts hty he hv hpos
  exact S_buildB hty ht hk he hg.gtsP h1 h2 hlim hpos h3 hd h

/-- A slice literal by value. -/
theorem S_buildV (hty : TyOk P ty) {q : Bool} {len : Nat} {ps : List (Nat × Operand)} {vs : List AV} {e : TypeId} {ei : TI} (ht : (ty t).map TI.k = some (.slice e)) (he : ty e = some ei) (hg : GtsI env 0 ps vs)
    (hl : vs.length = len) (hv : Elts ei vs) (hlim : len * ei.size ≤ 16777216) (hpos : 0 < ei.size) (hd : slotOk n (some d) = true)
    (h : WX q P ty n ops l ⟨(d, .ls ei.size false true vs) :: env, bx, nx⟩ K) :
    WX q P ty n ops (⟨some d, .buildSlice t len ps.toArray, tp, pos, aft, none⟩ :: l) ⟨env, bx, nx⟩ K := by
  subst hl
  obtain ⟨h1, h2, h3⟩ := elts_facts hty he hv hpos
  have hm : (ps.map fun p => (p.1, St.get ⟨env, bx, nx⟩ p.2)) = parts 0 vs := hg.gtsP.map bx nx
  have hval : valStep ty bx (St.get ⟨env, bx, nx⟩) (.buildSlice t vs.length ps.toArray) = some ((fillL ei.size (parts 0 vs) (zeros ei.size ei.zero vs.length)).1 ∧ vs.length * ei.size ≤ 16777216 ∧ 0 < ei.size ∧ (∀ x ∈ vs, okCells ei.size x ∧ (isAggK ei.k || x.flat) = true), .ls ei.size false true vs) := by
    simp only [valStep, opVal, ht, he, hm, h2]
  exact S_val hd hval ⟨h1, hlim, hpos, h3⟩ h
end

theorem View.ofEq {bx : List (Nat × Option Box)} {x y : AV} (h : Pure x) (e : x = y) : View bx x y := e ▸ .pure h
theorem view_slE {bx : List (Nat × Option Box)} {id len cap st : Nat} {E ys : List AV} {sl ro : Bool} (hb : box? bx id = some ⟨E, st, sl, ro⟩) (hl : len = E.length) (hp : PureB E) (e : E = ys) : View bx (.sl id 0 len cap) (.ls st true false ys) := e ▸ view_slA hb hl hp
theorem view_loose {bx : List (Nat × Option Box)} {st : Nat} {n e : Bool} {xs ys : List AV} (hp : PureB xs) (h : xs = ys) : View bx (.ls st n e xs) (.ls st true false ys) := by
  subst h
  refine .ls (.inr ⟨rfl, rfl⟩) rfl (fun i x y h1 h2 => ?_) (fun i x y j c d h1 h2 h3 h4 => ?_)
  · rw [h1] at h2
    obtain rfl := Option.some.inj h2
    exact ⟨rfl, fun d hd => List.all_eq_true.1 (hp _ (List.mem_of_getElem? h1)).2 d hd⟩
  · rw [h1] at h2
    obtain rfl := Option.some.inj h2
    rw [h3] at h4
    obtain rfl := Option.some.inj h4
    exact .pure ((hp _ (List.mem_of_getElem? h1)).1.mem _ (List.mem_of_getElem? h3))

theorem E_X {ty : TypeId → Option TI} {rs : List ResultVar} {s : St} {xs : List AV} {r : AV} (h1 : ResL ty s rs xs) (hv : View s.bx (oneOrTup xs) r) : retV ty rs (· = r) .ret s := E_W h1 hv rfl

theorem take_full {E : List AV} {len : Nat} (h : len = E.length) : (E.drop 0).take len = E := by simp [h]
theorem app_nil0 (ys : List AV) : ([] : List AV).drop 0 ++ ys = ys := rfl
theorem app_norm (E ys : List AV) : E.drop 0 ++ ys = E ++ ys := rfl

end Go.Av
/- Facts found by their form, and steps that leave marked goals. -/
namespace Go.Av

class CellC (x : AV) : Prop where
  pure : Pure x
  ok : x.cellOk = true
class CellsC (l : List AV) : Prop where
  out : ∀ y ∈ l, Pure y ∧ y.cellOk = true
class PureC (x : AV) : Prop where
  out : Pure x
class PureLC (l : List AV) : Prop where
  out : PureAll l
/-- A function that pictures elements. -/
class ElemF {α : Type} (f : α → AV) : Prop where
  out : ∀ a, ∀ y ∈ (f a).cells, Pure y ∧ y.cellOk = true
class PureEC (E : List AV) : Prop where
  out : PureB E

theorem pureAll_of {l : List AV} (h : ∀ y ∈ l, Pure y) : PureAll l := by
  induction l with
  | nil => trivial
  | cons a l ih => exact ⟨h a (by simp), ih (fun y hy => h y (by simp [hy]))⟩
theorem pureB_of {E : List AV} (h : ∀ x ∈ E, ∀ y ∈ x.cells, Pure y ∧ y.cellOk = true) : PureB E := fun x hx => ⟨pureAll_of fun y hy => (h x hx y hy).1, List.all_eq_true.2 fun y hy => (h x hx y hy).2⟩
theorem PureB.all {E : List AV} (h : PureB E) : ∀ x ∈ E, ∀ y ∈ x.cells, Pure y ∧ y.cellOk = true := fun x hx y hy => ⟨(h x hx).1.mem y hy, List.all_eq_true.1 (h x hx).2 y hy⟩

instance (k : IntKind) (n : Int) : CellC (.int k n) := ⟨pure_int _ _, rfl⟩
instance (b : Bool) : CellC (.bool b) := ⟨pure_bool _, rfl⟩
instance (s : ByteArray) : CellC (.str s) := ⟨pure_str _, rfl⟩
instance : CellC .nilp := ⟨pure_nilp, rfl⟩
instance (st : Nat) (n e : Bool) (E : List AV) [h : PureEC E] : CellC (.ls st n e E) := ⟨pure_ls fun x hx y hy => (h.out.all x hx y hy).1, rfl⟩
instance : CellsC [] := ⟨fun _ h => by cases h⟩
instance (x : AV) (l : List AV) [h : CellC x] [k : CellsC l] : CellsC (x :: l) := ⟨fun y hy => by
  rcases List.mem_cons.1 hy with rfl | hy
  · exact ⟨h.pure, h.ok⟩
  · exact k.out y hy⟩
instance (cs : List AV) [h : CellsC cs] : CellC (.vp cs) := ⟨pure_vp fun y hy => (h.out y hy).1, rfl⟩
instance (x : AV) [h : CellC x] : PureC x := ⟨h.pure⟩
instance : PureLC [] := ⟨trivial⟩
instance (x : AV) (l : List AV) [h : PureC x] [k : PureLC l] : PureLC (x :: l) := ⟨⟨h.out, k.out⟩⟩
instance (cs : List AV) [h : PureLC cs] : PureC (.agg cs) := ⟨pure_aggL h.out⟩
instance (cs : List AV) [h : PureLC cs] : PureC (.tup cs) := ⟨pure_tupL h.out⟩
instance (f : FuncId) (cs : List AV) [h : PureLC cs] : PureC (.fn f cs) := ⟨pure_fn h.out.mem⟩
instance : PureC .undef := ⟨pure_undef⟩
instance : PureEC [] := ⟨pureB_nil⟩
instance (bs : List UInt8) : PureEC (bA bs) := ⟨pureB_bA bs⟩
instance {α : Type} (f : α → AV) (q : List α) [h : ElemF f] : PureEC (q.map f) := ⟨pureB_of fun x hx y hy => by
  obtain ⟨a, _, rfl⟩ := List.mem_map.1 hx
  exact h.out a y hy⟩
instance (E F : List AV) [h : PureEC E] [k : PureEC F] : PureEC (E ++ F) := ⟨pureB_append h.out k.out⟩
instance (E : List AV) (n : Nat) [h : PureEC E] : PureEC (E.take n) := ⟨fun x hx => h.out x (List.mem_of_mem_take hx)⟩
instance (E : List AV) (n : Nat) [h : PureEC E] : PureEC (E.drop n) := ⟨fun x hx => h.out x (List.mem_of_mem_drop hx)⟩
instance (k : IntKind) (n : Int) (E : List AV) [h : PureEC E] : PureEC (.int k n :: E) := ⟨pureB_cons ⟨pure_int _ _, trivial⟩ rfl h.out⟩
instance (b : Bool) (E : List AV) [h : PureEC E] : PureEC (.bool b :: E) := ⟨pureB_cons ⟨pure_bool _, trivial⟩ rfl h.out⟩
instance (s : ByteArray) (E : List AV) [h : PureEC E] : PureEC (.str s :: E) := ⟨pureB_cons ⟨pure_str _, trivial⟩ rfl h.out⟩
instance (st : Nat) (n e : Bool) (F : List AV) (E : List AV) [k : PureEC F] [h : PureEC E] : PureEC (.ls st n e F :: E) := ⟨pureB_cons ⟨pure_ls fun x hx y hy => (k.out.all x hx y hy).1, trivial⟩ rfl h.out⟩
instance (cs : List AV) (E : List AV) [k : CellsC cs] [h : PureEC E] : PureEC (.agg cs :: E) := ⟨pureB_cons (x := .agg cs) (pureAll_of fun y hy => (k.out y hy).1) (List.all_eq_true.2 fun y hy => (k.out y hy).2) h.out⟩
instance (n : Nat) (k : IntKind) (v : Int) : PureEC (List.replicate n (.int k v)) := ⟨fun x hx => by
  rw [(List.mem_replicate.1 hx).2]; exact ⟨⟨pure_int _ _, trivial⟩, rfl⟩⟩
instance (s : ByteArray) : PureEC (listOf s) := ⟨pureB_of fun x hx y hy => by
  obtain ⟨a, _, rfl⟩ := List.mem_map.1 hx
  simp only [AV.cells, List.mem_cons, List.not_mem_nil, or_false] at hy
  subst hy
  exact ⟨pure_int _ _, rfl⟩⟩

class FlatC (x : AV) : Prop where
  out : Flat x
class FlatLC (l : List AV) : Prop where
  out : FlatL l
instance (k : IntKind) (n : Int) : FlatC (.int k n) := ⟨flat_int _ _⟩
instance (b : Bool) : FlatC (.bool b) := ⟨flat_bool _⟩
instance (s : ByteArray) : FlatC (.str s) := ⟨flat_str _⟩
instance : FlatC .nilp := ⟨flat_nilp⟩
instance (st : Nat) (n e : Bool) : FlatC (.ls st n e []) := ⟨flat_ls0 _ _ _⟩
instance : FlatLC [] := ⟨trivial⟩
instance (x : AV) (l : List AV) [h : FlatC x] [k : FlatLC l] : FlatLC (x :: l) := ⟨⟨h.out, k.out⟩⟩
instance (cs : List AV) [h : FlatLC cs] : FlatC (.agg cs) := ⟨flat_agg h.out⟩
instance (cs : List AV) [h : FlatLC cs] : FlatC (.tup cs) := ⟨flat_tup h.out⟩

class OwnC (x : AV) : Prop where
  out : Own x
class OwnLC (l : List AV) : Prop where
  out : OwnL l
class OwnEC (E : List AV) : Prop where
  out : OwnE E
class OwnF {α : Type} (f : α → AV) : Prop where
  out : ∀ a, ∀ y ∈ (f a).cells, Own y
instance (x : AV) [h : FlatC x] : OwnC x := ⟨h.out.own⟩
instance (id off len cap : Nat) : OwnC (.sl id off len cap) := ⟨own_sl _ _ _ _⟩
instance (id e k : Nat) : OwnC (.ptr id e k) := ⟨own_ptr _ _ _⟩
instance : OwnLC [] := ⟨trivial⟩
instance (x : AV) (l : List AV) [h : OwnC x] [k : OwnLC l] : OwnLC (x :: l) := ⟨⟨h.out, k.out⟩⟩
instance (cs : List AV) [h : OwnLC cs] : OwnC (.agg cs) := ⟨own_agg h.out⟩
instance (cs : List AV) [h : OwnLC cs] : OwnC (.tup cs) := ⟨own_tup h.out⟩
instance : OwnEC [] := ⟨ownE_nil⟩
instance (bs : List UInt8) : OwnEC (bA bs) := ⟨ownE_bA bs⟩
instance {α : Type} (f : α → AV) (q : List α) [h : OwnF f] : OwnEC (q.map f) := ⟨fun x hx y hy => by
  obtain ⟨a, _, rfl⟩ := List.mem_map.1 hx
  exact h.out a y hy⟩
instance (E F : List AV) [h : OwnEC E] [k : OwnEC F] : OwnEC (E ++ F) := ⟨ownE_append h.out k.out⟩
instance (E : List AV) (n : Nat) [h : OwnEC E] : OwnEC (E.take n) := ⟨fun x hx => h.out x (List.mem_of_mem_take hx)⟩
instance (k : IntKind) (n : Int) (E : List AV) [h : OwnEC E] : OwnEC (.int k n :: E) := ⟨ownE_cons (x := .int k n) ⟨(flat_int _ _).own, trivial⟩ h.out⟩
instance (id off len cap : Nat) (E : List AV) [h : OwnEC E] : OwnEC (.sl id off len cap :: E) := ⟨ownE_cons (x := .sl id off len cap) ⟨own_sl _ _ _ _, trivial⟩ h.out⟩
instance (cs : List AV) (E : List AV) [k : OwnLC cs] [h : OwnEC E] : OwnEC (.agg cs :: E) := ⟨ownE_cons (x := .agg cs) k.out h.out⟩

/- Marks on goals, so that each is closed in its own way. -/
structure Mlen (p : Prop) : Prop where
  out : p
structure Msz (p : Prop) : Prop where
  out : p
structure Mnorm (p : Prop) : Prop where
  out : p
structure Mtake (p : Prop) : Prop where
  out : p
structure Mnat (p : Prop) : Prop where
  out : p
structure Mif (p : Prop) : Prop where
  out : p
theorem mlen {p : Prop} (h : p) : Mlen p := ⟨h⟩
theorem msz {p : Prop} (h : p) : Msz p := ⟨h⟩
theorem mnorm {p : Prop} (h : p) : Mnorm p := ⟨h⟩
theorem mtake {p : Prop} (h : p) : Mtake p := ⟨h⟩
theorem mnat {p : Prop} (h : p) : Mnat p := ⟨h⟩
theorem mif {p : Prop} (h : p) : Mif p := ⟨h⟩

theorem src_sl {ty : TypeId → Option TI} {bx : List (Nat × Option Box)} {ei : TI} {xt : TypeId} {e : TypeId} {id off len cap : Nat} {E : List AV} {st : Nat} {sl ro : Bool} {ys : List AV} (ht : (ty xt).map TI.k = some (.slice e)) (hb : box? bx id = some ⟨E, st, sl, ro⟩) (hst : st = ei.size)
    (hfit : Mlen (off + len ≤ E.length)) (hys : Mtake ((E.drop off).take len = ys)) : Src ty bx ei xt (.sl id off len cap) ys := .sl ht hb hst hfit.out hys.out

section
variable {P : Program} {ty : TypeId → Option TI} {n : Nat} {ops l : List Oper} {K : St → Prop} {tp : TypeId} {pos : String} {aft : Array Edge} {env : List (Nat × AV)} {bx : List (Nat × Option Box)} {nx : Nat} {d : Tmp}
  {t xt : TypeId} {x y : Operand} {q : Bool}

theorem bd_at {k : IntKind} {a : Int} {v w : Nat} (hx : Gt env x (.int k a)) (h0 : 0 ≤ a) (h : Mnat (a.toNat = v)) : Bd env (some x) w v := .at hx h0 h.out

theorem M_appB {e : TypeId} {ei : TI} {id off len cap st : Nat} {E ys E' : List AV} {sl ro : Bool} {v : AV} (ht : (ty t).map TI.k = some (.slice e)) (he : ty e = some ei) (hx : Gt env x (.sl id off len cap)) (hB : box? bx id = some ⟨E, st, sl, ro⟩)
    (hst : st = ei.size) (hy : Gt env y v) (hs : Src ty bx ei xt v ys) (hend : Mlen (off + len = E.length)) (hpos : 0 < ei.bytes) (hr : Mnorm (E.drop off ++ ys = E')) (hd : slotOk n (some d) = true) (hsz : Msz ((len + ys.length) * ei.bytes ≤ 140737488355328))
    (h : WX false P ty n ops l ⟨(d, .sl nx 0 (len + ys.length) (len + ys.length)) :: env, (nx, some ⟨E', ei.size, true, ro⟩) :: (id, none) :: bx, nx + 1⟩ K) :
    WX false P ty n ops (⟨some d, .call ⟨.builtin .append, #[x, y], #[t, xt]⟩, tp, pos, aft, none⟩ :: l) ⟨env, bx, nx⟩ K := S_appB ht he hx hB hst hy hs hend.out hpos hr.out hd hsz.out h

theorem M_appN {e : TypeId} {ei : TI} {st : Nat} {ys : List AV} {v : AV} (ht : (ty t).map TI.k = some (.slice e)) (he : ty e = some ei) (hx : Gt env x (.ls st true true []))
    (hy : Gt env y v) (hs : Src ty bx ei xt v ys) (hpos : 0 < ei.bytes) (hd : slotOk n (some d) = true) (hsz : Msz (ys.length * ei.bytes ≤ 140737488355328))
    (h : WX false P ty n ops l ⟨(d, .sl nx 0 ys.length ys.length) :: env, (nx, some ⟨ys, ei.size, true, false⟩) :: bx, nx + 1⟩ K) :
    WX false P ty n ops (⟨some d, .call ⟨.builtin .append, #[x, y], #[t, xt]⟩, tp, pos, aft, none⟩ :: l) ⟨env, bx, nx⟩ K := S_appN ht he hx hy hs hpos hd hsz.out h

theorem M_slLs {e : TypeId} {ei : TI} {lo hi : Option Operand} {st l0 h0 : Nat} {nn ex : Bool} {xs ys : List AV} (ht : (ty t).map TI.k = some (.slice e)) (he : ty e = some ei) (hx : Gt env x (.ls st nn ex xs)) (hst : st = ei.size) (hl : Bd env lo 0 l0) (hh : Bd env hi xs.length h0)
    (h1 : Mlen (l0 ≤ h0)) (h2 : Mlen (h0 ≤ xs.length)) (hr : Mtake ((xs.drop l0).take (h0 - l0) = ys)) (hd : slotOk n (some d) = true) (hex : ex = false)
    (h : WX q P ty n ops l ⟨(d, .ls ei.size nn false ys) :: env, bx, nx⟩ K) :
    WX q P ty n ops (⟨some d, .slice t x lo hi none, tp, pos, aft, none⟩ :: l) ⟨env, bx, nx⟩ K := S_slLs ht he hx hst hl hh h1.out h2.out hr.out hd hex h

theorem M_slSl {e : TypeId} {ei : TI} {lo hi : Option Operand} {id off len cap l0 h0 : Nat} {b : Box} {off' len' cap' : Nat} (ht : (ty t).map TI.k = some (.slice e)) (he : ty e = some ei) (hx : Gt env x (.sl id off len cap)) (hB : box? bx id = some b) (hst : b.st = ei.size) (hl : Bd env lo 0 l0) (hh : Bd env hi len h0)
    (h1 : Mlen (l0 ≤ h0)) (h2 : Mlen (h0 ≤ cap)) (e1 : off + l0 = off') (e2 : h0 - l0 = len') (e3 : cap - l0 = cap') (hd : slotOk n (some d) = true)
    (h : WX q P ty n ops l ⟨(d, .sl id off' len' cap') :: env, bx, nx⟩ K) :
    WX q P ty n ops (⟨some d, .slice t x lo hi none, tp, pos, aft, none⟩ :: l) ⟨env, bx, nx⟩ K := S_slSl ht he hx hB hst hl hh h1.out h2.out e1 e2 e3 hd h
end

theorem view_nothingE {bx : List (Nat × Option Box)} {st st' : Nat} {n e : Bool} {ys : List AV} (h : ys = []) : View bx (.ls st n e []) (.ls st' true false ys) := by subst h; exact .nothing
theorem view_slM {bx : List (Nat × Option Box)} {id len cap st : Nat} {E : List AV} {sl ro : Bool} (hb : box? bx id = some ⟨E, st, sl, ro⟩) (hl : Mlen (len = E.length)) (hp : PureB E) : View bx (.sl id 0 len cap) (.ls st true false E) := view_slA hb hl.out hp
theorem view_slN {bx : List (Nat × Option Box)} {id off len cap st : Nat} {E ys : List AV} {sl ro : Bool} (hb : box? bx id = some ⟨E, st, sl, ro⟩) (hl : Mlen (off + len ≤ E.length)) (hp : PureB E) (e : Mtake ((E.drop off).take len = ys)) : View bx (.sl id off len cap) (.ls st true false ys) := view_slP hb hl.out hp e.out
theorem ownB_boxM {N id : Nat} {E : List AV} {st : Nat} {sl ro : Bool} {l : List (Nat × Option Box)} (hid : Mlen (N ≤ id)) (h : OwnE E) (k : OwnB N l) : OwnB N ((id, some ⟨E, st, sl, ro⟩) :: l) := ownB_cons hid.out h k

end Go.Av
/- Results that hold nothing, told as boxes. -/
namespace Go.Av

def upFirst (n : Nat) : List AV → List AV
  | [] => []
  | .ls st true true [] :: l => .sl n 0 0 0 :: l
  | x :: l => x :: upFirst n l
def upV (n : Nat) : AV → AV
  | .agg cs => .agg (upFirst n cs)
  | .ls st true true [] => .sl n 0 0 0
  | v => v

theorem up_reflL {n : Nat} : ∀ l : List AV, UpL n l l
  | [] => trivial
  | _ :: l => ⟨.refl _, up_reflL l⟩
theorem up_first (n : Nat) : ∀ l : List AV, UpL n l (upFirst n l)
  | [] => trivial
  | x :: l => by
    unfold upFirst
    split
    · trivial
    · rename_i h; cases h; exact ⟨.nil _, up_reflL _⟩
    · rename_i h; cases h; exact ⟨.refl _, up_first n _⟩
theorem up_V (n : Nat) (v : AV) : Up n v (upV n v) := by
  unfold upV
  split
  · exact up_agg (up_first n _)
  · exact .nil _
  · exact .refl _

theorem rel_up {G : Gh} {bx : List (Nat × Option Box)} {nx : Nat} {φ : Nat → Option Loc} {w : World} (R : Rel G bx nx φ w) (sz : Nat) : ∃ φ', Rel G ((nx, some ⟨[], sz, true, false⟩) :: bx) (nx + 1) φ' w ∧
    ∀ (x y : AV) (v : Value), Up nx x y → Rep w φ (OK G bx φ w) x v → Rep w φ' (OK G ((nx, some ⟨[], sz, true, false⟩) :: bx) φ' w) y v := by
  have hA := R.add_box (w' := w) (.refl w) (L := ⟨0, 0, sz, 0, true, true⟩) (b := ⟨[], sz, true, false⟩) (fun h => by cases h) rfl rfl (fun i x h => by simp at h) (fun _ => rfl) (fun h => by cases h) (fun h => by cases h)
  exact ⟨_, hA.rel, fun x y v hu hr => (hu.rep hA.loc hr).mono (fun b o k => ⟨(hA.cell b o k).1, rfl⟩) (fun _ _ k => k)⟩

/-- Some of what is nothing, told as boxes. -/
inductive UpTo : AV → List (Nat × Option Box) → Nat → AV → List (Nat × Option Box) → Nat → Prop
  | refl (r : AV) (b : List (Nat × Option Box)) (n : Nat) : UpTo r b n r b n
  | step {r : AV} {b : List (Nat × Option Box)} {n : Nat} {r' : AV} {b' : List (Nat × Option Box)} {n' : Nat} (sz : Nat) (h : UpTo (upV n r) ((n, some ⟨[], sz, true, false⟩) :: b) (n + 1) r' b' n') : UpTo r b n r' b' n'

/-- What lies behind a slice's end in its own box may be forgotten. -/
theorem rel_trim {G : Gh} {bx : List (Nat × Option Box)} {nx : Nat} {φ : Nat → Option Loc} {w : World} (R : Rel G bx nx φ w) {id st : Nat} {E : List AV} (k : Nat) (hb : box? bx id = some ⟨E, st, true, false⟩) :
    Rel G ((id, some ⟨E.take k, st, true, false⟩) :: bx) nx φ w ∧ (∀ (x : AV) (v : Value), Rep w φ (OK G bx φ w) x v → Rep w φ (OK G ((id, some ⟨E.take k, st, true, false⟩) :: bx) φ w) x v) ∧
    ∀ off len cap cap' (v : Value), len ≤ cap' → cap' ≤ cap → Rep w φ (OK G bx φ w) (.sl id off len cap) v → Rep w φ (OK G ((id, some ⟨E.take k, st, true, false⟩) :: bx) φ w) (.sl id off len cap') v := by
  have bk : ∀ j b, box? ((id, some ⟨E.take k, st, true, false⟩) :: bx) j = some b → (j = id ∧ b = ⟨E.take k, st, true, false⟩) ∨ (j ≠ id ∧ box? bx j = some b) := by
    intro j b h
    rw [box?_cons] at h
    split at h
    · rename_i e; cases h; exact .inl ⟨e.symm, rfl⟩
    · rename_i e; exact .inr ⟨fun h => e h.symm, h⟩
  have hokB : ∀ b o, okB bx φ b o → okB ((id, some ⟨E.take k, st, true, false⟩) :: bx) φ b o := by
    intro b o h j box L g1 g2 g3 g4
    rcases bk j box g1 with ⟨rfl, rfl⟩ | ⟨_, g⟩
    · have := (h j _ L hb g2 g3 g4).1; cases this
    · exact h j box L g g2 g3 g4
  have hrep : ∀ (x : AV) (v : Value), Rep w φ (OK G bx φ w) x v → Rep w φ (OK G ((id, some ⟨E.take k, st, true, false⟩) :: bx) φ w) x v := fun x v h =>
    h.mono (fun b o q => ⟨⟨q.1, hokB b o q.2.1, q.2.2⟩, rfl⟩) (fun _ _ e => e)
  refine ⟨⟨R.os, R.tape, R.output, R.size, R.frame, R.kept, fun b o q => ⟨(R.okk b o q).1, hokB b o (R.okk b o q).2⟩, fun j b g => ?_, fun j j' b b' L L' g g' hne hL hL' hv hv' => ?_, R.dom, R.agree, R.nxle⟩, hrep, fun off len cap cap' v h1 h2 h => ?_⟩
  · rcases bk j b g with ⟨rfl, rfl⟩ | ⟨_, g⟩
    · obtain ⟨L, hL, hB, hm⟩ := R.box j _ hb
      refine ⟨L, hL, ⟨hB.st, hB.slack, fun i x hx => hB.len i x ?_, fun hv => by have := hB.virt hv; simp only at this; subst this; simp, fun hv => ?_, fun hv i x jj y hx hy => ?_⟩, hm⟩
      · simp only [List.getElem?_take] at hx
        split at hx
        · exact hx
        · cases hx
      · obtain ⟨cs, T, fr, e1, e2, e3, e4⟩ := hB.lies hv
        refine ⟨cs, T, fr, e1, e2, ?_, e4⟩
        have : (E.take k).length * L.st ≤ E.length * L.st := Nat.mul_le_mul_right _ (by simp; omega)
        simp only at e3 ⊢
        omega
      · have hx' : E[i]? = some x := by
          simp only [List.getElem?_take] at hx
          split at hx
          · exact hx
          · cases hx
        obtain ⟨u, e1, e2⟩ := hB.cont hv i x jj y hx' hy
        exact ⟨u, e1, hrep _ _ e2⟩
    · obtain ⟨L, hL, hB, hm⟩ := R.box j b g
      exact ⟨L, hL, hB.mono (fun b o q => ⟨⟨q.1, hokB b o q.2.1, q.2.2⟩, rfl⟩) (fun _ _ e => e) (fun _ => rfl), hm⟩
  · rcases bk j b g with ⟨rfl, rfl⟩ | ⟨_, k2⟩
    · rcases bk j' b' g' with ⟨rfl, rfl⟩ | ⟨_, k2'⟩
      · exact absurd rfl hne
      · exact R.apart j j' _ b' L L' hb k2' hne hL hL' hv hv'
    · rcases bk j' b' g' with ⟨rfl, rfl⟩ | ⟨_, k2'⟩
      · exact R.apart j j' b _ L L' k2 hb hne hL hL' hv hv'
      · exact R.apart j j' b b' L L' k2 k2' hne hL hL' hv hv'
  · obtain ⟨L0, hL0, hB0, _⟩ := R.box id _ hb
    cases h with | sl _ _ _ _ L a c g1 g2 =>
    obtain rfl : L = L0 := by rw [hL0] at g1; exact (Option.some.inj g1).symm
    have hsl : L.slack = true := hB0.slack.symm
    exact .sl id off len cap' L a c g1 ⟨h1, Nat.le_trans h2 g2.2.1, fun e => (by rw [hsl] at e; cases e), g2.2.2.2.1, g2.2.2.2.2⟩

theorem sub_trim {G : Gh} {st : St} {t id off len cap sz : Nat} {E : List AV} (k cap' : Nat) (ht : look st.env t = some (.sl id off len cap)) (hb : box? st.bx id = some ⟨E, sz, true, false⟩) (h1 : len ≤ cap') (h2 : cap' ≤ cap) :
    Sub G st ⟨(t, .sl id off len cap') :: st.env, (id, some ⟨E.take k, sz, true, false⟩) :: st.bx, st.nx⟩ := by
  intro φ a w r
  obtain ⟨g1, g2, g3⟩ := rel_trim r.rel k hb
  refine ⟨φ, g1, r.defers, r.sz, fun t' v hv => ?_⟩
  rw [look_cons] at hv
  split at hv
  · rename_i e
    subst e
    cases hv
    obtain ⟨e1, e2⟩ := r.env t _ ht
    exact ⟨e1, g3 _ _ _ _ _ h1 h2 e2⟩
  · obtain ⟨e1, e2⟩ := r.env t' v hv
    exact ⟨e1, g2 _ _ e2⟩

theorem UpTo.rel {r : AV} {b : List (Nat × Option Box)} {n : Nat} {r' : AV} {b' : List (Nat × Option Box)} {n' : Nat} (h : UpTo r b n r' b' n') {G : Gh} {w : World} {v : Value} :
    ∀ {φ : Nat → Option Loc}, Rel G b n φ w → Rep w φ (OK G b φ w) r v → ∃ φ', Rel G b' n' φ' w ∧ Rep w φ' (OK G b' φ' w) r' v := by
  induction h with
  | refl r b n => exact fun R h => ⟨_, R, h⟩
  | step sz _ ih =>
    intro φ R h
    obtain ⟨φ', R', k⟩ := rel_up R sz
    exact ih R' (k _ _ v (up_V _ _) h)

theorem CR.pullU {P : Program} {f : FuncId} {args : List AV} {bs : List (Nat × Option Box)} {nx : Nat} {R : AV → List (Nat × Option Box) → Nat → Prop} {r0 : AV} {b0 : List (Nat × Option Box)} {n0 : Nat} (h : CR P f args bs nx R)
    (k : ∀ r b n, R r b n → ∃ r1 b1 n1 ps, UpTo r b n r1 b1 n1 ∧ PullTo nx r0 b0 n0 ps r1 b1) : CR P f args bs nx (Is r0 b0 n0) := by
  refine ⟨h.1, fun G φ w vs h1 h2 h3 hrel hA => (h.2 G φ w vs h1 h2 h3 hrel hA).mono ?_⟩
  rintro e w' ⟨v, r, b, n, φ', rfl, hR, hrel', hrep⟩
  obtain ⟨r1, b1, n1, ps, hu, hp⟩ := k r b n hR
  obtain ⟨φ1, hrel1, hrep1⟩ := hu.rel hrel' hrep
  subst h3
  obtain ⟨φ2, h4, h5⟩ := rel_pull hrel1 ps hp.box hp.names.low hp.names.le hp.names.dom hp.lowB.get hp.names.inj
  exact ⟨v, r0, b0, n0, φ2, rfl, ⟨rfl, rfl, rfl⟩, h4, h5 r0 r1 v hp.res hp.low hrep1⟩

/-- How a function with boxes must end. -/
def EndB (nx0 : Nat) (r0 : AV) (b0 : List (Nat × Option Box)) (n0 : Nat) (r : AV) (b : List (Nat × Option Box)) (n : Nat) : Prop := ∃ r1 b1 n1 ps, UpTo r b n r1 b1 n1 ∧ PullTo nx0 r0 b0 n0 ps r1 b1

theorem CR_introU {P : Program} {ty : TypeId → Option TI} (hty : TyOk P ty) {f : FuncId} {fn : Func} {c : Code} {args : List AV} {bs : List (Nat × Option Box)} {nx : Nat} {r0 : AV} {b0 : List (Nat × Option Box)} {n0 : Nat} (hf : P.funcs[f]? = some fn)
    (hname : (fn.name == "runtime.NumGoroutine") = false) (hb : fn.body = some c) (n : Nat) (hn : fn.ntmps = n) (hargs : args.length ≤ n) (rs : List ResultVar) (hrs : fn.results.toList = rs)
    (h : ∀ w0 ok0 wr φ0, T P ⟨w0, ok0, wr, n, φ0, nx⟩ c ⟨argEnv 0 args, bs, nx⟩ (retR ty rs (EndB nx r0 b0 n0))) : CR P f args bs nx (Is r0 b0 n0) :=
  CR.pullU (CR_intro hty hf hname hb n hn hargs rs hrs h) (fun _ _ _ k => k)

section
variable {ty : TypeId → Option TI} {nx0 : Nat} {r0 : AV} {b0 : List (Nat × Option Box)} {n0 : Nat} {rs : List ResultVar} {s : St} {xs : List AV}

theorem E_U {r1 : AV} {b1 : List (Nat × Option Box)} {n1 : Nat} (ps : List (Nat × Nat)) (h1 : ResL ty s rs xs) (hu : UpTo (oneOrTup xs) s.bx s.nx r1 b1 n1) (hn : NamesOk ps nx0 n0 b0 = true) (hr : Ren (swapTo ps) r0 r1) (hl : Low n0 r0)
    (hb : PullB (swapTo ps) b1 b0) (hlb : LowBs n0 b0) : retR ty rs (EndB nx0 r0 b0 n0) .ret s := by
  obtain ⟨p, h2, h3⟩ := h1.list
  exact E_R h2 h3 ⟨r1, b1, n1, ps, hu, namesOk_spec hn, hr, hl, hb, hlb⟩
theorem E_U0 (ps : List (Nat × Nat)) (h1 : ResL ty s rs xs) (hn : NamesOk ps nx0 n0 b0 = true) (hr : Ren (swapTo ps) r0 (oneOrTup xs)) (hl : Low n0 r0) (hb : PullB (swapTo ps) s.bx b0) (hlb : LowBs n0 b0) : retR ty rs (EndB nx0 r0 b0 n0) .ret s :=
  E_U ps h1 (.refl _ _ _) hn hr hl hb hlb
theorem E_U1 (ps : List (Nat × Nat)) (sz : Nat) (h1 : ResL ty s rs xs) (hn : NamesOk ps nx0 n0 b0 = true) (hr : Ren (swapTo ps) r0 (upV s.nx (oneOrTup xs))) (hl : Low n0 r0) (hb : PullB (swapTo ps) ((s.nx, some ⟨[], sz, true, false⟩) :: s.bx) b0) (hlb : LowBs n0 b0) : retR ty rs (EndB nx0 r0 b0 n0) .ret s :=
  E_U ps h1 (.step sz (.refl _ _ _)) hn hr hl hb hlb
theorem E_U2 (ps : List (Nat × Nat)) (sz sz' : Nat) (h1 : ResL ty s rs xs) (hn : NamesOk ps nx0 n0 b0 = true) (hr : Ren (swapTo ps) r0 (upV (s.nx + 1) (upV s.nx (oneOrTup xs)))) (hl : Low n0 r0)
    (hb : PullB (swapTo ps) ((s.nx + 1, some ⟨[], sz', true, false⟩) :: (s.nx, some ⟨[], sz, true, false⟩) :: s.bx) b0) (hlb : LowBs n0 b0) : retR ty rs (EndB nx0 r0 b0 n0) .ret s :=
  E_U ps h1 (.step sz (.step sz' (.refl _ _ _))) hn hr hl hb hlb
end

end Go.Av
/- Parts of records, cell by cell. -/
namespace Go.Av

inductive SubL : List AV → Nat → Nat → List AV → Prop
  | nil (l : List AV) : SubL l 0 0 []
  | take {a : AV} {l r : List AV} {n : Nat} (h : SubL l 0 n r) : SubL (a :: l) 0 (n + 1) (a :: r)
  | skip {a : AV} {l r : List AV} {k n : Nat} (h : SubL l k n r) : SubL (a :: l) (k + 1) n r
theorem SubL.eq {l r : List AV} {k n : Nat} (h : SubL l k n r) : k + n ≤ l.length ∧ (l.drop k).take n = r := by
  induction h with
  | nil l => simp
  | take h ih => simp only [List.drop_zero, List.length_cons] at ih ⊢; exact ⟨by omega, by rw [List.take_succ_cons, ih.2]⟩
  | skip h ih => simp only [List.drop_succ_cons, List.length_cons]; exact ⟨by omega, ih.2⟩

section
variable {P : Program} {ty : TypeId → Option TI} {n : Nat} {ops l : List Oper} {K : St → Prop} {tp : TypeId} {pos : String} {aft : Array Edge} {env : List (Nat × AV)} {bx : List (Nat × Option Box)} {nx : Nat} {d : Tmp}
  {t : TypeId} {x : Operand} {q : Bool}

theorem M_loadA {ti : TI} {id e j : Nat} {B : Box} {w : AV} {cs : List AV} (ht : ty t = some ti) (ha : isAggK ti.k = true) (hx : Gt env x (.ptr id e j)) (hB : box? bx id = some B) (he : B.elems[e]? = some w)
    (hc : SubL w.cells j ti.size cs) (hd : slotOk n (some d) = true) (h : WX q P ty n ops l ⟨(d, .agg cs) :: env, bx, nx⟩ K) :
    WX q P ty n ops (⟨some d, .load t x, tp, pos, aft, none⟩ :: l) ⟨env, bx, nx⟩ K := by
  obtain ⟨h1, h2⟩ := hc.eq
  subst h2
  exact S_loadA ht hx hB he ha h1 hd h

theorem M_loadVA {ti : TI} {cs ds : List AV} (ht : ty t = some ti) (ha : isAggK ti.k = true) (hx : Gt env x (.vp cs)) (hc : SubL cs 0 ti.size ds) (hd : slotOk n (some d) = true) (h : WX q P ty n ops l ⟨(d, .agg ds) :: env, bx, nx⟩ K) :
    WX q P ty n ops (⟨some d, .load t x, tp, pos, aft, none⟩ :: l) ⟨env, bx, nx⟩ K := by
  obtain ⟨h1, h2⟩ := hc.eq
  have hcut : (cut true ti cs 0).1 ∧ (cut true ti cs 0).2 = .agg ds := by
    unfold cut
    rw [if_pos ha]
    exact ⟨by omega, by rw [h2]⟩
  refine S_val hd (r := (cut true ti cs 0).2) (p := (cut true ti cs 0).1) (by simp only [valStep, opVal, ht, hx.get bx nx]) hcut.1 ?_
  rw [hcut.2]
  exact h
theorem M_slNil {e : TypeId} {ei : TI} {lo hi : Option Operand} {st : Nat} (ht : (ty t).map TI.k = some (.slice e)) (he : ty e = some ei) (hx : Gt env x (.ls st true true [])) (hl : Bd env lo 0 0) (hh : Bd env hi 0 0) (hd : slotOk n (some d) = true)
    (h : WX q P ty n ops l ⟨(d, .ls ei.size true true []) :: env, bx, nx⟩ K) :
    WX q P ty n ops (⟨some d, .slice t x lo hi none, tp, pos, aft, none⟩ :: l) ⟨env, bx, nx⟩ K := by
  obtain ⟨p1, b1, b2⟩ := bd_bound bx nx hl
  obtain ⟨p2, b3, b4⟩ := bd_bound bx nx hh
  refine S_val (r := .ls ei.size true true []) (p := p1 ∧ p2 ∧ 0 ≤ 0 ∧ 0 ≤ ([] : List AV).length ∧ (st = ei.size ∨ ([] : List AV) = [])) hd ?_ ⟨b2, b4, Nat.le_refl _, Nat.le_refl _, .inr rfl⟩ h
  simp only [valStep, opVal, sliceVal, ht, hx.get bx nx, he, b1, List.length_nil, b3]
  simp
end

theorem ren_slE {ρ : Nat → Nat} {id off off' len len' cap cap' : Nat} (h1 : off' = off) (h2 : len' = len) (h3 : cap' = cap) : Ren ρ (.sl id off len cap) (.sl (ρ id) off' len' cap') := by
  subst h1 h2 h3; exact .sl _ _ _ _
theorem pullB_pureE {ρ : Nat → Nat} {bx l : List (Nat × Option Box)} {id : Nat} {E E' : List AV} {st : Nat} {sl ro : Bool} (h : box? bx (ρ id) = some ⟨E', st, sl, ro⟩) (e : E' = E) (hp : PureB E) (k : PullB ρ bx l) : PullB ρ bx ((id, some ⟨E, st, sl, ro⟩) :: l) := by
  subst e; exact pullB_pure h hp k

theorem view_fn {bx : List (Nat × Option Box)} {f : FuncId} {cs ds : List AV} (h : ViewL bx cs ds) : View bx (.fn f cs) (.fn f ds) := .fn h.get.1 h.get.2

section
variable {P : Program} {ty : TypeId → Option TI} {n : Nat} {ops l : List Oper} {K : St → Prop} {tp : TypeId} {pos : String} {aft : Array Edge} {env : List (Nat × AV)} {bx : List (Nat × Option Box)} {nx : Nat} {d : Tmp}

/-- A closure is called, boxes are lent. -/
theorem S_callLC (ids : List Nat) {f : FuncId} {fop : Operand} {args : List Operand} {ats : Array TypeId} {xs caps as : List AV} {bs : List (Nat × Option Box)} {r0 : AV} {b0 : List (Nat × Option Box)} {n0 : Nat} (hf : Gt env fop (.fn f caps)) (hg : Gts env args xs) (has : xs ++ caps = as) (hb : pickSlots bx ids = bs) (hc : CR P f as bs nx (Is r0 b0 n0))
    (hids : (b0.map (·.1)).all (fun i => ids.contains i || decide (nx ≤ i)) = true) (hd : slotOk n (some d) = true)
    (h : WX false P ty n ops l ⟨(d, r0) :: env, b0 ++ (ids.map fun i => (i, none)) ++ bx, n0⟩ K) :
    WX false P ty n ops (⟨some d, .call ⟨.value fop, args.toArray, ats⟩, tp, pos, aft, none⟩ :: l) ⟨env, bx, nx⟩ K := by
  subst hb has
  have : callOf (St.get ⟨env, bx, nx⟩) (.call ⟨.value fop, args.toArray, ats⟩) = some (f, xs ++ caps) := by
    simp [callOf, hf.get bx nx, hg.map bx nx]
  simp only [WX]
  refine ⟨hd, .inr ⟨rfl, .inr (.inr (.inl ⟨f, xs ++ caps, ids, Is r0 b0 n0, this, hc, ?_, ?_⟩))⟩⟩
  · rintro r b n ⟨e1, e2, e3⟩ id b' hl
    subst e1 e2 e3
    have := List.all_eq_true.1 hids id (look_mem hl)
    simpa using this
  · rintro r b n ⟨e1, e2, e3⟩
    subst e1 e2 e3
    exact h
end

theorem view_nil1 {bx : List (Nat × Option Box)} {st : Nat} {n e : Bool} : View bx (.ls st n e []) (.ls 1 true false []) := .nothing

/-- Elements of one cell, each seen by value. -/
theorem view_slE1 {bx : List (Nat × Option Box)} {id len cap st : Nat} {E ys : List AV} {sl ro : Bool} (hb : box? bx id = some ⟨E, st, sl, ro⟩) (hl : len = E.length) (h : ViewL bx E ys) (h1 : E.all AV.flat = true) (h2 : ys.all (fun y => y.flat && y.cellOk) = true) : View bx (.sl id 0 len cap) (.ls st true false ys) := by
  obtain ⟨g1, g2⟩ := h.get
  subst hl
  have f1 : ∀ x ∈ E, x.cells = [x] := fun x hx => AV.cells_flat (List.all_eq_true.1 h1 x hx)
  have f2 : ∀ y ∈ ys, y.cells = [y] ∧ y.cellOk = true := fun y hy => by
    have := List.all_eq_true.1 h2 y hy
    simp only [Bool.and_eq_true] at this
    exact ⟨AV.cells_flat this.1, this.2⟩
  refine .sl hb (by simp) g1 (fun i x y hx hy => ?_) (fun i x y j c d hx hy hc hd => ?_)
  · rw [f1 x (List.mem_of_getElem? hx), (f2 y (List.mem_of_getElem? hy)).1]
    exact ⟨rfl, fun d hd => by simp at hd; subst hd; exact (f2 _ (List.mem_of_getElem? hy)).2⟩
  · rw [f1 x (List.mem_of_getElem? hx)] at hc
    rw [(f2 y (List.mem_of_getElem? hy)).1] at hd
    cases j with
    | zero =>
      simp at hc hd
      subst hc hd
      rw [Nat.zero_add] at hx
      exact g2 i _ _ hx hy
    | succ j => simp at hc

end Go.Av
/- One field of one element of a row. -/
namespace Go.Av

theorem get_set_same {l : List AV} {e : Nat} {v w : AV} (h : l[e]? = some w) : (l.set e v)[e]? = some v := by
  have := (List.getElem?_eq_some_iff.1 h).1
  simp [this]

section
variable {P : Program} {ty : TypeId → Option TI} {n : Nat} {ops l : List Oper} {K : St → Prop} {tp : TypeId} {pos : String} {aft : Array Edge} {env : List (Nat × AV)} {bx : List (Nat × Option Box)} {nx : Nat} {d : Tmp}
  {t : TypeId} {x y : Operand} {q : Bool} {v : AV}

theorem M_storeP {ti : TI} {id e j : Nat} {cs cs' E : List AV} {sz : Nat} {sl ro : Bool} (ht : ty t = some ti) (hx : Gt env x (.ptr id e j)) (hB : box? bx id = some ⟨E, sz, sl, ro⟩) (he : E[e]? = some (.agg cs)) (hs : (ti.size == sz) = false) (h1 : ti.size = 1) (hro : ro = false) (hy : Gt env y v)
    (hv : v.cells = [v]) (hk : v.cellOk = true) (hset : SetL cs j v cs') (h : WX false P ty n ops l ⟨env, (id, some ⟨E.set e (.agg cs'), sz, sl, ro⟩) :: bx, nx⟩ K) : WX false P ty n ops (⟨none, .store t x y, tp, pos, aft, none⟩ :: l) ⟨env, bx, nx⟩ K := by
  obtain ⟨hj, rfl⟩ := hset.eq
  have hne : ¬ (ti.size = sz) := by simpa using hs
  have hlt := (List.getElem?_eq_some_iff.1 he).1
  have hge : E.getD e .undef = .agg cs := by simp [List.getD, he]
  refine S_memN (r := .undef) (nx' := nx) (p := e < E.length ∧ ro = false ∧ okCells ti.size v ∧ j + ti.size ≤ cs.length) ?_ ⟨hlt, hro, ⟨by simp [hv, h1], by simp [hv, hk]⟩, by omega⟩ h
  simp only [memStep, hx.get, hy.get, storeStep, ht, hB, hne, and_false, if_false, hge, hv, splice_one v hj]
  rfl

theorem M_loadP {ti : TI} {id e j : Nat} {B : Box} {w c : AV} (ht : ty t = some ti) (hx : Gt env x (.ptr id e j)) (hB : box? bx id = some B) (he : B.elems[e]? = some w) (hc : w.cells[j]? = some c) (hf : Fits false ti c)
    (hd : slotOk n (some d) = true) (h : WX q P ty n ops l ⟨(d, c) :: env, bx, nx⟩ K) : WX q P ty n ops (⟨some d, .load t x, tp, pos, aft, none⟩ :: l) ⟨env, bx, nx⟩ K :=
  S_loadP ht hx hB he hc hf hd h
end

theorem T_drawM {P : Program} {ty : TypeId → Option TI} {G : Gh} {Q : Exit → St → Prop} {id : Nat} {l pre post : List Oper} {st : St} (m : Nat) (hty : TyOk P ty) (hmix : P.follows .mixedOrders = true) (h1 : l.take m = pre) (h2 : l.drop m = post) (hD : drawOk l m = true) (hm : m ≤ l.length)
    (h : WX true P ty G.n l pre st fun s => WX false P ty G.n l post s (Q .normal)) : T P G (.region id l.toArray true) st Q := by
  subst h1 h2
  exact T_draw hty hmix m hD hm h

end Go.Av
