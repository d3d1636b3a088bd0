/- A small logic for code over pictures of values and boxes: part 8. -/
import Derived.Test.YtmaginepopldnaaDoorGg
set_option linter.unusedSimpArgs false
set_option linter.unusedVariables false
namespace Go.Av

def Is (r0 : AV) (b0 : List (Nat × Option Box)) (n0 : Nat) : AV → List (Nat × Option Box) → Nat → Prop := fun r b n => r = r0 ∧ b = b0 ∧ n = n0

def LowL (N : Nat) : List AV → Prop
  | [] => True
  | x :: l => Low N x ∧ LowL N l
theorem LowL.mem {N : Nat} : ∀ {l : List AV}, LowL N l → ∀ x ∈ l, Low N x
  | [], _, _, h => by cases h
  | a :: l, h, x, hx => by
    rcases List.mem_cons.1 hx with rfl | hx
    · exact h.1
    · exact LowL.mem h.2 x hx
def LowX (N : Nat) (E : List AV) : Prop := ∀ x ∈ E, ∀ y ∈ x.cells, Low N y
def PureB (E : List AV) : Prop := ∀ x ∈ E, PureAll x.cells ∧ x.cells.all AV.cellOk = true
theorem PureB.low {E : List AV} (h : PureB E) (N : Nat) : LowX N E := fun x hx y hy => .pure ((h x hx).1.mem y hy)
theorem pureB_bA (bs : List UInt8) : PureB (bA bs) := fun x hx => by
  obtain ⟨b, _, rfl⟩ := List.mem_map.1 hx
  exact ⟨⟨pure_int _ _, trivial⟩, rfl⟩
theorem pureB_nil : PureB [] := fun y hy => by cases hy
theorem pureB_cons {x : AV} {E : List AV} (h : PureAll x.cells) (h' : x.cells.all AV.cellOk = true) (k : PureB E) : PureB (x :: E) := fun y hy => by
  rcases List.mem_cons.1 hy with rfl | hy
  · exact ⟨h, h'⟩
  · exact k y hy
theorem pureB_append {E F : List AV} (h : PureB E) (k : PureB F) : PureB (E ++ F) := fun y hy => by
  rcases List.mem_append.1 hy with hy | hy
  · exact h y hy
  · exact k y hy

def OwnE (E : List AV) : Prop := ∀ x ∈ E, ∀ y ∈ x.cells, Own y
theorem ownE_nil : OwnE [] := fun y hy => by cases hy
theorem ownE_cons {x : AV} {E : List AV} (h : OwnL x.cells) (k : OwnE E) : OwnE (x :: E) := fun y hy => by
  rcases List.mem_cons.1 hy with rfl | hy
  · exact h.mem
  · exact k y hy
theorem ownE_bA (bs : List UInt8) : OwnE (bA bs) := fun x hx y hy => by
  obtain ⟨b, _, rfl⟩ := List.mem_map.1 hx
  simp [AV.cells] at hy; subst hy; exact (flat_int _ _).own
theorem ownE_append {E F : List AV} (h : OwnE E) (k : OwnE F) : OwnE (E ++ F) := fun y hy => by
  rcases List.mem_append.1 hy with hy | hy
  · exact h y hy
  · exact k y hy
theorem view_slA {bx : List (Nat × Option Box)} {id len cap st : Nat} {E : List AV} {sl ro : Bool} (hb : box? bx id = some ⟨E, st, sl, ro⟩) (hl : len = E.length) (hp : PureB E) : View bx (.sl id 0 len cap) (.ls st true false E) :=
  view_sl hb (by simp [hl]) hp (by simp [hl])
theorem rel_pull {G : Gh} {bx0 : List (Nat × Option Box)} {nx0 : Nat} {φ : Nat → Option Loc} {w : World} (R : Rel G bx0 nx0 φ w) {bx : List (Nat × Option Box)} {N : Nat} (ps : List (Nat × Nat)) (h2 : PullB (swapTo ps) bx0 bx)
    (hlow : ∀ id, id < G.nx0 → swapTo ps id = id) (hN : G.nx0 ≤ N) (hdom' : ∀ id b, look bx id = some b → id < N)
    (hB : ∀ id b, box? bx id = some b → LowX N b.elems)
    (inj : ∀ i j b c, look bx i = some b → look bx j = some c → swapTo ps i = swapTo ps j → i = j) :
    ∃ φ', Rel G bx N φ' w ∧ ∀ (x x' : AV) (u : Value), Ren (swapTo ps) x x' → Low N x → Rep w φ (OK G bx0 φ w) x' u → Rep w φ' (OK G bx φ' w) x u := by
  let ρ := swapTo ps
  let φ' : Nat → Option Loc := cutφ N (fun i => φ (ρ i))
  have hφ' : ∀ id, id < N → φ' id = φ (ρ id) := fun id h => by simp only [φ', cutφ, if_pos h]
  have lk : ∀ id b, box? bx id = some b → ∃ o, look bx id = some o := by
    intro id b h
    simp only [box?] at h
    cases hl : look bx id with
    | none => rw [hl] at h; cases h
    | some o => exact ⟨o, rfl⟩
  have blt : ∀ id b, box? bx id = some b → id < N := fun id b h => by obtain ⟨o, ho⟩ := lk id b h; exact hdom' id o ho
  have hok : ∀ b o, OK G bx0 φ w b o → OK G bx φ' w b o := by
    intro b o hk
    refine ⟨hk.1, fun id box L hb hL hv hbl => ?_, hk.2.2⟩
    rw [hφ' id (blt id box hb)] at hL
    obtain ⟨c, g1, g2⟩ := h2.box id box hb
    have := hk.2.1 (ρ id) c L g1 hL hv hbl
    rw [g2.ro, g2.len] at this
    exact this
  have rep : ∀ {x x' : AV} {u : Value}, Ren ρ x x' → Low N x → Rep w φ (OK G bx0 φ w) x' u → Rep w φ' (OK G bx φ' w) x u := fun hx hl hu =>
    (Rep.low hl (Rep.pull hx hu)).mono (fun b o hk => ⟨hok b o hk, rfl⟩) (fun id L e => e)
  refine ⟨φ', ⟨R.os, R.tape, R.output, R.size, R.frame, R.kept, fun b o hk => ⟨(R.okk b o hk).1, (hok b o (R.ok_of_ok0 hk)).2.1⟩, fun id b hb => ?_, fun id id' b b' L L' hb hb' hne hL hL' hv hv' => ?_, fun id hid => ?_, fun id hid => ?_, hN⟩, fun x x' u => rep⟩
  · obtain ⟨c, g1, g2⟩ := h2.box id b hb
    obtain ⟨L, hL, hBx, hm⟩ := R.box (ρ id) c g1
    have gl := g2.len
    refine ⟨L, by rw [hφ' id (blt id b hb)]; exact hL, ⟨by rw [← g2.st]; exact hBx.st, by rw [← g2.slack]; exact hBx.slack, fun i x hx => ?_, fun hv => ?_, fun hv => by rw [← gl]; exact hBx.lies hv, fun hv i x j y hx hy => ?_⟩, hm⟩
    · have hi : i < c.elems.length := by rw [gl]; exact (List.getElem?_eq_some_iff.1 hx).1
      have hx' : c.elems[i]? = some c.elems[i] := by simp
      have hc := (g2.el i x _ hx hx').get
      have ho := hBx.len i _ hx'
      refine ⟨by rw [← hc.1]; exact ho.1, fun y hy => ?_⟩
      obtain ⟨j, hj⟩ := List.mem_iff_getElem?.1 hy
      have hjl : j < (c.elems[i]).cells.length := by rw [hc.1]; exact (List.getElem?_eq_some_iff.1 hj).1
      have hy' : (c.elems[i]).cells[j]? = some (c.elems[i]).cells[j] := by simp
      rw [← (hc.2 j y _ hj hy').cellOk]
      exact ho.2 _ (List.mem_of_getElem? hy')
    · have := hBx.virt hv
      rw [this] at gl
      exact List.length_eq_zero_iff.1 (by simpa using gl.symm)
    · have hi : i < c.elems.length := by rw [gl]; exact (List.getElem?_eq_some_iff.1 hx).1
      have hx' : c.elems[i]? = some c.elems[i] := by simp
      have hc := (g2.el i x _ hx hx').get
      have hjl : j < (c.elems[i]).cells.length := by rw [hc.1]; exact (List.getElem?_eq_some_iff.1 hy).1
      have hy' : (c.elems[i]).cells[j]? = some (c.elems[i]).cells[j] := by simp
      obtain ⟨u, e1, e2⟩ := hBx.cont hv i _ j _ hx' hy'
      exact ⟨u, e1, rep (hc.2 j y _ hy hy') (hB id b hb x (List.mem_of_getElem? hx) y (List.mem_of_getElem? hy)) e2⟩
  · obtain ⟨c, g1, g2⟩ := h2.box id b hb
    obtain ⟨c', g1', g2'⟩ := h2.box id' b' hb'
    rw [hφ' id (blt id b hb)] at hL
    rw [hφ' id' (blt id' b' hb')] at hL'
    obtain ⟨o, ho⟩ := lk id b hb
    obtain ⟨o', ho'⟩ := lk id' b' hb'
    exact R.apart (ρ id) (ρ id') c c' L L' g1 g1' (fun e => hne (inj id id' o o' ho ho' e)) hL hL' hv hv'
  · have : ¬ id < N := by omega
    simp only [φ', cutφ, if_neg this]
  · rw [hφ' id (by omega), show ρ id = id from hlow id hid]
    exact R.agree id hid

def NamesOk (ps : List (Nat × Nat)) (nx0 N : Nat) (bx : List (Nat × Option Box)) : Bool :=
  (List.range nx0).all (fun i => swapTo ps i == i) && decide (nx0 ≤ N) && (bx.map (·.1)).all (fun i => decide (i < N)) && ((bx.map (·.1)).all fun i => (bx.map (·.1)).all fun j => !(swapTo ps i == swapTo ps j) || i == j)

structure NamesP (ps : List (Nat × Nat)) (nx0 N : Nat) (bx : List (Nat × Option Box)) : Prop where
  low : ∀ id, id < nx0 → swapTo ps id = id
  le : nx0 ≤ N
  dom : ∀ id b, look bx id = some b → id < N
  inj : ∀ i j b c, look bx i = some b → look bx j = some c → swapTo ps i = swapTo ps j → i = j

def LowBs (N : Nat) : List (Nat × Option Box) → Prop
  | [] => True
  | (_, b) :: l => (∀ b', b = some b' → LowX N b'.elems) ∧ LowBs N l
theorem LowBs.get {N : Nat} : ∀ {l : List (Nat × Option Box)}, LowBs N l → ∀ id b, box? l id = some b → LowX N b.elems
  | [], _, id, b, h => by cases h
  | (k, x) :: l, h, id, b, e => by
    rw [box?_cons] at e
    split at e
    · exact h.1 b e
    · exact LowBs.get h.2 id b e

structure PullTo (nx0 : Nat) (r0 : AV) (b0 : List (Nat × Option Box)) (n0 : Nat) (ps : List (Nat × Nat)) (r : AV) (b : List (Nat × Option Box)) : Prop where
  names : NamesP ps nx0 n0 b0
  res : Ren (swapTo ps) r0 r
  low : Low n0 r0
  box : PullB (swapTo ps) b b0
  lowB : LowBs n0 b0

theorem CR.pull {P : Program} {f : FuncId} {args : List AV} {bs : List (Nat × Option Box)} {nx : Nat} {R : AV → List (Nat × Option Box) → Nat → Prop} {r0 : AV} {b0 : List (Nat × Option Box)} {n0 : Nat} (h : CR P f args bs nx R)
    (k : ∀ r b n, R r b n → ∃ ps, PullTo nx r0 b0 n0 ps r b) : CR P f args bs nx (Is r0 b0 n0) := by
  refine ⟨h.1, fun G φ w vs h1 h2 h3 hrel hA => (h.2 G φ w vs h1 h2 h3 hrel hA).mono ?_⟩
  rintro e w' ⟨v, r, b, n, φ', rfl, hR, hrel', hrep⟩
  obtain ⟨ps, hp⟩ := k r b n hR
  subst h3
  obtain ⟨φ2, h4, h5⟩ := rel_pull hrel' ps hp.box hp.names.low hp.names.le hp.names.dom hp.lowB.get hp.names.inj
  exact ⟨v, r0, b0, n0, φ2, rfl, ⟨rfl, rfl, rfl⟩, h4, h5 r0 r v hp.res hp.low hrep⟩

theorem E_W {ty : TypeId → Option TI} {R : AV → Prop} {rs : List ResultVar} {s : St} {xs : List AV} {y : AV} (h1 : ResL ty s rs xs) (hv : View s.bx (oneOrTup xs) y) (hR : R y) : retV ty rs R .ret s := by
  obtain ⟨p, h2, h3⟩ := h1.list
  exact E_V h2 h3 hv hR

section
variable {P : Program} {ty : TypeId → Option TI} {n : Nat} {ops l : List Oper} {K : St → Prop} {tp : TypeId} {pos : String} {aft : Array Edge} {env : List (Nat × AV)} {bx : List (Nat × Option Box)} {nx : Nat} {d : Tmp}
  {f : FuncId} {args : List Operand} {ats : Array TypeId} {xs ys : List AV}

end

theorem CR.toI {P : Program} {f : FuncId} {args args' : List AV} {bs bs' : List (Nat × Option Box)} {r0 r : AV} {b0 b : List (Nat × Option Box)} {n0 m : Nat} (h : CR P f args bs m (Is r0 b0 n0)) (ids : List Nat) (hm : ids.length = m) (hnd : ids.Nodup) (N : Nat) (hlt : ∀ x ∈ ids, x < N)
    (ha : RenL (nameOf ids N) args args') (hb : RenBs (nameOf ids N) bs bs') (hn : m ≤ n0) (hr : Ren (nameOf ids N) r0 r) (hb0 : RenBs (nameOf ids N) b0 b) : CR P f args' bs' N (Is r b (N + (n0 - m))) := by
  subst hm
  exact CR.to ids hnd hlt h ha hb (fun r1 b1 n1 ⟨e1, e2, e3⟩ => by subst e1 e2 e3; exact ⟨hn, r, b, hr, hb0, rfl, rfl, rfl⟩)

end Go.Av
namespace Go.Av

def parts (k : Nat) : List AV → List (Nat × AV)
  | [] => []
  | x :: l => (k, x) :: parts (k + 1) l

def GtsI (env : List (Nat × AV)) : Nat → List (Nat × Operand) → List AV → Prop
  | _, [], [] => True
  | k, (i, x) :: l, v :: r => i = k ∧ Gt env x v ∧ GtsI env (k + 1) l r
  | _, _, _ => False
def Elts (ei : TI) : List AV → Prop
  | [] => True
  | x :: l => (okCells ei.size x ∧ x ≠ .undef ∧ (if isAggK ei.k then x = .agg x.cells else x.cells = [x])) ∧ Elts ei l
theorem Elts.mem {ei : TI} : ∀ {l : List AV}, Elts ei l → ∀ x ∈ l, okCells ei.size x ∧ x ≠ .undef ∧ (if isAggK ei.k then x = .agg x.cells else x.cells = [x])
  | [], _, _, h => by cases h
  | a :: l, h, x, hx => by
    rcases List.mem_cons.1 hx with rfl | hx
    · exact h.1
    · exact Elts.mem h.2 x hx

section
variable {P : Program} {ty : TypeId → Option TI} {n : Nat} {ops l : List Oper} {K : St → Prop} {tp : TypeId} {pos : String} {aft : Array Edge} {env : List (Nat × AV)} {bx : List (Nat × Option Box)} {nx : Nat} {d : Tmp}
  {t : TypeId}

end

theorem View.ofEq {bx : List (Nat × Option Box)} {x y : AV} (h : Pure x) (e : x = y) : View bx x y := e ▸ .pure h
theorem view_slE {bx : List (Nat × Option Box)} {id len cap st : Nat} {E ys : List AV} {sl ro : Bool} (hb : box? bx id = some ⟨E, st, sl, ro⟩) (hl : len = E.length) (hp : PureB E) (e : E = ys) : View bx (.sl id 0 len cap) (.ls st true false ys) := e ▸ view_slA hb hl hp
theorem view_loose {bx : List (Nat × Option Box)} {st : Nat} {n e : Bool} {xs ys : List AV} (hp : PureB xs) (h : xs = ys) : View bx (.ls st n e xs) (.ls st true false ys) := by
  subst h
  refine .ls (.inr ⟨rfl, rfl⟩) rfl (fun i x y h1 h2 => ?_) (fun i x y j c d h1 h2 h3 h4 => ?_)
  · rw [h1] at h2
    obtain rfl := Option.some.inj h2
    exact ⟨rfl, fun d hd => List.all_eq_true.1 (hp _ (List.mem_of_getElem? h1)).2 d hd⟩
  · rw [h1] at h2
    obtain rfl := Option.some.inj h2
    rw [h3] at h4
    obtain rfl := Option.some.inj h4
    exact .pure ((hp _ (List.mem_of_getElem? h1)).1.mem _ (List.mem_of_getElem? h3))

theorem E_X {ty : TypeId → Option TI} {rs : List ResultVar} {s : St} {xs : List AV} {r : AV} (h1 : ResL ty s rs xs) (hv : View s.bx (oneOrTup xs) r) : retV ty rs (· = r) .ret s := E_W h1 hv rfl

end Go.Av
namespace Go.Av

class CellC (x : AV) : Prop where
  pure : Pure x
  ok : x.cellOk = true
class CellsC (l : List AV) : Prop where
  out : ∀ y ∈ l, Pure y ∧ y.cellOk = true
class PureC (x : AV) : Prop where
  out : Pure x
class PureLC (l : List AV) : Prop where
  out : PureAll l
class ElemF {α : Type} (f : α → AV) : Prop where
  out : ∀ a, ∀ y ∈ (f a).cells, Pure y ∧ y.cellOk = true
class PureEC (E : List AV) : Prop where
  out : PureB E

theorem pureAll_of {l : List AV} (h : ∀ y ∈ l, Pure y) : PureAll l := by
  induction l with
  | nil => trivial
  | cons a l ih => exact ⟨h a (by simp), ih (fun y hy => h y (by simp [hy]))⟩
theorem pureB_of {E : List AV} (h : ∀ x ∈ E, ∀ y ∈ x.cells, Pure y ∧ y.cellOk = true) : PureB E := fun x hx => ⟨pureAll_of fun y hy => (h x hx y hy).1, List.all_eq_true.2 fun y hy => (h x hx y hy).2⟩
theorem PureB.all {E : List AV} (h : PureB E) : ∀ x ∈ E, ∀ y ∈ x.cells, Pure y ∧ y.cellOk = true := fun x hx y hy => ⟨(h x hx).1.mem y hy, List.all_eq_true.1 (h x hx).2 y hy⟩

instance (k : IntKind) (n : Int) : CellC (.int k n) := ⟨pure_int _ _, rfl⟩
instance (b : Bool) : CellC (.bool b) := ⟨pure_bool _, rfl⟩
instance (s : ByteArray) : CellC (.str s) := ⟨pure_str _, rfl⟩
instance : CellC .nilp := ⟨pure_nilp, rfl⟩
instance (st : Nat) (n e : Bool) (E : List AV) [h : PureEC E] : CellC (.ls st n e E) := ⟨pure_ls fun x hx y hy => (h.out.all x hx y hy).1, rfl⟩
instance : CellsC [] := ⟨fun _ h => by cases h⟩
instance (x : AV) (l : List AV) [h : CellC x] [k : CellsC l] : CellsC (x :: l) := ⟨fun y hy => by
  rcases List.mem_cons.1 hy with rfl | hy
  · exact ⟨h.pure, h.ok⟩
  · exact k.out y hy⟩
instance (cs : List AV) [h : CellsC cs] : CellC (.vp cs) := ⟨pure_vp fun y hy => (h.out y hy).1, rfl⟩
instance (x : AV) [h : CellC x] : PureC x := ⟨h.pure⟩
instance : PureLC [] := ⟨trivial⟩
instance (x : AV) (l : List AV) [h : PureC x] [k : PureLC l] : PureLC (x :: l) := ⟨⟨h.out, k.out⟩⟩
instance (cs : List AV) [h : PureLC cs] : PureC (.agg cs) := ⟨pure_aggL h.out⟩
instance (cs : List AV) [h : PureLC cs] : PureC (.tup cs) := ⟨pure_tupL h.out⟩
instance (f : FuncId) (cs : List AV) [h : PureLC cs] : PureC (.fn f cs) := ⟨pure_fn h.out.mem⟩
instance : PureC .undef := ⟨pure_undef⟩
instance : PureEC [] := ⟨pureB_nil⟩
instance (bs : List UInt8) : PureEC (bA bs) := ⟨pureB_bA bs⟩
instance {α : Type} (f : α → AV) (q : List α) [h : ElemF f] : PureEC (q.map f) := ⟨pureB_of fun x hx y hy => by
  obtain ⟨a, _, rfl⟩ := List.mem_map.1 hx
  exact h.out a y hy⟩
instance (E F : List AV) [h : PureEC E] [k : PureEC F] : PureEC (E ++ F) := ⟨pureB_append h.out k.out⟩
instance (E : List AV) (n : Nat) [h : PureEC E] : PureEC (E.take n) := ⟨fun x hx => h.out x (List.mem_of_mem_take hx)⟩
instance (E : List AV) (n : Nat) [h : PureEC E] : PureEC (E.drop n) := ⟨fun x hx => h.out x (List.mem_of_mem_drop hx)⟩
instance (k : IntKind) (n : Int) (E : List AV) [h : PureEC E] : PureEC (.int k n :: E) := ⟨pureB_cons ⟨pure_int _ _, trivial⟩ rfl h.out⟩
instance (b : Bool) (E : List AV) [h : PureEC E] : PureEC (.bool b :: E) := ⟨pureB_cons ⟨pure_bool _, trivial⟩ rfl h.out⟩
instance (s : ByteArray) (E : List AV) [h : PureEC E] : PureEC (.str s :: E) := ⟨pureB_cons ⟨pure_str _, trivial⟩ rfl h.out⟩
instance (st : Nat) (n e : Bool) (F : List AV) (E : List AV) [k : PureEC F] [h : PureEC E] : PureEC (.ls st n e F :: E) := ⟨pureB_cons ⟨pure_ls fun x hx y hy => (k.out.all x hx y hy).1, trivial⟩ rfl h.out⟩
instance (cs : List AV) (E : List AV) [k : CellsC cs] [h : PureEC E] : PureEC (.agg cs :: E) := ⟨pureB_cons (x := .agg cs) (pureAll_of fun y hy => (k.out y hy).1) (List.all_eq_true.2 fun y hy => (k.out y hy).2) h.out⟩
instance (n : Nat) (k : IntKind) (v : Int) : PureEC (List.replicate n (.int k v)) := ⟨fun x hx => by
  rw [(List.mem_replicate.1 hx).2]; exact ⟨⟨pure_int _ _, trivial⟩, rfl⟩⟩
instance (s : ByteArray) : PureEC (listOf s) := ⟨pureB_of fun x hx y hy => by
  obtain ⟨a, _, rfl⟩ := List.mem_map.1 hx
  simp only [AV.cells, List.mem_cons, List.not_mem_nil, or_false] at hy
  subst hy
  exact ⟨pure_int _ _, rfl⟩⟩

class FlatC (x : AV) : Prop where
  out : Flat x
class FlatLC (l : List AV) : Prop where
  out : FlatL l
instance (k : IntKind) (n : Int) : FlatC (.int k n) := ⟨flat_int _ _⟩
instance (b : Bool) : FlatC (.bool b) := ⟨flat_bool _⟩
instance (s : ByteArray) : FlatC (.str s) := ⟨flat_str _⟩
instance : FlatC .nilp := ⟨flat_nilp⟩
instance (st : Nat) (n e : Bool) : FlatC (.ls st n e []) := ⟨flat_ls0 _ _ _⟩
instance : FlatLC [] := ⟨trivial⟩
instance (x : AV) (l : List AV) [h : FlatC x] [k : FlatLC l] : FlatLC (x :: l) := ⟨⟨h.out, k.out⟩⟩
instance (cs : List AV) [h : FlatLC cs] : FlatC (.agg cs) := ⟨flat_agg h.out⟩
instance (cs : List AV) [h : FlatLC cs] : FlatC (.tup cs) := ⟨flat_tup h.out⟩

class OwnC (x : AV) : Prop where
  out : Own x
class OwnLC (l : List AV) : Prop where
  out : OwnL l
class OwnEC (E : List AV) : Prop where
  out : OwnE E
class OwnF {α : Type} (f : α → AV) : Prop where
  out : ∀ a, ∀ y ∈ (f a).cells, Own y
instance (x : AV) [h : FlatC x] : OwnC x := ⟨h.out.own⟩
instance (id off len cap : Nat) : OwnC (.sl id off len cap) := ⟨own_sl _ _ _ _⟩
instance (id e k : Nat) : OwnC (.ptr id e k) := ⟨own_ptr _ _ _⟩
instance : OwnLC [] := ⟨trivial⟩
instance (x : AV) (l : List AV) [h : OwnC x] [k : OwnLC l] : OwnLC (x :: l) := ⟨⟨h.out, k.out⟩⟩
instance (cs : List AV) [h : OwnLC cs] : OwnC (.agg cs) := ⟨own_agg h.out⟩
instance (cs : List AV) [h : OwnLC cs] : OwnC (.tup cs) := ⟨own_tup h.out⟩
instance : OwnEC [] := ⟨ownE_nil⟩
instance (bs : List UInt8) : OwnEC (bA bs) := ⟨ownE_bA bs⟩
instance {α : Type} (f : α → AV) (q : List α) [h : OwnF f] : OwnEC (q.map f) := ⟨fun x hx y hy => by
  obtain ⟨a, _, rfl⟩ := List.mem_map.1 hx
  exact h.out a y hy⟩
instance (E F : List AV) [h : OwnEC E] [k : OwnEC F] : OwnEC (E ++ F) := ⟨ownE_append h.out k.out⟩
instance (E : List AV) (n : Nat) [h : OwnEC E] : OwnEC (E.take n) := ⟨fun x hx => h.out x (List.mem_of_mem_take hx)⟩
instance (k : IntKind) (n : Int) (E : List AV) [h : OwnEC E] : OwnEC (.int k n :: E) := ⟨ownE_cons (x := .int k n) ⟨(flat_int _ _).own, trivial⟩ h.out⟩
instance (id off len cap : Nat) (E : List AV) [h : OwnEC E] : OwnEC (.sl id off len cap :: E) := ⟨ownE_cons (x := .sl id off len cap) ⟨own_sl _ _ _ _, trivial⟩ h.out⟩
instance (cs : List AV) (E : List AV) [k : OwnLC cs] [h : OwnEC E] : OwnEC (.agg cs :: E) := ⟨ownE_cons (x := .agg cs) k.out h.out⟩

structure Mlen (p : Prop) : Prop where
  out : p
structure Msz (p : Prop) : Prop where
  out : p
structure Mnorm (p : Prop) : Prop where
  out : p
structure Mtake (p : Prop) : Prop where
  out : p
structure Mnat (p : Prop) : Prop where
  out : p
structure Mif (p : Prop) : Prop where
  out : p
theorem mlen {p : Prop} (h : p) : Mlen p := ⟨h⟩
theorem mnat {p : Prop} (h : p) : Mnat p := ⟨h⟩
section
variable {P : Program} {ty : TypeId → Option TI} {n : Nat} {ops l : List Oper} {K : St → Prop} {tp : TypeId} {pos : String} {aft : Array Edge} {env : List (Nat × AV)} {bx : List (Nat × Option Box)} {nx : Nat} {d : Tmp}
  {t xt : TypeId} {x y : Operand} {q : Bool}

theorem bd_at {k : IntKind} {a : Int} {v w : Nat} (hx : Gt env x (.int k a)) (h0 : 0 ≤ a) (h : Mnat (a.toNat = v)) : Bd env (some x) w v := .at hx h0 h.out

end

theorem view_nothingE {bx : List (Nat × Option Box)} {st st' : Nat} {n e : Bool} {ys : List AV} (h : ys = []) : View bx (.ls st n e []) (.ls st' true false ys) := by subst h; exact .nothing
end Go.Av
namespace Go.Av

def upFirst (n : Nat) : List AV → List AV
  | [] => []
  | .ls st true true [] :: l => .sl n 0 0 0 :: l
  | x :: l => x :: upFirst n l
def upV (n : Nat) : AV → AV
  | .agg cs => .agg (upFirst n cs)
  | .ls st true true [] => .sl n 0 0 0
  | v => v

theorem up_reflL {n : Nat} : ∀ l : List AV, UpL n l l
  | [] => trivial
  | _ :: l => ⟨.refl _, up_reflL l⟩
theorem up_first (n : Nat) : ∀ l : List AV, UpL n l (upFirst n l)
  | [] => trivial
  | x :: l => by
    unfold upFirst
    split
    · trivial
    · rename_i h; cases h; exact ⟨.nil _, up_reflL _⟩
    · rename_i h; cases h; exact ⟨.refl _, up_first n _⟩
theorem up_V (n : Nat) (v : AV) : Up n v (upV n v) := by
  unfold upV
  split
  · exact up_agg (up_first n _)
  · exact .nil _
  · exact .refl _

theorem rel_up {G : Gh} {bx : List (Nat × Option Box)} {nx : Nat} {φ : Nat → Option Loc} {w : World} (R : Rel G bx nx φ w) (sz : Nat) : ∃ φ', Rel G ((nx, some ⟨[], sz, true, false⟩) :: bx) (nx + 1) φ' w ∧
    ∀ (x y : AV) (v : Value), Up nx x y → Rep w φ (OK G bx φ w) x v → Rep w φ' (OK G ((nx, some ⟨[], sz, true, false⟩) :: bx) φ' w) y v := by
  have hA := R.add_box (w' := w) (.refl w) (L := (.one 0 0 sz 0 true true)) (b := ⟨[], sz, true, false⟩) (fun h => by cases h) rfl rfl (fun i x h => by simp at h) (fun _ => rfl) (fun h => by cases h) (fun h => by cases h)
  exact ⟨_, hA.rel, fun x y v hu hr => (hu.rep hA.loc hr).mono (fun b o k => ⟨(hA.cell b o k).1, rfl⟩) (fun _ _ k => k)⟩

inductive UpTo : AV → List (Nat × Option Box) → Nat → AV → List (Nat × Option Box) → Nat → Prop
  | refl (r : AV) (b : List (Nat × Option Box)) (n : Nat) : UpTo r b n r b n
  | step {r : AV} {b : List (Nat × Option Box)} {n : Nat} {r' : AV} {b' : List (Nat × Option Box)} {n' : Nat} (sz : Nat) (h : UpTo (upV n r) ((n, some ⟨[], sz, true, false⟩) :: b) (n + 1) r' b' n') : UpTo r b n r' b' n'

theorem UpTo.rel {r : AV} {b : List (Nat × Option Box)} {n : Nat} {r' : AV} {b' : List (Nat × Option Box)} {n' : Nat} (h : UpTo r b n r' b' n') {G : Gh} {w : World} {v : Value} :
    ∀ {φ : Nat → Option Loc}, Rel G b n φ w → Rep w φ (OK G b φ w) r v → ∃ φ', Rel G b' n' φ' w ∧ Rep w φ' (OK G b' φ' w) r' v := by
  induction h with
  | refl r b n => exact fun R h => ⟨_, R, h⟩
  | step sz _ ih =>
    intro φ R h
    obtain ⟨φ', R', k⟩ := rel_up R sz
    exact ih R' (k _ _ v (up_V _ _) h)

def EndB (nx0 : Nat) (r0 : AV) (b0 : List (Nat × Option Box)) (n0 : Nat) (r : AV) (b : List (Nat × Option Box)) (n : Nat) : Prop := ∃ r1 b1 n1 ps, UpTo r b n r1 b1 n1 ∧ PullTo nx0 r0 b0 n0 ps r1 b1

section
variable {ty : TypeId → Option TI} {nx0 : Nat} {r0 : AV} {b0 : List (Nat × Option Box)} {n0 : Nat} {rs : List ResultVar} {s : St} {xs : List AV}

end

end Go.Av
namespace Go.Av

inductive SubL : List AV → Nat → Nat → List AV → Prop
  | nil (l : List AV) : SubL l 0 0 []
  | take {a : AV} {l r : List AV} {n : Nat} (h : SubL l 0 n r) : SubL (a :: l) 0 (n + 1) (a :: r)
  | skip {a : AV} {l r : List AV} {k n : Nat} (h : SubL l k n r) : SubL (a :: l) (k + 1) n r
theorem SubL.eq {l r : List AV} {k n : Nat} (h : SubL l k n r) : k + n ≤ l.length ∧ (l.drop k).take n = r := by
  induction h with
  | nil l => simp
  | take h ih => simp only [List.drop_zero, List.length_cons] at ih ⊢; exact ⟨by omega, by rw [List.take_succ_cons, ih.2]⟩
  | skip h ih => simp only [List.drop_succ_cons, List.length_cons]; exact ⟨by omega, ih.2⟩

section
variable {P : Program} {ty : TypeId → Option TI} {n : Nat} {ops l : List Oper} {K : St → Prop} {tp : TypeId} {pos : String} {aft : Array Edge} {env : List (Nat × AV)} {bx : List (Nat × Option Box)} {nx : Nat} {d : Tmp}
  {t : TypeId} {x : Operand} {q : Bool}

end

section
variable {P : Program} {ty : TypeId → Option TI} {n : Nat} {ops l : List Oper} {K : St → Prop} {tp : TypeId} {pos : String} {aft : Array Edge} {env : List (Nat × AV)} {bx : List (Nat × Option Box)} {nx : Nat} {d : Tmp}

end

end Go.Av
namespace Go.Av

section
variable {P : Program} {ty : TypeId → Option TI} {n : Nat} {ops l : List Oper} {K : St → Prop} {tp : TypeId} {pos : String} {aft : Array Edge} {env : List (Nat × AV)} {bx : List (Nat × Option Box)} {nx : Nat} {d : Tmp}
  {t : TypeId} {x y : Operand} {q : Bool} {v : AV}

end

end Go.Av
namespace Go.Av

end Go.Av
namespace Go.Av

theorem memStep_congr {ty : TypeId → Option TI} {bx : List (Nat × Option Box)} {nx : Nat} {get get' : Operand → AV} {o : Op} (h : ∀ x ∈ o.operands, get x = get' x) : memStep ty bx nx get o = memStep ty bx nx get' o := by
  cases o with
  | call c =>
    obtain ⟨callee, args, ats⟩ := c
    cases callee with
    | builtin b =>
      have ha : ∀ x ∈ args.toList, get x = get' x := fun x hx => h x (by simp [Op.operands, Call.operands]; simpa using hx)
      obtain ⟨args⟩ := args
      rcases args with _ | ⟨x, _ | ⟨y, _ | ⟨z, r⟩⟩⟩
      · cases b <;> rfl
      · have hx : get x = get' x := ha x (by simp)
        rcases hats : ats.toList with _ | ⟨t, _ | ⟨t', _ | ⟨t'', r'⟩⟩⟩ <;> cases b <;> simp only [memStep, hx, hats]
      · have hx : get x = get' x := ha x (by simp)
        have hy : get y = get' y := ha y (by simp)
        rcases hats : ats.toList with _ | ⟨t, _ | ⟨t', _ | ⟨t'', r'⟩⟩⟩ <;> cases b <;> simp only [memStep, hx, hy, hats]
      · cases b <;> rfl
    | _ => rfl
  | _ =>
    simp only [Op.operands, List.mem_toArray, List.mem_cons, List.not_mem_nil, or_false, forall_eq_or_imp, forall_eq] at h
    first
      | rfl
      | (simp only [memStep, h]; done)

def AOp (P : Program) (o : Oper) (get : Operand → AV) (bx : List (Nat × Option Box)) (nx : Nat) (r : AV) (bx' : List (Nat × Option Box)) (nx' : Nat) : Prop :=
  ∀ (G : Gh) (φ : Nat → Option Loc) (w : World) (ρ : Operand → Value), Rel G bx nx φ w → (∀ x ∈ o.op.operands, Rep w φ (OK G bx φ w) (get x) (ρ x)) →
    ∃ w' φ', Adv G bx φ w bx' nx' φ' w' ∧ ((∃ v, (execOp ρ o).run P w = .ok (.value v) w' ∧ Rep w' φ' (OK G bx' φ' w') r v) ∨ ((execOp ρ o).run P w = .ok .skip w' ∧ r = .undef))
def AStep (P : Program) (o : Oper) (get : Operand → AV) (bx : List (Nat × Option Box)) (nx : Nat) (r : AV) (bx' : List (Nat × Option Box)) (nx' : Nat) : Prop :=
  AOp P o get bx nx r bx' nx' ∨ ∃ f xs, callOf get o.op = some (f, xs) ∧ CallS P f bx nx xs (fun r1 b1 n1 => r1 = r ∧ b1 = bx' ∧ n1 = nx')

theorem AStep.congr {P : Program} {o : Oper} {get get' : Operand → AV} {bx bx' : List (Nat × Option Box)} {nx nx' : Nat} {r : AV} (h : ∀ x ∈ o.op.operands, get x = get' x) (k : AStep P o get bx nx r bx' nx') : AStep P o get' bx nx r bx' nx' := by
  rcases k with k | ⟨f, xs, k1, k2⟩
  · exact .inl fun G φ w ρ hr hx => k G φ w ρ hr fun x hm => by rw [h x hm]; exact hx x hm
  · exact .inr ⟨f, xs, by rw [← k1]; exact (callOf_congr h).symm, k2⟩

theorem AStep.mem {P : Program} {ty : TypeId → Option TI} (hty : TyOk P ty) {o : Oper} {get : Operand → AV} {bx bx' : List (Nat × Option Box)} {nx nx' : Nat} {r : AV} {p : Prop} (h : memStep ty bx nx get o.op = some (p, r, bx', nx')) (hp : p) : AStep P o get bx nx r bx' nx' := by
  refine .inl ?_
  intro G φ w ρ hr hx
  classical
  let get' : Operand → AV := fun x => if x ∈ o.op.operands then get x else .undef
  have e : memStep ty bx nx get' o.op = some (p, r, bx', nx') := by
    rw [← h]
    exact memStep_congr fun x hm => by simp only [get']; rw [if_pos hm]
  refine memStep_ok (P := P) hty hr (ρ := ρ) (fun x => ?_) e hp
  simp only [get']
  split
  · rename_i hm; exact hx x hm
  · exact .undef _

section
variable {P : Program} {G : Gh} {Q : Exit → St → Prop} {st : St}
end

structure DrawMix (ops : List Oper) (m : Nat) (lq : Nat → Bool) : Prop where
  gd : ∀ (j : Nat) (o : Oper), j < m → ops[j]? = some o → o.guard = none
  ord : ∀ (j : Nat) (o : Oper) (i : Nat), j < m → ops[j]? = some o → lq j = true → i < j → lq i = true → reach ops ops.length j i = true
  mix : ∀ (j k : Nat) (oj ok : Oper), j < k → k < m → lq j = true → lq k = false → ops[j]? = some oj → ops[k]? = some ok → oj.apart ops.toArray ok = true

section
variable {P : Program} {ty : TypeId → Option TI} {G : Gh} {Q : Exit → St → Prop}

end

end Go.Av
namespace Go.Av

def sel (lq : Nat → Bool) (b : Bool) : Nat → List Oper → List Oper
  | _, [] => []
  | k, o :: l => if lq k = b then o :: sel lq b (k + 1) l else sel lq b (k + 1) l

def WL (P : Program) (n : Nat) (bx0 : List (Nat × Option Box)) : List Oper → St → (St → Prop) → Prop
  | [], st, K => K st
  | o :: l, st, K => slotOk n o.dst = true ∧ (Stay bx0 st.bx → ∃ r bx' nx', AStep P o st.get st.bx st.nx r bx' nx' ∧ Stay bx0 bx' ∧ WL P n bx0 l ((St.mk st.env bx' nx').set o.dst r) K)

def noCall (o : Op) : Bool := match o with
  | .call { callee := .value _, .. } => false
  | _ => true

section
variable {P : Program} {ty : TypeId → Option TI} {n : Nat} {ops : List Oper} {m : Nat} {lq : Nat → Bool} {e0 : List (Nat × AV)} {bx : List (Nat × Option Box)} {nx : Nat}

def drawMix (ops : List Oper) (m : Nat) (lq : Nat → Bool) : Bool :=
  (List.range m).all fun j => match ops[j]? with
    | none => true
    | some oj => oj.guard.isNone && if lq j then (List.range j).all (fun i => !lq i || reach ops ops.length j i) && (List.range m).all (fun k => decide (k ≤ j) || lq k || match ops[k]? with
        | some ok => oj.apart ops.toArray ok
        | none => true) else true

def noMem : Op → Bool
  | .move _ => true
  | .assign _ => true
  | _ => false
def lateOk (l : List Oper) (m : Nat) (lq : Nat → Bool) : Bool :=
  (List.range m).all fun i => lq i || match l[i]? with
    | none => true
    | some o => noMem o.op || (List.range m).all fun k => !lq k || reach l l.length k i
end

end Go.Av
namespace Go.Av

section
variable {P : Program} {ty : TypeId → Option TI} {n : Nat} {l : List Oper} {K : St → Prop} {tp : TypeId} {pos : String} {aft : Array Edge} {gd : Option (Nat × Bool)} {env : List (Nat × AV)} {bx bx0 : List (Nat × Option Box)} {nx : Nat} {d : Tmp}
  {t xt : TypeId} {x y : Operand}

end

end Go.Av
namespace Go.Av

section
variable {P : Program} {ty : TypeId → Option TI} {G : Gh} {bx : List (Nat × Option Box)} {nx : Nat} {φ : Nat → Option Loc} {w : World}

end

section
variable {P : Program} {ty : TypeId → Option TI} {n : Nat} {ops l : List Oper} {K : St → Prop} {tp : TypeId} {pos : String} {aft : Array Edge} {env : List (Nat × AV)} {bx : List (Nat × Option Box)} {nx : Nat} {d : Tmp}
  {t xt : TypeId} {x y : Operand}

end

end Go.Av
namespace Go.Av

structure Mix (p : Prop) : Prop where
  out : p
theorem mix {p : Prop} (h : p) : Mix p := ⟨h⟩

section
variable {P : Program} {ty : TypeId → Option TI} {n : Nat} {ops l : List Oper} {K : St → Prop} {tp : TypeId} {pos : String} {aft : Array Edge} {env : List (Nat × AV)} {bx : List (Nat × Option Box)} {nx : Nat} {d : Tmp}
  {t : TypeId} {x y i : Operand} {q : Bool} {v : AV}

theorem M_idxAP {m : Nat} {e : TypeId} {ei : TI} {id e' j j' : Nat} {k : IntKind} {ii : Int} (ht : (ty t).map TI.k = some (.arr m e)) (he : ty e = some ei) (hx : Gt env x (.ptr id e' j)) (hi : Gt env i (.int k ii)) (hr : 0 ≤ ii ∧ ii < (m : Int)) (hj : Mix (j + ii.toNat * ei.size = j'))
    (hd : slotOk n (some d) = true) (h : WX q P ty n ops l ⟨(d, .ptr id e' j') :: env, bx, nx⟩ K) : WX q P ty n ops (⟨some d, .indexAddr t x i, tp, pos, aft, none⟩ :: l) ⟨env, bx, nx⟩ K := by
  obtain ⟨rfl⟩ := hj
  exact S_val (p := 0 ≤ ii ∧ ii < (m : Int)) hd (by simp only [valStep, opVal, ht, hi.get bx nx, idx, he, hx.get bx nx]) hr h

theorem M_storeAr {ti : TI} {id j : Nat} {cs cs' : List AV} {sz : Nat} {sl ro : Bool} (ht : ty t = some ti) (hx : Gt env x (.ptr id 0 j)) (hB : box? bx id = some ⟨[.agg cs], sz, sl, ro⟩) (hs : (ti.size == sz) = false) (h1 : ti.size = 1) (hro : ro = false) (hy : Gt env y v)
    (hv : v.cells = [v]) (hk : v.cellOk = true) (hj : Mlen (j < cs.length)) (hset : Mix (cs.set j v = cs')) (h : WX false P ty n ops l ⟨env, (id, some ⟨[.agg cs'], sz, sl, ro⟩) :: bx, nx⟩ K) : WX false P ty n ops (⟨none, .store t x y, tp, pos, aft, none⟩ :: l) ⟨env, bx, nx⟩ K := by
  obtain ⟨rfl⟩ := hset
  have hj := hj.out
  have hne : ¬ (ti.size = sz) := by simpa using hs
  refine S_memN (r := .undef) (nx' := nx) (p := 0 < [AV.agg cs].length ∧ ro = false ∧ okCells ti.size v ∧ j + ti.size ≤ cs.length) ?_ ⟨by simp, hro, ⟨by simp [hv, h1], by simp [hv, hk]⟩, by omega⟩ h
  simp [memStep, hx.get, hy.get, storeStep, ht, hB, hne, hv, splice_one v hj]

class Single (l : List AV) : Prop where
  out : ∀ x ∈ l, x.cells = [x] ∧ x ≠ .undef
instance : Single [] := ⟨fun _ h => by cases h⟩
instance (k : IntKind) (n : Int) (l : List AV) [h : Single l] : Single (.int k n :: l) := ⟨fun x hx => by
  rcases List.mem_cons.1 hx with rfl | hx
  · exact ⟨rfl, fun h => by cases h⟩
  · exact h.out x hx⟩

end

end Go.Av
namespace Go.Av

abbrev u32A (x : UInt32) : AV := .int .u32 (x.toNat : Int)
abbrev w64A (x : UInt32) : AV := .int .i64 (x.toNat : Int)

def rotr (x : UInt32) (n : Nat) : UInt32 := UInt32.ofNat ((x.toNat >>> n ||| x.toNat <<< (32 - n)) % 4294967296)

def word4 (a b c d : UInt8) : UInt32 := (a.toUInt32 <<< 24) ||| (b.toUInt32 <<< 16) ||| (c.toUInt32 <<< 8) ||| d.toUInt32

def mixL : List UInt32 → UInt32 → UInt32 → List UInt32
  | [a, b, c, d, e, f, g, h], w, k =>
    let t1 := h + (rotr e 6 ^^^ rotr e 11 ^^^ rotr e 25) + ((e &&& f) ^^^ (~~~e &&& g)) + k + w
    let t2 := (rotr a 2 ^^^ rotr a 13 ^^^ rotr a 22) + ((a &&& b) ^^^ (a &&& c) ^^^ (b &&& c))
    [t1 + t2, a, b, c, d + t1, e, f, g]
  | l, _, _ => l

def keysL : List UInt32 := [0x428a2f98, 0x71374491, 0xb5c0fbcf, 0xe9b5dba5, 0x3956c25b, 0x59f111f1, 0x923f82a4, 0xab1c5ed5,
  0xd807aa98, 0x12835b01, 0x243185be, 0x550c7dc3, 0x72be5d74, 0x80deb1fe, 0x9bdc06a7, 0xc19bf174,
  0xe49b69c1, 0xefbe4786, 0x0fc19dc6, 0x240ca1cc, 0x2de92c6f, 0x4a7484aa, 0x5cb0a9dc, 0x76f988da,
  0x983e5152, 0xa831c66d, 0xb00327c8, 0xbf597fc7, 0xc6e00bf3, 0xd5a79147, 0x06ca6351, 0x14292967,
  0x27b70a85, 0x2e1b2138, 0x4d2c6dfc, 0x53380d13, 0x650a7354, 0x766a0abb, 0x81c2c92e, 0x92722c85,
  0xa2bfe8a1, 0xa81a664b, 0xc24b8b70, 0xc76c51a3, 0xd192e819, 0xd6990624, 0xf40e3585, 0x106aa070,
  0x19a4c116, 0x1e376c08, 0x2748774c, 0x34b0bcb5, 0x391c0cb3, 0x4ed8aa4a, 0x5b9cca4f, 0x682e6ff3,
  0x748f82ee, 0x78a5636f, 0x84c87814, 0x8cc70208, 0x90befffa, 0xa4506ceb, 0xbef9a3f7, 0xc67178f2]

def startL : List UInt32 := [0x6a09e667, 0xbb67ae85, 0x3c6ef372, 0xa54ff53a, 0x510e527f, 0x9b05688c, 0x1f83d9ab, 0x5be0cd19]

def sig0 (x : UInt32) : UInt32 := rotr x 7 ^^^ rotr x 18 ^^^ (x >>> 3)
def sig1 (y : UInt32) : UInt32 := rotr y 17 ^^^ rotr y 19 ^^^ (y >>> 10)

def wordAt (m : List UInt8) (l : List UInt32) (i : Nat) : UInt32 :=
  if i < 16 then word4 (m.getD (4 * i) 0) (m.getD (4 * i + 1) 0) (m.getD (4 * i + 2) 0) (m.getD (4 * i + 3) 0)
  else sig1 (l.getD (i - 2) 0) + l.getD (i - 7) 0 + sig0 (l.getD (i - 15) 0) + l.getD (i - 16) 0
def wGo (m : List UInt8) : Nat → List UInt32
  | 0 => List.replicate 64 0
  | i + 1 => (wGo m i).set i (wordAt m (wGo m i) i)
def rGo (w : List UInt32) (s : List UInt32) : Nat → List UInt32
  | 0 => s
  | j + 1 => mixL (rGo w s j) (w.getD j 0) (keysL.getD j 0)
def addL (s r : List UInt32) : List UInt32 := List.zipWith (· + ·) s r
def blockL (s : List UInt32) (m : List UInt8) : List UInt32 := addL s (rGo (wGo m 64) s 64)
def shaSt (d : List UInt8) : Nat → List UInt32
  | 0 => startL
  | j + 1 => blockL (shaSt d j) ((d.drop (64 * j)).take 64)
def byteN (n : Nat) : UInt8 := UInt8.ofNat (n % 256)
def len8 (n : Nat) : List UInt8 := [byteN (n >>> 56), byteN (n >>> 48), byteN (n >>> 40), byteN (n >>> 32), byteN (n >>> 24), byteN (n >>> 16), byteN (n >>> 8), byteN n]
def padZ (n : Nat) : Nat := (119 - n % 64) % 64
def padL (d : List UInt8) : List UInt8 := d ++ [128] ++ List.replicate (padZ d.length) 0 ++ len8 (d.length * 8)
def out4 (x : UInt32) : List UInt8 := [byteN (x.toNat >>> 24), byteN (x.toNat >>> 16), byteN (x.toNat >>> 8), byteN x.toNat]
def outL (s : List UInt32) : List UInt8 := s.flatMap out4
def sha (d : List UInt8) : List UInt8 := outL (shaSt (padL d) ((padL d).length / 64))
end Go.Av
namespace Go.Av

section
variable {P : Program} {ty : TypeId → Option TI} {n : Nat} {ops l : List Oper} {K : St → Prop} {tp : TypeId} {pos : String} {aft : Array Edge} {env : List (Nat × AV)} {bx : List (Nat × Option Box)} {nx : Nat} {d : Tmp}
  {t : TypeId} {x y i : Operand} {q : Bool} {v : AV}
theorem M_loadWA {ti : TI} {id j : Nat} {cs : List AV} {sz : Nat} {sl ro : Bool} (ht : ty t = some ti) (ha : isAggK ti.k = true) (hx : Gt env x (.ptr id 0 j)) (hB : box? bx id = some ⟨[.agg cs], sz, sl, ro⟩) (hj : j = 0) (hl : cs.length = ti.size)
    (hd : slotOk n (some d) = true) (h : WX q P ty n ops l ⟨(d, .agg cs) :: env, bx, nx⟩ K) : WX q P ty n ops (⟨some d, .load t x, tp, pos, aft, none⟩ :: l) ⟨env, bx, nx⟩ K :=
  S_loadW ht hx hB rfl hj ha rfl hl hd h
end

class WordF {α : Type} (f : α → AV) : Prop where
  out : ∀ a, (f a).cells = [f a] ∧ (f a).cellOk = true ∧ Flat (f a) ∧ Pure (f a)
instance : WordF u32A := ⟨fun a => ⟨rfl, rfl, flat_int _ _, pure_int _ _⟩⟩
instance : WordF w64A := ⟨fun a => ⟨rfl, rfl, flat_int _ _, pure_int _ _⟩⟩
instance {α : Type} (f : α → AV) (l : List α) [h : WordF f] : CellsC (l.map f) := ⟨fun y hy => by
  obtain ⟨a, _, rfl⟩ := List.mem_map.1 hy
  exact ⟨(h.out a).2.2.2, (h.out a).2.1⟩⟩
instance {α : Type} (f : α → AV) (l : List α) [h : WordF f] : PureLC (l.map f) := ⟨pureAll_of fun y hy => by
  obtain ⟨a, _, rfl⟩ := List.mem_map.1 hy
  exact (h.out a).2.2.2⟩
theorem flatL_of {l : List AV} (h : ∀ y ∈ l, Flat y) : FlatL l := by
  induction l with
  | nil => exact trivial
  | cons a l ih => exact ⟨h a (by simp), ih fun y hy => h y (by simp [hy])⟩
instance {α : Type} (f : α → AV) (l : List α) [h : WordF f] : FlatLC (l.map f) := ⟨flatL_of fun y hy => by
  obtain ⟨a, _, rfl⟩ := List.mem_map.1 hy
  exact (h.out a).2.2.1⟩
def turnL {α : Type} (x r : List α) (i : Nat) : List α := x.take i ++ r.drop i
theorem resL_arr {ty : TypeId → Option TI} {s : St} {a : Nat} {t : TypeId} {ti : TI} {id : Nat} {cs : List AV} {sz : Nat} {sl ro : Bool} {rs : List ResultVar} {xs : List AV} (ht : ty t = some ti) (ha : look s.env a = some (.ptr id 0 0)) (hb : box? s.bx id = some ⟨[.agg cs], sz, sl, ro⟩) (hk : isAggK ti.k = true)
    (hl : cs.length = ti.size) (k : ResL ty s rs xs) : ResL ty s (.cell a t :: rs) (.agg cs :: xs) :=
  resL_cell ht ha hb hk rfl hl k

theorem view_aggP {bx : List (Nat × Option Box)} {cs : List AV} (h : PureAll cs) : View bx (.agg cs) (.agg cs) := .pure (pure_aggL h)

end Go.Av
namespace Go.Av

def ViewE (bx : List (Nat × Option Box)) : List AV → List AV → Prop
  | [], [] => True
  | x :: l, y :: r => (ViewL bx x.cells y.cells ∧ y.cells.all AV.cellOk = true) ∧ ViewE bx l r
  | _, _ => False
theorem ViewE.get {bx : List (Nat × Option Box)} : ∀ {l r : List AV}, ViewE bx l r → r.length = l.length ∧ ∀ (i : Nat) (x y : AV), l[i]? = some x → r[i]? = some y → ViewL bx x.cells y.cells ∧ y.cells.all AV.cellOk = true
  | [], [], _ => ⟨rfl, fun i x y h => by simp at h⟩
  | a :: l, b :: r, h => by
    obtain ⟨h1, h2⟩ := ViewE.get h.2
    refine ⟨by simp [h1], fun i x y hx hy => ?_⟩
    cases i with
    | zero => simp at hx hy; subst hx; subst hy; exact h.1
    | succ i => exact h2 i x y (by simpa using hx) (by simpa using hy)
theorem viewL_pure {bx : List (Nat × Option Box)} : ∀ {l : List AV}, PureAll l → ViewL bx l l
  | [], _ => trivial
  | a :: l, h => ⟨.pure h.1, viewL_pure h.2⟩
def strB (s : ByteArray) : List UInt8 := s.data.toList
end Go.Av
