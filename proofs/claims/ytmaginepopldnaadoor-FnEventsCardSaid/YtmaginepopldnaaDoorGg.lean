/- A small logic for code over pictures of values and boxes: part 7. -/
import Derived.Test.YtmaginepopldnaaDoorGf
set_option linter.unusedSimpArgs false
set_option linter.unusedVariables false
namespace Go.Av

def Flat (x : AV) : Prop := ∀ w φ ok v, Rep w φ ok x v → ∀ w' φ' ok', Rep w' φ' ok' x v

theorem flat_int (k : IntKind) (n : Int) : Flat (.int k n) := fun _ _ _ _ h _ _ _ => by cases h; exact .int _ _
theorem flat_bool (b : Bool) : Flat (.bool b) := fun _ _ _ _ h _ _ _ => by cases h; exact .bool _
theorem flat_str (s : ByteArray) : Flat (.str s) := fun _ _ _ _ h _ _ _ => by cases h; exact .str _
theorem flat_nilp : Flat .nilp := fun _ _ _ _ h _ _ _ => by cases h; exact .nilp
theorem flat_ls0 (st : Nat) (n e : Bool) : Flat (.ls st n e []) := fun w φ ok v h w' φ' ok' => by
  obtain ⟨a, c, rfl⟩ := h.ls_val
  have := h.ls_cells.1
  cases h with | ls _ _ _ _ a c vs hl hn hc hr =>
  exact Rep.mk_ls (xs := []) hl (fun i x h => (by simp at h)) (fun b o h i x j y hx => (by simp at hx))

def FlatL : List AV → Prop
  | [] => True
  | x :: l => Flat x ∧ FlatL l
theorem FlatL.mem : ∀ {l : List AV}, FlatL l → ∀ x ∈ l, Flat x
  | [], _, _, h => by cases h
  | a :: l, h, x, hx => by
    rcases List.mem_cons.1 hx with rfl | hx
    · exact h.1
    · exact FlatL.mem h.2 x hx
theorem flat_agg {cs : List AV} (h : FlatL cs) : Flat (.agg cs) := fun w φ ok v k w' φ' ok' => by
  cases k with | agg _ vs hl hr => exact .agg _ vs hl fun i x v hx hv => h.mem x (List.mem_of_getElem? hx) w φ ok v (hr i x v hx hv) w' φ' ok'
theorem flat_tup {cs : List AV} (h : FlatL cs) : Flat (.tup cs) := fun w φ ok v k w' φ' ok' => by
  cases k with | tup _ vs hl hr => exact .tup _ vs hl fun i x v hx hv => h.mem x (List.mem_of_getElem? hx) w φ ok v (hr i x v hx hv) w' φ' ok'

def Own (x : AV) : Prop := ∀ w φ ok v, Rep w φ ok x v → ∀ w' ok', Rep w' φ ok' x v
theorem Flat.own {x : AV} (h : Flat x) : Own x := fun w φ ok v k w' ok' => h w φ ok v k w' φ ok'
theorem own_ptr (id e k : Nat) : Own (.ptr id e k) := fun w φ ok v h w' ok' => by cases h with | ptr _ _ _ L h1 h2 => exact .ptr _ _ _ L h1 h2
theorem own_sl (id off len cap : Nat) : Own (.sl id off len cap) := fun w φ ok v h w' ok' => by cases h with | sl _ _ _ _ L a c h1 h2 => exact .sl _ _ _ _ L a c h1 h2
def OwnL : List AV → Prop
  | [] => True
  | x :: l => Own x ∧ OwnL l
theorem OwnL.mem : ∀ {l : List AV}, OwnL l → ∀ x ∈ l, Own x
  | [], _, _, h => by cases h
  | a :: l, h, x, hx => by
    rcases List.mem_cons.1 hx with rfl | hx
    · exact h.1
    · exact OwnL.mem h.2 x hx
theorem own_agg {cs : List AV} (h : OwnL cs) : Own (.agg cs) := fun w φ ok v k w' ok' => by
  cases k with | agg _ vs hl hr => exact .agg _ vs hl fun i x v hx hv => h.mem x (List.mem_of_getElem? hx) w φ ok v (hr i x v hx hv) w' ok'
theorem own_tup {cs : List AV} (h : OwnL cs) : Own (.tup cs) := fun w φ ok v k w' ok' => by
  cases k with | tup _ vs hl hr => exact .tup _ vs hl fun i x v hx hv => h.mem x (List.mem_of_getElem? hx) w φ ok v (hr i x v hx hv) w' ok'

def OwnB (N : Nat) (bs : List (Nat × Option Box)) : Prop := (∀ id b, look bs id = some b → N ≤ id) ∧ ∀ id b, box? bs id = some b → ∀ x ∈ b.elems, ∀ y ∈ x.cells, Own y
theorem ownB_nil {N : Nat} : OwnB N [] := ⟨fun id b h => (by cases h), fun id b h => (by cases h)⟩
theorem ownB_cons {N id : Nat} {b : Box} {l : List (Nat × Option Box)} (hid : N ≤ id) (h : ∀ x ∈ b.elems, ∀ y ∈ x.cells, Own y) (k : OwnB N l) : OwnB N ((id, some b) :: l) := by
  refine ⟨fun i c e => ?_, fun i c e => ?_⟩
  · rw [look_cons] at e
    split at e
    · rename_i hi; omega
    · exact k.1 i c e
  · rw [box?_cons] at e
    split at e
    · cases e; exact h
    · exact k.2 i c e
inductive View (bx : List (Nat × Option Box)) : AV → AV → Prop
  | pure {x : AV} (h : Pure x) : View bx x x
  | sl {id off len cap : Nat} {b : Box} {ys : List AV} (hb : box? bx id = some b) (hfit : off + len ≤ b.elems.length) (hl : ys.length = len)
      (hc : ∀ (i : Nat) (x y : AV), b.elems[off + i]? = some x → ys[i]? = some y → y.cells.length = x.cells.length ∧ (∀ d ∈ y.cells, d.cellOk = true))
      (h : ∀ (i : Nat) (x y : AV) (j : Nat) (c d : AV), b.elems[off + i]? = some x → ys[i]? = some y → x.cells[j]? = some c → y.cells[j]? = some d → View bx c d) : View bx (.sl id off len cap) (.ls b.st true false ys)
  | ptr {id e : Nat} {b : Box} {x : AV} {ds : List AV} (hb : box? bx id = some b) (he : b.elems[e]? = some x) (hl : ds.length = x.cells.length) (hk : ∀ d ∈ ds, d.cellOk = true)
      (h : ∀ (j : Nat) (c d : AV), x.cells[j]? = some c → ds[j]? = some d → View bx c d) : View bx (.ptr id e 0) (.vp ds)
  | nothing {st st' : Nat} {n e : Bool} : View bx (.ls st n e []) (.ls st' true false [])
  | ls {st : Nat} {n e n' e' : Bool} {xs ys : List AV} (hf : (n' = n ∧ e' = e) ∨ (n' = true ∧ e' = false)) (hl : ys.length = xs.length)
      (hc : ∀ (i : Nat) (x y : AV), xs[i]? = some x → ys[i]? = some y → y.cells.length = x.cells.length ∧ (∀ d ∈ y.cells, d.cellOk = true))
      (h : ∀ (i : Nat) (x y : AV) (j : Nat) (c d : AV), xs[i]? = some x → ys[i]? = some y → x.cells[j]? = some c → y.cells[j]? = some d → View bx c d) : View bx (.ls st n e xs) (.ls st n' e' ys)
  | agg {cs ds : List AV} (hl : ds.length = cs.length) (h : ∀ (j : Nat) (c d : AV), cs[j]? = some c → ds[j]? = some d → View bx c d) : View bx (.agg cs) (.agg ds)
  | tup {cs ds : List AV} (hl : ds.length = cs.length) (h : ∀ (j : Nat) (c d : AV), cs[j]? = some c → ds[j]? = some d → View bx c d) : View bx (.tup cs) (.tup ds)
  | fn {f : FuncId} {cs ds : List AV} (hl : ds.length = cs.length) (h : ∀ (j : Nat) (c d : AV), cs[j]? = some c → ds[j]? = some d → View bx c d) : View bx (.fn f cs) (.fn f ds)

theorem View.rep {bx bx' : List (Nat × Option Box)} {G : Gh} {nx : Nat} {φ : Nat → Option Loc} {w : World} (hsh : ∀ id b, box? bx id = some b → box? bx' id = some { b with ro := true }) (hrel : Rel G bx' nx φ w) {x y : AV} (r : View bx x y) :
    ∀ {v : Value}, Rep w φ (OK G bx' φ w) x v → Rep w NoLoc (OK G bx' φ w) y v := by
  have okc : ∀ {id : Nat} {b : Box} {L : Loc}, box? bx id = some b → φ id = some L → L.virt = false → ∀ k, L.own k → ∀ o, o < L.lim b.elems.length k → OK G bx' φ w k o := by
    intro id b L hb hL hv k hk o ho
    have hb' : box? bx' id = some { b with ro := true } := hsh _ _ hb
    obtain ⟨L', hL', hB, hm⟩ := hrel.box id _ hb'
    obtain rfl : L = L' := by rw [hL] at hL'; exact Option.some.inj hL'
    refine ⟨hB.lt hv hk, fun id2 box2 L2 h1 h2 hv2 he2 => ?_, fun hlt => ?_⟩
    · by_cases hid : id2 = id
      · subst hid
        rw [hb'] at h1
        obtain rfl := Option.some.inj h1
        rw [hL] at h2
        obtain rfl := Option.some.inj h2
        exact ⟨rfl, ho⟩
      · exact absurd hk (hrel.apart id2 id box2 _ L2 L h1 hb' hid h2 hL hv2 hv _ he2)
    · rcases hm hv _ hk with h | h
      · omega
      · exact .inr h
  induction r with
  | pure h => exact fun k => h _ _ _ _ k
  | @sl id off len cap b ys hb hfit hl hc h ih =>
    intro v hr
    have hb' : box? bx' id = some { b with ro := true } := hsh _ _ hb
    obtain ⟨L, hL, hB, hm⟩ := hrel.box id _ hb'
    cases hr with | sl _ _ _ _ L' a c hL' hS =>
    obtain rfl : L = L' := by rw [hL] at hL'; exact Option.some.inj hL'
    obtain ⟨s1, s2, s3, s4, s5⟩ := hS
    have hst : b.st = L.st := hB.st
    have hle : ∀ (i : Nat) (x : AV), b.elems[i]? = some x → okCells L.st x := hB.len
    have hco : L.virt = false → ∀ (i : Nat) (x : AV) (j : Nat) (y : AV), b.elems[i]? = some x → x.cells[j]? = some y → ∃ v, w.cell? ⟨(L.pos i).1, (L.pos i).2 + j, none⟩ = some v ∧ Rep w φ (OK G bx' φ w) y v := hB.cont
    subst hl
    have hel : ∀ i, i < ys.length → ∃ x, b.elems[off + i]? = some x := fun i hi => ⟨b.elems[off + i], by simp⟩
    have hlen : ∀ (i : Nat) (y : AV), ys[i]? = some y → okCells b.st y := by
      intro i y hi
      obtain ⟨x, hx⟩ := hel i (List.getElem?_eq_some_iff.1 hi).1
      obtain ⟨h1, h2⟩ := hc i x y hx hi
      exact ⟨by rw [h1, hst]; exact (hle _ x hx).1, h2⟩
    by_cases hc0 : c = 0
    · have h0 : ys = [] := by
        have : ys.length = 0 := by omega
        exact List.length_eq_zero_iff.1 this
      subst h0
      subst hc0
      exact Rep.mk_ls (xs := []) ⟨Nat.le_refl _, fun h => (by cases h), fun _ h => (by cases h), fun h => (by cases h), fun h => absurd h (by omega), s4⟩ (fun i x h => (by simp at h)) (fun b o h i x j y hx => (by simp at hx))
    · obtain ⟨s6, ab, ao, s7, s8, s9, s10, s11⟩ := s5 hc0
      subst s7
      refine Rep.mk_ls ⟨by omega, fun h => (by cases h), fun _ h => (by cases h), fun h => (by cases h), fun _ => ⟨_, _, rfl⟩, fun x hx => (by cases hx; rfl)⟩ hlen ?_
      intro b' o' hbo i y j d hy hd
      simp only [Option.some.injEq, Addr.mk.injEq] at hbo
      obtain ⟨rfl, rfl, _⟩ := hbo
      have hi := (List.getElem?_eq_some_iff.1 hy).1
      obtain ⟨x, hx⟩ := hel i hi
      have hj : j < x.cells.length := by rw [← (hc i x y hx hy).1]; exact (List.getElem?_eq_some_iff.1 hd).1
      have hcx : x.cells[j]? = some x.cells[j] := by simp
      obtain ⟨v, e1, e2⟩ := hco s6 (off + i) x j _ hx hcx
      have hjs : j < L.st := by rw [← (hle _ x hx).1]; exact hj
      have hps := s10 i (by omega)
      have hat := ((hB.lies s6).at' (off + i) (List.getElem?_eq_some_iff.1 hx).1).2.2
      rw [hps] at hat
      rw [hps, ← hst] at e1
      refine ⟨v, e1, okc hb hL s6 _ s8 _ ?_, ih i x y j _ d hx hy hcx hd e2⟩
      rw [hst]
      have hat' : ao + i * L.st + L.st ≤ L.lim b.elems.length ab := hat
      omega
  | @ptr id e b x ds hb he hl hk h ih =>
    intro v hr
    have hb' : box? bx' id = some { b with ro := true } := hsh _ _ hb
    obtain ⟨L, hL, hB, hm⟩ := hrel.box id _ hb'
    cases hr with | ptr _ _ _ L' hL' hv =>
    obtain rfl : L = L' := by rw [hL] at hL'; exact Option.some.inj hL'
    have hle := hB.len e x he
    have hel := (List.getElem?_eq_some_iff.1 he).1
    rw [Nat.add_zero]
    have hcell : ∀ j, j < ds.length → ∃ u, w.cell? ⟨(L.pos e).1, (L.pos e).2 + j, none⟩ = some u ∧ ∀ d, ds[j]? = some d → Rep w NoLoc (OK G bx' φ w) d u := by
      intro j hj
      have hj' : j < x.cells.length := by omega
      obtain ⟨u, e1, e2⟩ := hB.cont hv e x j x.cells[j] he (by simp)
      exact ⟨u, e1, fun d hd => ih j _ d (by simp) hd e2⟩
    have hat := (hB.lies hv).at' e hel
    refine .vp (L.pos e).1 (L.pos e).2 ds (fun j => (w.cell? ⟨(L.pos e).1, (L.pos e).2 + j, none⟩).getD Go.undef) hk (fun j hj => ?_) (fun j d hd => ?_)
    · obtain ⟨u, e1, _⟩ := hcell j hj
      refine ⟨by rw [e1]; rfl, okc hb hL hv _ hat.1 _ ?_⟩
      have hst := hle.1
      have hat2 : (L.pos e).2 + L.st ≤ L.lim b.elems.length (L.pos e).1 := hat.2.2
      omega
    · have hj := (List.getElem?_eq_some_iff.1 hd).1
      obtain ⟨u, e1, e2⟩ := hcell j hj
      simp only [e1, Option.getD_some]
      exact e2 d hd
  | @nothing st st' n e =>
    intro v hr
    obtain ⟨a, c, rfl⟩ := hr.ls_val
    obtain ⟨_, g2, _⟩ := hr.ls_cells
    exact Rep.mk_ls (xs := []) g2.loose (fun i x h => (by simp at h)) (fun b o h i x j y hx => (by simp at hx))
  | @ls st n e n' e' xs ys hf hl hc h ih =>
    intro v hr
    obtain ⟨a, c, rfl⟩ := hr.ls_val
    have hlen := hr.ls_len
    obtain ⟨_, g2, g3⟩ := hr.ls_cells
    rw [← hl]
    rw [← hl] at g2
    replace g2 : LsOk n' e' ys.length a c := by
      rcases hf with ⟨rfl, rfl⟩ | ⟨rfl, rfl⟩
      · exact g2
      · exact g2.loose
    refine Rep.mk_ls g2 (fun i y hy => ?_) (fun b o hbo i y j d hy hd => ?_)
    · have hi : i < xs.length := by rw [← hl]; exact (List.getElem?_eq_some_iff.1 hy).1
      obtain ⟨k1, k2⟩ := hc i xs[i] y (by simp) hy
      exact ⟨by rw [k1]; exact (hlen i xs[i] (by simp)).1, k2⟩
    · have hi : i < xs.length := by rw [← hl]; exact (List.getElem?_eq_some_iff.1 hy).1
      obtain ⟨k1, k2⟩ := hc i xs[i] y (by simp) hy
      have hj : j < (xs[i]).cells.length := by rw [← k1]; exact (List.getElem?_eq_some_iff.1 hd).1
      obtain ⟨v, e1, e2, e3⟩ := g3 b o hbo i xs[i] j (xs[i]).cells[j] (by simp) (by simp)
      exact ⟨v, e1, e2, ih i xs[i] y j _ d (by simp) hy (by simp) hd e3⟩
  | @agg cs ds hl h ih =>
    intro v hr
    cases hr with | agg _ vs h1 h2 =>
    refine .agg _ vs (by omega) fun i d v hd hv => ?_
    have hi : i < cs.length := by rw [← hl]; exact (List.getElem?_eq_some_iff.1 hd).1
    exact ih i cs[i] d (by simp) hd (h2 i _ v (by simp) hv)
  | @tup cs ds hl h ih =>
    intro v hr
    cases hr with | tup _ vs h1 h2 =>
    refine .tup _ vs (by omega) fun i d v hd hv => ?_
    have hi : i < cs.length := by rw [← hl]; exact (List.getElem?_eq_some_iff.1 hd).1
    exact ih i cs[i] d (by simp) hd (h2 i _ v (by simp) hv)
  | @fn f cs ds hl h ih =>
    intro v hr
    cases hr with | fn _ _ vs h1 h2 =>
    refine .fn _ _ vs (by omega) fun i d v hd hv => ?_
    have hi : i < cs.length := by rw [← hl]; exact (List.getElem?_eq_some_iff.1 hd).1
    exact ih i cs[i] d (by simp) hd (h2 i _ v (by simp) hv)

theorem sh_all (bx : List (Nat × Option Box)) : ∀ id b, box? bx id = some b → box? (shareAll bx) id = some { b with ro := true } := fun id b h => by rw [box?_shareAll, h]; rfl

def ViewL (bx : List (Nat × Option Box)) : List AV → List AV → Prop
  | [], [] => True
  | x :: l, y :: r => View bx x y ∧ ViewL bx l r
  | _, _ => False
theorem View.stay {bx bx' : List (Nat × Option Box)} (hk : Stay bx bx') {x y : AV} (h : View bx x y) : View bx' x y := by
  induction h with
  | pure h => exact .pure h
  | sl hb hfit hl hc h ih => exact .sl (hk _ _ hb) hfit hl hc ih
  | ptr hb he hl hkk h ih => exact .ptr (hk _ _ hb) he hl hkk ih
  | nothing => exact .nothing
  | ls hf hl hc h ih => exact .ls hf hl hc ih
  | agg hl h ih => exact .agg hl ih
  | tup hl h ih => exact .tup hl ih
  | fn hl h ih => exact .fn hl ih
theorem ViewL.stay {bx bx' : List (Nat × Option Box)} (hk : Stay bx bx') : ∀ {xs ys : List AV}, ViewL bx xs ys → ViewL bx' xs ys
  | [], [], _ => trivial
  | _ :: _, _ :: _, h => ⟨h.1.stay hk, ViewL.stay hk h.2⟩
  | [], _ :: _, h => h.elim
  | _ :: _, [], h => h.elim
theorem viewL_nil {bx : List (Nat × Option Box)} : ViewL bx [] [] := trivial
theorem viewL_cons {bx : List (Nat × Option Box)} {x y : AV} {l r : List AV} (h : View bx x y) (k : ViewL bx l r) : ViewL bx (x :: l) (y :: r) := ⟨h, k⟩
theorem ViewL.get {bx : List (Nat × Option Box)} : ∀ {l r : List AV}, ViewL bx l r → r.length = l.length ∧ ∀ (i : Nat) (x y : AV), l[i]? = some x → r[i]? = some y → View bx x y
  | [], [], _ => ⟨rfl, fun i x y h => by simp at h⟩
  | a :: l, b :: r, h => by
    obtain ⟨h1, h2⟩ := ViewL.get h.2
    refine ⟨by simp [h1], fun i x y hx hy => ?_⟩
    cases i with
    | zero => simp at hx hy; subst hx; subst hy; exact h.1
    | succ i => exact h2 i x y (by simpa using hx) (by simpa using hy)
theorem view_agg {bx : List (Nat × Option Box)} {cs ds : List AV} (h : ViewL bx cs ds) : View bx (.agg cs) (.agg ds) := .agg h.get.1 h.get.2
theorem view_tup {bx : List (Nat × Option Box)} {cs ds : List AV} (h : ViewL bx cs ds) : View bx (.tup cs) (.tup ds) := .tup h.get.1 h.get.2
theorem view_sl {bx : List (Nat × Option Box)} {id off len cap : Nat} {b : Box} {ys : List AV} (hb : box? bx id = some b) (hfit : off + len ≤ b.elems.length) (hp : ∀ x ∈ b.elems, PureAll x.cells ∧ x.cells.all AV.cellOk = true)
    (e : (b.elems.drop off).take len = ys) : View bx (.sl id off len cap) (.ls b.st true false ys) := by
  subst e
  have hlen : ((b.elems.drop off).take len).length = len := by simp; omega
  have hx : ∀ (i : Nat) (x y : AV), b.elems[off + i]? = some x → ((b.elems.drop off).take len)[i]? = some y → y = x := by
    intro i x y h1 h2
    have := (List.getElem?_eq_some_iff.1 h2).1
    rw [hlen] at this
    rw [List.getElem?_take_of_lt this, List.getElem?_drop, h1] at h2
    exact (Option.some.inj h2).symm
  refine .sl hb hfit hlen (fun i x y h1 h2 => ?_) (fun i x y j c d h1 h2 h3 h4 => ?_)
  · obtain rfl := hx i x y h1 h2
    exact ⟨rfl, fun d hd => List.all_eq_true.1 (hp _ (List.mem_of_getElem? h1)).2 d hd⟩
  · obtain rfl := hx i x y h1 h2
    rw [h3] at h4
    obtain rfl := Option.some.inj h4
    exact .pure ((hp _ (List.mem_of_getElem? h1)).1.mem _ (List.mem_of_getElem? h3))
theorem view_ptr {bx : List (Nat × Option Box)} {id e : Nat} {b : Box} {x : AV} {ds : List AV} (hb : box? bx id = some b) (he : b.elems[e]? = some x) (h : ViewL bx x.cells ds) (hk : ds.all AV.cellOk = true) : View bx (.ptr id e 0) (.vp ds) :=
  .ptr hb he h.get.1 (fun d hd => List.all_eq_true.1 hk d hd) h.get.2

section
variable {P : Program} {f : FuncId} {bs : List (Nat × Option Box)} {nx : Nat} {xs ys : List AV}

theorem Rel.shared {G : Gh} {φ : Nat → Option Loc} {w : World} (hrel : Rel G bs nx φ w) : Adv G bs φ w (shareAll bs) nx φ w :=
  hrel.weaken (bx' := shareAll bs) (Nat.le_refl _) (fun id b' h => by
    rw [box?_shareAll] at h
    simp only [Option.map_eq_some_iff] at h
    obtain ⟨b, h1, rfl⟩ := h
    exact ⟨b, h1, rfl, rfl, rfl, fun _ => rfl⟩)

theorem ViewL.repAll {G : Gh} {φ : Nat → Option Loc} {w : World} {vs : List Value} (hrel : Rel G bs nx φ w) (hA : RepAll w φ (OK G bs φ w) xs vs) (hv : ViewL bs xs ys) : RepAll w NoLoc (OK G (shareAll bs) φ w) ys vs := by
  have hS := hrel.shared
  obtain ⟨h1, h2⟩ := hv.get
  refine ⟨by rw [hA.1, h1], fun i y v hy hvv => ?_⟩
  have hi : i < xs.length := by rw [← h1]; exact (List.getElem?_eq_some_iff.1 hy).1
  exact (h2 i xs[i] y (by simp) hy).rep (sh_all _) hS.rel (hS.rep (hA.2 i xs[i] v (by simp) hvv))

theorem CV.lend {R : AV → Prop} (h : CV P f ys R) (hv : ViewL bs xs ys) (hR : ∀ r, R r → Flat r) : CallS P f bs nx xs (fun r b n => R r ∧ b = bs ∧ n = nx) := by
  refine ⟨h.1, fun G φ w vs hrel hA => ?_⟩
  have hS := hrel.shared
  refine (h.2 (OK G (shareAll bs) φ w) w vs (fun b o k => k.1) (hv.repAll hrel hA)).mono ?_
  rintro e w' ⟨v, r, rfl, hr, hE, hrep⟩
  exact ⟨v, r, bs, nx, φ, rfl, ⟨hr, rfl, rfl⟩, ⟨hrel.ext hE, fun b o k => k.ext hE, fun _ _ k => k⟩, hR r hr _ _ _ _ hrep _ _ _⟩

theorem CR.lend {R : AV → List (Nat × Option Box) → Nat → Prop} (h : CR P f ys [] nx R) (hv : ViewL bs xs ys) (hR : ∀ r b n, R r b n → Own r ∧ OwnB nx b) : CallS P f bs nx xs (fun r b n => ∃ b0, R r b0 n ∧ b = b0 ++ bs) := by
  refine ⟨h.1, fun G φ w vs hrel hA => ?_⟩
  have hS := hrel.shared
  have hV := hv.repAll hrel hA
  let G2 : Gh := ⟨w, OK G (shareAll bs) φ w, fun _ => False, 0, φ, nx⟩
  have hrel2 : Rel G2 [] nx φ w :=
    ⟨rfl, rfl, rfl, Nat.le_refl _, fun _ _ _ => rfl, fun _ _ _ => rfl, fun b o k => ⟨k.1, fun id box L hb => (by cases hb)⟩, fun id b hb => (by cases hb), fun id id' b b' L L' hb => (by cases hb), hrel.dom, fun _ _ => rfl, Nat.le_refl _⟩
  refine (h.2 G2 φ w vs rfl rfl rfl hrel2 ⟨hV.1, fun i y v hy hvv => (hV.2 i y v hy hvv).mono (fun b o k => ⟨⟨k.1, fun id box L hb => (by cases hb), fun _ => .inl k⟩, rfl⟩) (fun id L k => (by cases k))⟩).mono ?_
  rintro e w' ⟨v, r, b0, nx', φ', rfl, hr, hrel', hrep⟩
  obtain ⟨hown, hlo, hob⟩ := hR r b0 nx' hr
  have hloc : ∀ id L, φ id = some L → φ' id = some L := by
    intro id L h
    have : id < nx := by
      rcases Nat.lt_or_ge id nx with k | k
      · exact k
      · rw [hrel.dom id k] at h; cases h
    rw [hrel'.agree id this]; exact h
  have hblock : ∀ b, b < w.heap.size → w'.heap[b]? = w.heap[b]? := fun b hb => hrel'.frame b hb (fun k => k)
  have hE : Ext w w' := ⟨hrel'.os, hrel'.tape, hrel'.output, hrel'.size, hblock⟩
  have hbx : ∀ id b, box? (b0 ++ bs) id = some b → box? b0 id = some b ∨ (look b0 id = none ∧ box? bs id = some b) := by
    intro id b h
    rw [box?_append] at h
    cases hl : look b0 id with
    | some o => rw [hl] at h; left; simp only [box?, hl]; exact h
    | none => rw [hl] at h; exact .inr ⟨rfl, h⟩
  have hnew : ∀ id b L, box? b0 id = some b → φ' id = some L → L.virt = false → ∀ k, L.own k → w.heap.size ≤ k := by
    intro id b L h1 h2 h3 kb hkb
    obtain ⟨L', hL', _, hm⟩ := hrel'.box id b h1
    obtain rfl : L = L' := by rw [h2] at hL'; exact Option.some.inj hL'
    rcases hm h3 kb hkb with k | k
    · exact k
    · exact k.elim
  have hold : ∀ id b, box? bs id = some b → ∃ L, φ id = some L ∧ φ' id = some L ∧ (L.virt = false → ∀ k, L.own k → k < w.heap.size) := by
    intro id b h1
    obtain ⟨L, hL, hB, _⟩ := hrel.box id b h1
    exact ⟨L, hL, hloc _ _ hL, fun hv k hk => hB.lt hv hk⟩
  have hcell : ∀ b o, OK G bs φ w b o → OK G (b0 ++ bs) φ' w' b o ∧ w'.cell? ⟨b, o, none⟩ = w.cell? ⟨b, o, none⟩ := by
    intro b o k
    refine ⟨⟨Nat.lt_of_lt_of_le k.1 hE.size, fun id box L h1 h2 hvt he => ?_, k.2.2⟩, hE.cell k.1 o⟩
    rcases hbx id box h1 with h3 | ⟨_, h3⟩
    · have := hnew id box L h3 h2 hvt _ he
      have := k.1
      omega
    · obtain ⟨L', g1, g2, _⟩ := hold id box h3
      obtain rfl : L = L' := by rw [h2] at g2; exact Option.some.inj g2
      exact k.2.1 id box L h3 g1 hvt he
  refine ⟨v, r, b0 ++ bs, nx', φ', rfl, ⟨b0, hr, rfl⟩, ⟨⟨hE.os.trans hrel.os, hE.tape.trans hrel.tape, hE.output.trans hrel.output, Nat.le_trans hrel.size hE.size, fun b hb hw => (hblock b (Nat.lt_of_lt_of_le hb hrel.size)).trans (hrel.frame b hb hw), fun b o k => ?_, fun b o k => ?_, fun id b hb => ?_, fun id id' b b' L L' hb hb' hne hL hL' hv1 hv2 kb q1 q2 => ?_, hrel'.dom, fun id hid => ?_, Nat.le_trans hrel.nxle hrel'.nxle⟩, hcell, hloc⟩, hown _ _ _ _ hrep _ _⟩
  · exact (hcell b o (hrel.ok_of_ok0 k)).2.trans (hrel.kept b o k)
  · exact ⟨(hrel.okk b o k).1, (hcell b o (hrel.ok_of_ok0 k)).1.2.1⟩
  · rcases hbx id b hb with h3 | ⟨_, h3⟩
    · obtain ⟨L, hL, hB, hm⟩ := hrel'.box id b h3
      refine ⟨L, hL, ⟨hB.st, hB.slack, hB.len, hB.virt, hB.lies, fun hvt i x j y hx hy => ?_⟩, fun hvt k hk => .inl (Nat.le_trans hrel.size (hnew id b L h3 hL hvt k hk))⟩
      obtain ⟨u, e1, e2⟩ := hB.cont hvt i x j y hx hy
      exact ⟨u, e1, hob id b h3 x (List.mem_of_getElem? hx) y (List.mem_of_getElem? hy) _ _ _ _ e2 _ _⟩
    · obtain ⟨L, hL, hB, hm⟩ := hrel.box id b h3
      exact ⟨L, hloc _ _ hL, hB.mono hcell hloc (fun hvt k hk => hblock _ (hB.lt hvt hk)), hm⟩
  · rcases hbx id b hb with h3 | ⟨_, h3⟩
    · rcases hbx id' b' hb' with g3 | ⟨_, g3⟩
      · exact hrel'.apart id id' b b' L L' h3 g3 hne hL hL' hv1 hv2 kb q1 q2
      · obtain ⟨L2, g1, g2, g4⟩ := hold id' b' g3
        obtain rfl : L' = L2 := by rw [hL'] at g2; exact Option.some.inj g2
        have := hnew id b L h3 hL hv1 _ q1
        have := g4 hv2 _ q2
        omega
    · obtain ⟨L2, g1, g2, g4⟩ := hold id b h3
      obtain rfl : L = L2 := by rw [hL] at g2; exact Option.some.inj g2
      rcases hbx id' b' hb' with k3 | ⟨_, k3⟩
      · have := hnew id' b' L' k3 hL' hv2 _ q2
        have := g4 hv1 _ q1
        omega
      · obtain ⟨L3, j1, j2, _⟩ := hold id' b' k3
        obtain rfl : L' = L3 := by rw [hL'] at j2; exact Option.some.inj j2
        exact hrel.apart id id' b b' L L' h3 k3 hne g1 j1 hv1 hv2 kb q1 q2
  · have : id < nx := Nat.lt_of_lt_of_le hid hrel.nxle
    rw [hrel'.agree id this]
    exact hrel.agree id hid

theorem CR.toCV {R : AV → List (Nat × Option Box) → Nat → Prop} {r : AV} (h : CR P f xs [] 0 R) (hR : ∀ r0 b n, R r0 b n → View b r0 r) : CV P f xs (· = r) := by
  refine ⟨h.1, fun ok0 w vs hok hA => ?_⟩
  let G : Gh := ⟨w, ok0, fun _ => False, 0, NoLoc, 0⟩
  have hrel : Rel G [] 0 NoLoc w :=
    ⟨rfl, rfl, rfl, Nat.le_refl _, fun _ _ _ => rfl, fun _ _ _ => rfl, fun b o k => ⟨hok b o k, fun id box L hb => (by cases hb)⟩, fun id b hb => (by cases hb), fun id id' b b' L L' hb => (by cases hb), fun _ _ => rfl, fun _ _ => rfl, Nat.le_refl _⟩
  refine (h.2 G NoLoc w vs rfl rfl rfl hrel ⟨hA.1, fun i x v hx hv => (hA.2 i x v hx hv).mono (fun b o k => ⟨⟨hok b o k, fun id box L h => (by cases h), fun _ => .inl k⟩, rfl⟩) (fun _ _ h => h)⟩).mono ?_
  rintro e w' ⟨v, r0, b, n, φ', rfl, hr, hrel', hrep⟩
  have hS := hrel'.shared
  refine ⟨v, r, rfl, rfl, ⟨hrel'.os, hrel'.tape, hrel'.output, hrel'.size, fun b hb => hrel'.frame b hb (fun k => k)⟩, ((hR r0 b n hr).rep (sh_all _) hS.rel (hS.rep hrep)).mono (fun b o k => ⟨⟨k.1, fun hlt => ?_⟩, rfl⟩) (fun _ _ h => h)⟩
  rcases k.2.2 hlt with k | k
  · exact k
  · exact k.elim
end

end Go.Av
namespace Go.Av

theorem Rep.pull {ρ : Nat → Nat} {w : World} {φ : Nat → Option Loc} {ok : Nat → Nat → Prop} {x x' : AV} (r : Ren ρ x x') : ∀ {v : Value}, Rep w φ ok x' v → Rep w (fun i => φ (ρ i)) ok x v := by
  induction r with
  | pure h => exact fun k => (h w φ ok _ k).mono (fun _ _ h => ⟨h, rfl⟩) (fun id L e => by cases e)
  | ptr id e k => intro v h; cases h with | ptr _ _ _ L h1 h2 => exact .ptr _ _ _ L h1 h2
  | sl id off len cap => intro v h; cases h with | sl _ _ _ _ L a c h1 h2 => exact .sl _ _ _ _ L a c h1 h2
  | agg hl _ ih =>
    intro v h
    cases h with | agg _ vs h1 h2 =>
    refine .agg _ vs (by omega) fun i x v hx hv => ?_
    rename_i cs cs' _
    have hi : i < cs'.length := by rw [hl]; exact (List.getElem?_eq_some_iff.1 hx).1
    exact ih i x cs'[i] hx (by simp) (h2 i _ v (by simp) hv)
  | tup hl _ ih =>
    intro v h
    cases h with | tup _ vs h1 h2 =>
    refine .tup _ vs (by omega) fun i x v hx hv => ?_
    rename_i cs cs' _
    have hi : i < cs'.length := by rw [hl]; exact (List.getElem?_eq_some_iff.1 hx).1
    exact ih i x cs'[i] hx (by simp) (h2 i _ v (by simp) hv)
  | fn f hl _ ih =>
    intro v h
    cases h with | fn _ _ vs h1 h2 =>
    refine .fn f _ vs (by omega) fun i x v hx hv => ?_
    rename_i cs cs' _
    have hi : i < cs'.length := by rw [hl]; exact (List.getElem?_eq_some_iff.1 hx).1
    exact ih i x cs'[i] hx (by simp) (h2 i _ v (by simp) hv)

theorem RenBs.fwd {ρ : Nat → Nat} (inj : ∀ a b, ρ a = ρ b → a = b) : ∀ {l r : List (Nat × Option Box)}, RenBs ρ l r → ∀ id b, box? l id = some b → ∃ b', box? r (ρ id) = some b' ∧ RenBox ρ b b'
  | [], [], _, id, b, h => by cases h
  | (i, b) :: l, (k, c) :: r, h, id, b0, e => by
    obtain ⟨rfl, h2, h3⟩ := h
    rw [box?_cons] at e
    split at e
    · rename_i hk
      subst hk
      cases b with
      | none => cases e
      | some b =>
        cases e
        cases c with
        | none => exact h2.elim
        | some c => exact ⟨c, by rw [box?_cons, if_pos rfl], h2⟩
    · rename_i hk
      obtain ⟨b', g2, g3⟩ := RenBs.fwd inj h3 id b0 e
      exact ⟨b', by rw [box?_cons, if_neg (fun hh => hk (inj _ _ hh))]; exact g2, g3⟩
  | [], _ :: _, h, _, _, _ => h.elim
  | _ :: _, [], h, _, _, _ => h.elim

theorem CR.ren {P : Program} {f : FuncId} {args args' : List AV} {bs bs' : List (Nat × Option Box)} {R0 R : AV → List (Nat × Option Box) → Nat → Prop} (ρ : Nat → Nat) (inj : ∀ a b, ρ a = ρ b → a = b) {m N : Nat}
    (hlow : ∀ i, i < m → ρ i < N) (hhigh : ∀ i, m ≤ i → ρ i = N + (i - m)) (h : CR P f args bs m R0) (ha : RenL ρ args args') (hb : RenBs ρ bs bs')
    (hren : ∀ r0 b0 n0, R0 r0 b0 n0 → m ≤ n0 ∧ ∃ r b, Ren ρ r0 r ∧ RenBs ρ b0 b ∧ R r b (N + (n0 - m))) : CR P f args' bs' N R := by
  obtain ⟨hE, h⟩ := h
  refine ⟨hE, fun G φ w vs h0 h1 h2 hrel hA => ?_⟩
  subst h0
  subst h1
  let φ1 : Nat → Option Loc := fun i => G.φ0 (ρ i)
  have hokB : ∀ b o, okB bs' G.φ0 b o → okB bs φ1 b o := by
    intro b o k id box L hbx hL hv he
    obtain ⟨b', g1, g2⟩ := hb.fwd inj id box hbx
    have := k (ρ id) b' L g1 hL hv he
    rw [g2.ro, g2.len] at this
    exact this
  have hok : ∀ b o, OK G bs' G.φ0 G.w0 b o → OK ⟨G.w0, G.ok0, G.wr, G.n, φ1, m⟩ bs φ1 G.w0 b o := fun b o k => ⟨k.1, hokB b o k.2.1, k.2.2⟩
  have rep0 : ∀ {x x' : AV} {u : Value}, Ren ρ x x' → Rep G.w0 G.φ0 (OK G bs' G.φ0 G.w0) x' u → Rep G.w0 φ1 (OK ⟨G.w0, G.ok0, G.wr, G.n, φ1, m⟩ bs φ1 G.w0) x u := fun hx hu =>
    (Rep.pull hx hu).mono (fun b o k => ⟨hok b o k, rfl⟩) (fun _ _ e => e)
  have hrel1 : Rel ⟨G.w0, G.ok0, G.wr, G.n, φ1, m⟩ bs m φ1 G.w0 := by
    refine ⟨hrel.os, hrel.tape, hrel.output, hrel.size, hrel.frame, hrel.kept, fun b o k => ⟨(hrel.okk b o k).1, hokB b o (hrel.okk b o k).2⟩, fun id b hbx => ?_, fun id id' b b' L L' hb1 hb2 hne hL hL' hv hv' => ?_, fun id hid => ?_, fun id hid => rfl, Nat.le_refl _⟩
    · obtain ⟨b', g1, g2⟩ := hb.fwd inj id b hbx
      obtain ⟨L, hL, hB, hm⟩ := hrel.box (ρ id) b' g1
      have gl := g2.len
      refine ⟨L, hL, ⟨by rw [← g2.st]; exact hB.st, by rw [← g2.slack]; exact hB.slack, fun i x hx => ?_, fun hv => ?_, fun hv => by rw [← gl]; exact hB.lies hv, fun hv i x j y hx hy => ?_⟩, hm⟩
      · have hi : i < b'.elems.length := by rw [gl]; exact (List.getElem?_eq_some_iff.1 hx).1
        have hx' : b'.elems[i]? = some b'.elems[i] := by simp
        have hc := (g2.el i x _ hx hx').get
        have ho := hB.len i _ hx'
        refine ⟨by rw [← hc.1]; exact ho.1, fun y hy => ?_⟩
        obtain ⟨j, hj⟩ := List.mem_iff_getElem?.1 hy
        have hjl : j < (b'.elems[i]).cells.length := by rw [hc.1]; exact (List.getElem?_eq_some_iff.1 hj).1
        have hy' : (b'.elems[i]).cells[j]? = some (b'.elems[i]).cells[j] := by simp
        rw [← (hc.2 j y _ hj hy').cellOk]
        exact ho.2 _ (List.mem_of_getElem? hy')
      · have := hB.virt hv
        rw [this] at gl
        exact List.length_eq_zero_iff.1 (by simpa using gl.symm)
      · have hi : i < b'.elems.length := by rw [gl]; exact (List.getElem?_eq_some_iff.1 hx).1
        have hx' : b'.elems[i]? = some b'.elems[i] := by simp
        have hc := (g2.el i x _ hx hx').get
        have hjl : j < (b'.elems[i]).cells.length := by rw [hc.1]; exact (List.getElem?_eq_some_iff.1 hy).1
        have hy' : (b'.elems[i]).cells[j]? = some (b'.elems[i]).cells[j] := by simp
        obtain ⟨u, e1, e2⟩ := hB.cont hv i _ j _ hx' hy'
        exact ⟨u, e1, rep0 (hc.2 j y _ hy hy') e2⟩
    · obtain ⟨c, g1, g2⟩ := hb.fwd inj id b hb1
      obtain ⟨c', g1', g2'⟩ := hb.fwd inj id' b' hb2
      exact hrel.apart (ρ id) (ρ id') c c' L L' g1 g1' (fun e => hne (inj _ _ e)) hL hL' hv hv'
    · simp only [φ1]
      rw [hhigh id hid]
      exact hrel.dom _ (by omega)
  have hA1 : RepAll G.w0 φ1 (OK ⟨G.w0, G.ok0, G.wr, G.n, φ1, m⟩ bs φ1 G.w0) args vs.toList := by
    obtain ⟨k1, k2⟩ := ha.get
    refine ⟨by rw [hA.1, k1], fun i x v e1 e2 => ?_⟩
    have hi : i < args'.length := by rw [k1]; exact (List.getElem?_eq_some_iff.1 e1).1
    exact rep0 (k2 i x args'[i] e1 (by simp)) (hA.2 i args'[i] v (by simp) e2)
  refine (h ⟨G.w0, G.ok0, G.wr, G.n, φ1, m⟩ φ1 G.w0 vs rfl rfl rfl hrel1 hA1).mono ?_
  rintro e w' ⟨v, r0, b0, n0, φ2, rfl, hR, hrel', hr⟩
  obtain ⟨hmn, r, bs2, hr1, hbs, hR'⟩ := hren r0 b0 n0 hR
  have hag : ∀ id, id < m → φ2 id = G.φ0 (ρ id) := fun id hid => hrel'.agree id hid
  let φ' : Nat → Option Loc := fun j => if j < N then G.φ0 j else φ2 (m + (j - N))
  have hφ' : ∀ id, φ' (ρ id) = φ2 id := by
    intro id
    simp only [φ']
    by_cases hid : id < m
    · rw [if_pos (hlow id hid), hag id hid]
    · rw [hhigh id (by omega), if_neg (by omega)]
      congr 1
      omega
  have hφ : ∀ id L, φ2 id = some L → φ' (ρ id) = some L := fun id L e => by rw [hφ']; exact e
  have hok' : ∀ b o, OK ⟨G.w0, G.ok0, G.wr, G.n, φ1, m⟩ b0 φ2 w' b o → OK G bs2 φ' w' b o := by
    intro b o hk
    refine ⟨hk.1, fun j box L hb hL hv hbl => ?_, hk.2.2⟩
    obtain ⟨id, b1, rfl, g2, g3⟩ := hbs.box inj j box hb
    rw [hφ'] at hL
    have := hk.2.1 id b1 L g2 hL hv hbl
    rw [g3.ro, g3.len]
    exact this
  have rep : ∀ {x x' : AV} {u : Value}, Ren ρ x x' → Rep w' φ2 (OK ⟨G.w0, G.ok0, G.wr, G.n, φ1, m⟩ b0 φ2 w') x u → Rep w' φ' (OK G bs2 φ' w') x' u := fun hx hu =>
    (Rep.ren hφ hx hu).mono (fun b o hk => ⟨hok' b o hk, rfl⟩) (fun id L e => e)
  refine ⟨v, r, bs2, N + (n0 - m), φ', rfl, hR', ?_, rep hr1 hr⟩
  refine ⟨hrel'.os, hrel'.tape, hrel'.output, hrel'.size, hrel'.frame, hrel'.kept, fun b o hk => ⟨(hrel'.okk b o hk).1, fun j box L hb hL hv hbl => ?_⟩, fun j b' hb => ?_, fun j j' b b' L L' hb hb' hne hL hL' hv hv' => ?_, fun id hid => ?_, fun id hid => ?_, ?_⟩
  · obtain ⟨id, b1, rfl, g2, g3⟩ := hbs.box inj j box hb
    rw [hφ'] at hL
    have := (hrel'.okk b o hk).2 id b1 L g2 hL hv hbl
    rw [g3.ro, g3.len]
    exact this
  · obtain ⟨id, b1, rfl, g2, g3⟩ := hbs.box inj j b' hb
    obtain ⟨L, hL, hB, hm⟩ := hrel'.box id b1 g2
    refine ⟨L, hφ _ _ hL, ⟨by rw [g3.st]; exact hB.st, by rw [g3.slack]; exact hB.slack, fun i x' hx' => ?_, fun hv => ?_, fun hv => ?_, fun hv i x' j y' hx' hy' => ?_⟩, hm⟩
    · have hi : i < b1.elems.length := by rw [← g3.len]; exact (List.getElem?_eq_some_iff.1 hx').1
      have hx : b1.elems[i]? = some b1.elems[i] := by simp
      have hc := (g3.el i _ x' hx hx').get
      have ho := hB.len i _ hx
      refine ⟨by rw [hc.1]; exact ho.1, fun y' hy' => ?_⟩
      obtain ⟨j, hj⟩ := List.mem_iff_getElem?.1 hy'
      have hjl : j < (b1.elems[i]).cells.length := by rw [← hc.1]; exact (List.getElem?_eq_some_iff.1 hj).1
      have hy : (b1.elems[i]).cells[j]? = some (b1.elems[i]).cells[j] := by simp
      rw [(hc.2 j _ y' hy hj).cellOk]
      exact ho.2 _ (List.mem_of_getElem? hy)
    · have := hB.virt hv
      have hl := g3.len
      rw [this] at hl
      exact List.length_eq_zero_iff.1 (by simpa using hl)
    · rw [g3.len]; exact hB.lies hv
    · have hi : i < b1.elems.length := by rw [← g3.len]; exact (List.getElem?_eq_some_iff.1 hx').1
      have hx : b1.elems[i]? = some b1.elems[i] := by simp
      have hc := (g3.el i _ x' hx hx').get
      have hjl : j < (b1.elems[i]).cells.length := by rw [← hc.1]; exact (List.getElem?_eq_some_iff.1 hy').1
      have hy : (b1.elems[i]).cells[j]? = some (b1.elems[i]).cells[j] := by simp
      obtain ⟨u, e1, e2⟩ := hB.cont hv i _ j _ hx hy
      exact ⟨u, e1, rep (hc.2 j _ y' hy hy') e2⟩
  · obtain ⟨id, b1, rfl, g2, g3⟩ := hbs.box inj j b hb
    obtain ⟨id', b1', rfl, g2', g3'⟩ := hbs.box inj j' b' hb'
    rw [hφ'] at hL hL'
    exact hrel'.apart id id' b1 b1' L L' g2 g2' (fun e => hne (by rw [e])) hL hL' hv hv'
  · simp only [φ']
    rw [if_neg (by omega)]
    exact hrel'.dom _ (by omega)
  · simp only [φ']
    have : id < N := by simpa [h2] using hid
    rw [if_pos this]
  · have : G.nx0 = N := h2
    omega

def nameOf (ids : List Nat) (N : Nat) (i : Nat) : Nat := if i < ids.length then ids.getD i 0 else N + (i - ids.length)

theorem getD_ix {ids : List Nat} {a : Nat} (h : a < ids.length) : ids.getD a 0 = ids[a] := by simp [List.getD_eq_getElem?_getD, h]

theorem nameOf_inj {ids : List Nat} {N : Nat} (hnd : ids.Nodup) (hlt : ∀ x ∈ ids, x < N) : ∀ a b, nameOf ids N a = nameOf ids N b → a = b := by
  intro a b h
  simp only [nameOf] at h
  split at h <;> split at h
  · rename_i h1 h2
    rw [getD_ix h1, getD_ix h2] at h
    exact (List.getElem_inj hnd).1 h
  · rename_i h1 h2
    have := hlt _ (List.getElem_mem h1)
    rw [getD_ix h1] at h
    omega
  · rename_i h1 h2
    have := hlt _ (List.getElem_mem h2)
    rw [getD_ix h2] at h
    omega
  · omega

theorem CR.to {P : Program} {f : FuncId} {args args' : List AV} {bs bs' : List (Nat × Option Box)} {R0 R : AV → List (Nat × Option Box) → Nat → Prop} (ids : List Nat) (hnd : ids.Nodup) {N : Nat} (hlt : ∀ x ∈ ids, x < N)
    (h : CR P f args bs ids.length R0) (ha : RenL (nameOf ids N) args args') (hb : RenBs (nameOf ids N) bs bs')
    (hren : ∀ r0 b0 n0, R0 r0 b0 n0 → ids.length ≤ n0 ∧ ∃ r b, Ren (nameOf ids N) r0 r ∧ RenBs (nameOf ids N) b0 b ∧ R r b (N + (n0 - ids.length))) : CR P f args' bs' N R :=
  CR.ren (nameOf ids N) (nameOf_inj hnd hlt) (fun i hi => by simp only [nameOf, if_pos hi]; rw [getD_ix hi]; exact hlt _ (List.getElem_mem hi))
    (fun i hi => by simp only [nameOf]; rw [if_neg (by omega)]) h ha hb hren

section
variable {P : Program} {ty : TypeId → Option TI} {n : Nat} {ops l : List Oper} {K : St → Prop} {tp : TypeId} {pos : String} {aft : Array Edge} {env : List (Nat × AV)} {bx : List (Nat × Option Box)} {nx : Nat} {d : Tmp}
  {f : FuncId} {args : List Operand} {ats : Array TypeId} {xs ys : List AV}

theorem S_callS {R : AV → List (Nat × Option Box) → Nat → Prop} (hg : Gts env args xs) (hc : CallS P f bx nx xs R) (hd : slotOk n (some d) = true)
    (h : ∀ r bx' nx', R r bx' nx' → WX false P ty n ops l ⟨(d, r) :: env, bx', nx'⟩ K) :
    WX false P ty n ops (⟨some d, .call ⟨.value (.func f), args.toArray, ats⟩, tp, pos, aft, none⟩ :: l) ⟨env, bx, nx⟩ K := by
  have : callOf (St.get ⟨env, bx, nx⟩) (.call ⟨.value (.func f), args.toArray, ats⟩) = some (f, xs) := by
    simp [callOf, St.get, hg.map bx nx]
  simp only [WX]
  refine ⟨hd, .inr ⟨rfl, .inr (.inr (.inr ?_))⟩⟩
  intro G Q K' hd hK
  have hx : argsOf ⟨env, bx, nx⟩ args.toArray [] = xs := by simp [argsOf, hg.map bx nx]
  exact op_callS (R := R) rfl rfl (by rw [hx]; exact hc) hd (fun r bx' nx' hr => hK _ (h r bx' nx' hr))

theorem S_callQ {q : Bool} {r : AV} (hg : Gts env args xs) (hv : ViewL bx xs ys) (hc : CV P f ys (· = r)) (hr : Flat r) (hd : slotOk n (some d) = true)
    (h : WX q P ty n ops l ⟨(d, r) :: env, bx, nx⟩ K) :
    WX q P ty n ops (⟨some d, .call ⟨.value (.func f), args.toArray, ats⟩, tp, pos, aft, none⟩ :: l) ⟨env, bx, nx⟩ K := by
  have : callOf (St.get ⟨env, bx, nx⟩) (.call ⟨.value (.func f), args.toArray, ats⟩) = some (f, xs) := by
    simp [callOf, St.get, hg.map bx nx]
  refine S_QV hd ?_ h
  unfold QV
  rw [valStep_call]
  simp only [this]
  intro bx' hk
  have hv := hv.stay hk
  refine ⟨hc.1, fun G nx φ w vs hrel hA => ?_⟩
  refine (hc.2 (OK G (shareAll bx') φ w) w vs (fun b o k => k.1) (hv.repAll hrel hA)).mono ?_
  rintro e w' ⟨v, r', rfl, e2, hE, hrep⟩
  subst e2
  exact ⟨v, r', rfl, rfl, hE, hr _ _ _ _ hrep _ _ _⟩

theorem S_callN {R : AV → List (Nat × Option Box) → Nat → Prop} (hg : Gts env args xs) (hv : ViewL bx xs ys) (hc : CR P f ys [] nx R) (hR : ∀ r b n, R r b n → Own r ∧ OwnB nx b) (hd : slotOk n (some d) = true)
    (h : ∀ r b n', R r b n' → WX false P ty n ops l ⟨(d, r) :: env, b ++ bx, n'⟩ K) :
    WX false P ty n ops (⟨some d, .call ⟨.value (.func f), args.toArray, ats⟩, tp, pos, aft, none⟩ :: l) ⟨env, bx, nx⟩ K :=
  S_callS hg (hc.lend hv hR) hd (fun r' bx' nx' ⟨b0, h1, h2⟩ => by subst h2; exact h r' b0 nx' h1)
end

def PullE (ρ : Nat → Nat) (env : List (Nat × AV)) : List (Nat × AV) → Prop
  | [] => True
  | (t, v) :: l => (∃ u, look env t = some u ∧ Ren ρ v u) ∧ PullE ρ env l
def PullB (ρ : Nat → Nat) (bx : List (Nat × Option Box)) : List (Nat × Option Box) → Prop
  | [] => True
  | (id, b) :: l => (∀ b', b = some b' → ∃ c, box? bx (ρ id) = some c ∧ RenBox ρ b' c) ∧ PullB ρ bx l
theorem PullE.look {ρ : Nat → Nat} {env : List (Nat × AV)} : ∀ {l : List (Nat × AV)}, PullE ρ env l → ∀ t v, Av.look l t = some v → ∃ u, Av.look env t = some u ∧ Ren ρ v u
  | [], _, t, v, h => by cases h
  | (k, x) :: l, h, t, v, e => by
    simp only [look_cons] at e
    split at e
    · rename_i e'; subst e'; cases e; exact h.1
    · exact PullE.look h.2 t v e
theorem PullB.box {ρ : Nat → Nat} {bx : List (Nat × Option Box)} : ∀ {l : List (Nat × Option Box)}, PullB ρ bx l → ∀ id b, box? l id = some b → ∃ c, box? bx (ρ id) = some c ∧ RenBox ρ b c
  | [], _, id, b, h => by cases h
  | (k, x) :: l, h, id, b, e => by
    rw [box?_cons] at e
    split at e
    · rename_i e'; subst e'; exact h.1 b e
    · exact PullB.box h.2 id b e
theorem pullE_nil {ρ : Nat → Nat} {env : List (Nat × AV)} : PullE ρ env [] := trivial
theorem pullE_cons {ρ : Nat → Nat} {env l : List (Nat × AV)} {t : Nat} {v u : AV} (h : look env t = some u) (hr : Ren ρ v u) (k : PullE ρ env l) : PullE ρ env ((t, v) :: l) := ⟨⟨u, h, hr⟩, k⟩
theorem pullB_nil {ρ : Nat → Nat} {bx : List (Nat × Option Box)} : PullB ρ bx [] := trivial
theorem pullB_cons {ρ : Nat → Nat} {bx l : List (Nat × Option Box)} {id : Nat} {b c : Box} (h : box? bx (ρ id) = some c) (hr : RenBox ρ b c) (k : PullB ρ bx l) : PullB ρ bx ((id, some b) :: l) := ⟨fun b' e => by cases e; exact ⟨c, h, hr⟩, k⟩

def swapTo (ps : List (Nat × Nat)) (i : Nat) : Nat := (look ps i).getD i

end Go.Av
namespace Go.Av

section
variable {P : Program} {ty : TypeId → Option TI} {n : Nat} {ops l : List Oper} {K : St → Prop} {tp : TypeId} {pos : String} {aft : Array Edge} {env : List (Nat × AV)} {bx : List (Nat × Option Box)} {nx : Nat} {d : Tmp}
  {t : TypeId} {x y : Operand}

theorem S_buildB (hty : TyOk P ty) {len : Nat} {parts : List (Nat × Operand)} {vs : List (Nat × AV)} {e : TypeId} {ti ei : TI} {E : List AV} (ht : ty t = some ti) (hk : ti.k = .slice e) (he : ty e = some ei) (hg : GtsP env parts vs)
    (hp : (fillL ei.size vs (zeros ei.size ei.zero len)).1) (hE : chunk (isAggK ei.k) ei.size len (fillL ei.size vs (zeros ei.size ei.zero len)).2 = E) (hlim : len * ei.size ≤ 16777216) (hpos : 0 < ei.size)
    (hch : ∀ x ∈ E, okCells ei.size x ∧ (isAggK ei.k || x.flat) = true) (hd : slotOk n (some d) = true)
    (h : WX false P ty n ops l ⟨(d, .sl nx 0 len len) :: env, (nx, some ⟨E, ei.size, true, false⟩) :: bx, nx + 1⟩ K) :
    WX false P ty n ops (⟨some d, .buildSlice t len parts.toArray, tp, pos, aft, none⟩ :: l) ⟨env, bx, nx⟩ K := by
  subst hE
  simp only [WX]
  refine ⟨hd, .inr ⟨rfl, .inr (.inr (.inr ?_))⟩⟩
  intro G Q K' hd hK φ a w hr
  have hus : ∀ (j : Nat) (x : Nat × AV) (u : Nat × Value), vs[j]? = some x → (parts.map fun p => (p.1, a.eval p.2))[j]? = some u → x.1 = u.1 ∧ Rep w φ (OK G bx φ w) x.2 u.2 := by
    intro j x u hx hu
    rw [← hg.map bx nx] at hx
    rw [List.getElem?_map] at hx hu
    simp only [Option.map_eq_some_iff] at hx hu
    obtain ⟨a1, ha, rfl⟩ := hx
    obtain ⟨b, hb, rfl⟩ := hu
    rw [ha] at hb
    obtain rfl := Option.some.inj hb
    exact ⟨rfl, hr.get _⟩
  have hlen : (parts.map fun p => (p.1, a.eval p.2)).length = vs.length := by
    have := congrArg List.length (hg.map bx nx)
    simp at this ⊢
    exact this
  obtain ⟨cells, h1, h2, h3⟩ := buildSlice_at (P := P) hty hr.rel ht hk he hlen len hus hp hlim hpos hch
  have hcl := chunk_length (isAggK ei.k) ei.size len (fillL ei.size vs (zeros ei.size ei.zero len)).2
  have hA := hr.rel.add_box (w' := w.alloc (.cells cells e)) (.alloc w _) (L := (.one w.heap.size 0 ei.size (len * ei.size) true false))
    (b := ⟨chunk (isAggK ei.k) ei.size len (fillL ei.size vs (zeros ei.size ei.zero len)).2, ei.size, true, false⟩) (fun _ k hk => Nat.le_of_eq hk.symm) rfl rfl (fun i x hx => (hch x (List.mem_of_getElem? hx)).1) (fun h => by cases h)
    (fun _ => lies_one ⟨cells, e, (0, 0), by simp [World.alloc, -World.alloc_eq], h2, by simp only [Nat.zero_add]; rw [hcl]; exact Nat.le_refl _, fun o _ => by simp⟩) (fun _ i x j y hx hy => by have := h3 i x j y hx hy; simpa only [Loc.one, Nat.zero_add] using this)
  unfold Oper.wp
  have e1 : (execOp a.eval ⟨some d, .buildSlice t len parts.toArray, tp, pos, aft, none⟩).run P w = .ok (.value (.slice (some ⟨w.heap.size, 0, none⟩) len len)) (w.alloc (.cells cells e)) := by
    have : (parts.toArray.map fun p => (p.1, a.eval p.2)) = (parts.map fun p => (p.1, a.eval p.2)).toArray := by simp
    simp [execOp, this, h1]
  rw [e1]
  exact hK _ h _ _ _ ((hA.relA hr).put hd (rep_new_row nx (Nat.le_refl _) (Nat.le_refl _) (fun h => by cases h) rfl))

theorem S_eqNil (hty : TyOk P ty) {e : TypeId} {yt : TypeId} {st : Nat} {nn ee : Bool} {xs : List AV} (ht : (ty t).map TI.k = some (.slice e)) (hx : Gt env x (.ls st nn ee xs)) (hd : slotOk n (some d) = true)
    (h1 : xs = [] → WX false P ty n ops l ⟨(d, .bool true) :: env, bx, nx⟩ K) (h2 : WX false P ty n ops l ⟨(d, .bool false) :: env, bx, nx⟩ K) :
    WX false P ty n ops (⟨some d, .binOp .eql t x (.const (.slice none 0 0)) yt, tp, pos, aft, none⟩ :: l) ⟨env, bx, nx⟩ K := by
  simp only [WX]
  refine ⟨hd, .inr ⟨rfl, .inr (.inr (.inr ?_))⟩⟩
  intro G Q K' hd hK φ a w hr
  have hx1 := hr.get x
  rw [show St.get ⟨env, bx, nx⟩ x = .ls st nn ee xs from hx.get bx nx] at hx1
  have hy1 : Rep w φ (OK G bx φ w) (.ls 0 true true []) (a.eval (.const (.slice none 0 0))) := hr.get (.const (.slice none 0 0))
  have fin : ∀ {xx : AV} {b : Bool}, Rep w φ (OK G bx φ w) xx (a.eval x) → binVal ty .eql t xx (.ls 0 true true []) = some (b = true → True, .bool b) → 
      WX false P ty n ops l ⟨(d, .bool b) :: env, bx, nx⟩ K → (⟨some d, .binOp .eql t x (.const (.slice none 0 0)) yt, tp, pos, aft, none⟩ : Oper).wp P a w K' (QE G Q) := by
    intro xx b hxx hb hk
    obtain ⟨v, e1, e2⟩ := binVal_ok (P := P) (X := x) (Y := .const (.slice none 0 0)) hty hxx hy1 hb (fun _ => trivial)
    obtain ⟨v', w', k1, k2, k3⟩ := Yld.mk (P := P) (G := G) (bx := bx) (ρ := a.eval) (dst := some d) (op := .binOp .eql t x (.const (.slice none 0 0)) yt) (type := tp) (pos := pos) (after := aft) (guard := none) rfl e1 e2
    unfold Oper.wp
    rw [k1]
    exact hK _ hk _ _ _ ((hr.ext k2).put hd k3)
  obtain ⟨ad, c, hv⟩ := hx1.ls_val
  rw [hv] at hx1
  obtain ⟨_, hl, hcs⟩ := hx1.ls_cells
  have hlen := hx1.ls_len
  cases ad with
  | none =>
    have h0 : xs = [] := List.length_eq_zero_iff.1 hl.none.1
    subst h0
    refine fin (xx := .ls st true true []) (b := true) ?_ ?_ (h1 rfl)
    · rw [hv]
      exact Rep.mk_ls (xs := []) ⟨hl.1, fun _ => hl.none.2, fun _ _ => rfl, fun h => (by cases h), hl.2.2.2.2⟩ (fun i x h => (by simp at h)) (fun b o h => (by cases h))
    · simp [binVal, ht]
  | some ad =>
    refine fin (xx := .ls st false ee xs) (b := false) ?_ ?_ h2
    · rw [hv]
      exact Rep.mk_ls ⟨hl.1, hl.2.1, fun h => (by cases h), fun _ => (by nofun), hl.2.2.2.2⟩ hlen hcs
    · simp [binVal, ht]
end

inductive Up (nx : Nat) : AV → AV → Prop
  | refl (x : AV) : Up nx x x
  | nil (st : Nat) : Up nx (.ls st true true []) (.sl nx 0 0 0)
  | agg {cs ds : List AV} (hl : ds.length = cs.length) (h : ∀ (i : Nat) (c d : AV), cs[i]? = some c → ds[i]? = some d → Up nx c d) : Up nx (.agg cs) (.agg ds)
  | tup {cs ds : List AV} (hl : ds.length = cs.length) (h : ∀ (i : Nat) (c d : AV), cs[i]? = some c → ds[i]? = some d → Up nx c d) : Up nx (.tup cs) (.tup ds)
def UpL (nx : Nat) : List AV → List AV → Prop
  | [], [] => True
  | x :: l, y :: r => Up nx x y ∧ UpL nx l r
  | _, _ => False
theorem UpL.get {nx : Nat} : ∀ {l r : List AV}, UpL nx l r → r.length = l.length ∧ ∀ (i : Nat) (x y : AV), l[i]? = some x → r[i]? = some y → Up nx x y
  | [], [], _ => ⟨rfl, fun i x y h => by simp at h⟩
  | a :: l, b :: r, h => by
    obtain ⟨h1, h2⟩ := UpL.get h.2
    refine ⟨by simp [h1], fun i x y hx hy => ?_⟩
    cases i with
    | zero => simp at hx hy; subst hx; subst hy; exact h.1
    | succ i => exact h2 i x y (by simpa using hx) (by simpa using hy)
theorem up_agg {nx : Nat} {cs ds : List AV} (h : UpL nx cs ds) : Up nx (.agg cs) (.agg ds) := .agg h.get.1 h.get.2
def noLoc : Loc := .one 0 0 0 0 true true

theorem Up.rep {nx : Nat} {w : World} {φ : Nat → Option Loc} {ok : Nat → Nat → Prop} {st : Nat} (hφ : ∀ id L, φ id = some L → upd φ nx (.one 0 0 st 0 true true) id = some L) {x y : AV} (r : Up nx x y) :
    ∀ {v : Value}, Rep w φ ok x v → Rep w (upd φ nx (.one 0 0 st 0 true true)) ok y v := by
  induction r with
  | refl x => exact fun h => h.mono (fun _ _ k => ⟨k, rfl⟩) hφ
  | nil s =>
    intro v h
    obtain ⟨a, c, rfl⟩ := h.ls_val
    obtain ⟨_, hl, _⟩ := h.ls_cells
    have ha := hl.2.2.1 rfl rfl
    subst ha
    have := hl.none.2
    subst this
    exact .sl nx 0 0 0 (.one 0 0 st 0 true true) none 0 (by simp [upd]) ⟨Nat.le_refl _, Nat.le_refl _, fun h => rfl, fun x h => (by cases h), fun h => absurd rfl h⟩
  | @agg cs ds hl h ih =>
    intro v hr
    cases hr with | agg _ vs h1 h2 =>
    refine .agg _ vs (by omega) fun i d v hd hv => ?_
    have hi : i < cs.length := by rw [← hl]; exact (List.getElem?_eq_some_iff.1 hd).1
    exact ih i cs[i] d (by simp) hd (h2 i _ v (by simp) hv)
  | @tup cs ds hl h ih =>
    intro v hr
    cases hr with | tup _ vs h1 h2 =>
    refine .tup _ vs (by omega) fun i d v hd hv => ?_
    have hi : i < cs.length := by rw [← hl]; exact (List.getElem?_eq_some_iff.1 hd).1
    exact ih i cs[i] d (by simp) hd (h2 i _ v (by simp) hv)

def UpE (nx : Nat) (env : List (Nat × AV)) : List (Nat × AV) → Prop
  | [] => True
  | (t, v) :: l => (∃ u, look env t = some u ∧ Up nx u v) ∧ UpE nx env l
theorem UpE.look {nx : Nat} {env : List (Nat × AV)} : ∀ {l : List (Nat × AV)}, UpE nx env l → ∀ t v, Av.look l t = some v → ∃ u, Av.look env t = some u ∧ Up nx u v
  | [], _, t, v, h => by cases h
  | (k, x) :: l, h, t, v, e => by
    simp only [look_cons] at e
    split at e
    · rename_i e'; subst e'; cases e; exact h.1
    · exact UpE.look h.2 t v e
theorem sub_upB {G : Gh} {st : St} {id : Nat} {x y : AV} {sz' : Nat} {sl ro : Bool} (sz : Nat) (hb : box? st.bx id = some ⟨[x], sz', sl, ro⟩) (hu : UpL st.nx x.cells y.cells) (hk : ∀ d ∈ y.cells, d.cellOk = true) :
    Sub G st ⟨st.env, (id, some ⟨[y], sz', sl, ro⟩) :: (st.nx, some ⟨[], sz, true, false⟩) :: st.bx, st.nx + 1⟩ := by
  intro φ a w r
  have hA := r.rel.add_box (w' := w) (.refl w) (L := (.one 0 0 sz 0 true true)) (b := ⟨[], sz, true, false⟩) (fun h => by cases h) rfl rfl (fun i x h => by simp at h) (fun _ => rfl) (fun h => by cases h) (fun h => by cases h)
  have R := hA.rel
  obtain ⟨u1, u2⟩ := hu.get
  have hlt : id < st.nx := by
    rcases Nat.lt_or_ge id st.nx with k | k
    · exact k
    · obtain ⟨L, hL, _⟩ := r.rel.box id _ hb
      rw [r.rel.dom id k] at hL; cases hL
  have hb' : box? ((st.nx, some ⟨[], sz, true, false⟩) :: st.bx) id = some ⟨[x], sz', sl, ro⟩ := by rw [box?_cons, if_neg (by omega)]; exact hb
  have bk : ∀ j b, box? ((id, some ⟨[y], sz', sl, ro⟩) :: (st.nx, some ⟨[], sz, true, false⟩) :: st.bx) j = some b → ∃ c, box? ((st.nx, some ⟨[], sz, true, false⟩) :: st.bx) j = some c ∧ b.ro = c.ro ∧ b.elems.length = c.elems.length ∧ (j ≠ id → b = c) ∧ (j = id → b = ⟨[y], sz', sl, ro⟩) := by
    intro j b h
    rw [box?_cons] at h
    split at h
    · rename_i e
      subst e
      cases h
      exact ⟨_, hb', rfl, rfl, fun h => absurd rfl h, fun _ => rfl⟩
    · rename_i e
      exact ⟨b, h, rfl, rfl, fun _ => rfl, fun h => absurd h.symm e⟩
  have hokB : ∀ φ' b o, okB ((st.nx, some ⟨[], sz, true, false⟩) :: st.bx) φ' b o → okB ((id, some ⟨[y], sz', sl, ro⟩) :: (st.nx, some ⟨[], sz, true, false⟩) :: st.bx) φ' b o := by
    intro φ' b o k j box L g1 g2 g3 g4
    obtain ⟨c, q1, q2, q3, _⟩ := bk j box g1
    rw [q2, q3]
    exact k j c L q1 g2 g3 g4
  refine ⟨_, ⟨R.os, R.tape, R.output, R.size, R.frame, R.kept, fun b o k => ⟨(R.okk b o k).1, hokB _ b o (R.okk b o k).2⟩, fun j b g => ?_, fun j j' b b' L L' g g' hne hL hL' hv hv' => ?_, R.dom, R.agree, R.nxle⟩, r.defers, r.sz, fun t v hv => ?_⟩
  · obtain ⟨c, q1, q2, q3, q4, q5⟩ := bk j b g
    obtain ⟨L, hL, hB, hm⟩ := R.box j c q1
    refine ⟨L, hL, ?_, hm⟩
    by_cases e : j = id
    · subst e
      rw [hb'] at q1
      obtain rfl := Option.some.inj q1
      obtain rfl := q5 rfl
      obtain ⟨L0, hL0, hB0, _⟩ := r.rel.box j _ hb
      have hLL := hA.loc _ _ hL0
      rw [hL] at hLL
      obtain rfl := Option.some.inj hLL
      have hx := hB0.len 0 x rfl
      have hy : okCells L.st y := ⟨by rw [u1]; exact hx.1, hk⟩
      refine ⟨hB.st, hB.slack, fun i z hz => ?_, fun hv => by have := hB.virt hv; simp at this, fun hv => hB.lies hv, fun hv i z k d hz hd => ?_⟩
      · cases i with
        | zero => simp at hz; subst hz; exact hy
        | succ i => simp at hz
      · cases i with
        | succ i => simp at hz
        | zero =>
          simp at hz
          subst hz
          have hkl : k < x.cells.length := by rw [← u1]; exact (List.getElem?_eq_some_iff.1 hd).1
          obtain ⟨v, e1, e2⟩ := hB0.cont hv 0 x k x.cells[k] rfl (by simp)
          refine ⟨v, e1, ((u2 k x.cells[k] d (by simp) hd).rep hA.loc e2).mono (fun b o k => ⟨?_, rfl⟩) (fun _ _ k => k)⟩
          have := (hA.cell b o k).1
          exact ⟨this.1, hokB _ b o this.2.1, this.2.2⟩
    · obtain rfl := q4 e
      exact hB.mono (fun b o k => ⟨⟨k.1, hokB _ b o k.2.1, k.2.2⟩, rfl⟩) (fun _ _ k => k) (fun _ _ _ => rfl)
  · obtain ⟨c, q1, _⟩ := bk j b g
    obtain ⟨c', q1', _⟩ := bk j' b' g'
    exact R.apart j j' c c' L L' q1 q1' hne hL hL' hv hv'
  · obtain ⟨e3, e4⟩ := r.env t v hv
    refine ⟨e3, (hA.rep e4).mono (fun b o k => ⟨⟨k.1, hokB _ b o k.2.1, k.2.2⟩, rfl⟩) (fun _ _ k => k)⟩

section
variable {P : Program} {ty : TypeId → Option TI}

theorem View.vw {bx : List (Nat × Option Box)} {x y : AV} (h : View bx x y) : Vw (shareAll bx) x (· = y) := fun G nx φ w v hrel hr => ⟨y, rfl, h.rep (sh_all bx) hrel hr⟩

theorem E_V {R : AV → Prop} {rs : List ResultVar} {s : St} {p : Prop} {xs : List AV} {y : AV} (h1 : resList ty s rs = some (p, xs)) (hp : p) (hv : View s.bx (oneOrTup xs) y) (hR : R y) : retV ty rs R .ret s :=
  ⟨trivial, p, xs, h1, hp, hv.vw.mono (fun y' e => e ▸ hR)⟩
theorem E_R {R : AV → List (Nat × Option Box) → Nat → Prop} {rs : List ResultVar} {s : St} {p : Prop} {xs : List AV} (h1 : resList ty s rs = some (p, xs)) (hp : p) (hR : R (oneOrTup xs) s.bx s.nx) : retR ty rs R .ret s :=
  ⟨trivial, p, xs, h1, hp, hR⟩

def ResL (ty : TypeId → Option TI) (s : St) : List ResultVar → List AV → Prop
  | [], [] => True
  | r :: rs, x :: xs => (∃ p, resOne ty s r = some (p, x) ∧ p) ∧ ResL ty s rs xs
  | _, _ => False
theorem resL_nil {s : St} : ResL ty s [] [] := trivial
theorem resL_tmp {s : St} {t : Nat} {x : AV} {rs : List ResultVar} {xs : List AV} (h : look s.env t = some x) (k : ResL ty s rs xs) : ResL ty s (.tmp t :: rs) (x :: xs) :=
  ⟨⟨True, by simp [resOne, h], trivial⟩, k⟩
theorem resL_cell {s : St} {a : Nat} {t : TypeId} {ti : TI} {id : Nat} {w : AV} {sz : Nat} {sl ro : Bool} {rs : List ResultVar} {xs : List AV} (ht : ty t = some ti) (hv : look s.env a = some (.ptr id 0 0)) (hB : box? s.bx id = some ⟨[w], sz, sl, ro⟩)
    (ha : isAggK ti.k = true) (hw : .agg w.cells = w) (hl : w.cells.length = ti.size) (k : ResL ty s rs xs) : ResL ty s (.cell a t :: rs) (w :: xs) := by
  have hcut : cut false ti w.cells 0 = (0 + ti.size ≤ w.cells.length, w) := by
    unfold cut
    rw [if_pos ha, List.drop_zero, List.take_of_length_le (by omega), hw]
  exact ⟨⟨0 < [w].length ∧ (cut false ti w.cells 0).1, by simp [resOne, ht, hv, hB, hcut], by simp, by rw [hcut]; simp [hl]⟩, k⟩
theorem ResL.list {s : St} : ∀ {rs : List ResultVar} {xs : List AV}, ResL ty s rs xs → ∃ p, resList ty s rs = some (p, xs) ∧ p
  | [], [], _ => ⟨True, rfl, trivial⟩
  | r :: rs, x :: xs, ⟨⟨p, h1, h2⟩, k⟩ => by
    obtain ⟨q, h3, h4⟩ := ResL.list k
    exact ⟨p ∧ q, by simp [resList, h1, h3], h2, h4⟩
  | [], _ :: _, h => h.elim
  | _ :: _, [], h => h.elim
end

end Go.Av
namespace Go.Av

inductive Src (ty : TypeId → Option TI) (bx : List (Nat × Option Box)) (ei : TI) (xt : TypeId) : AV → List AV → Prop
  | ls {e : TypeId} {st : Nat} {n ex : Bool} {ys : List AV} (ht : (ty xt).map TI.k = some (.slice e)) (hst : st = ei.size) : Src ty bx ei xt (.ls st n ex ys) ys
  | nil {e : TypeId} {st : Nat} {n ex : Bool} (ht : (ty xt).map TI.k = some (.slice e)) : Src ty bx ei xt (.ls st n ex []) []
  | sl {e : TypeId} {id off len cap : Nat} {b : Box} {ys : List AV} (ht : (ty xt).map TI.k = some (.slice e)) (hb : box? bx id = some b) (hst : b.st = ei.size) (hfit : off + len ≤ b.elems.length) (hys : (b.elems.drop off).take len = ys) : Src ty bx ei xt (.sl id off len cap) ys
  | str {s : ByteArray} (ht : (ty xt).map TI.k = some .str) (hst : ei.size = 1) : Src ty bx ei xt (.str s) (listOf s)
  | int {k k' : IntKind} {n : Int} {z : AV} (ht : (ty xt).map TI.k = some (.int k)) (h0 : 0 ≤ n) (h1 : n ≤ 9223372036854775807) (h2 : n * (ei.bytes : Int) ≤ 140737488355328) (hz : zeroE ei = z) (hk : okCells ei.size z) : Src ty bx ei xt (.int k' n) (List.replicate n.toNat z)

theorem Src.of {ty : TypeId → Option TI} {bx : List (Nat × Option Box)} {ei : TI} {xt : TypeId} {x : AV} {ys : List AV} (h : Src ty bx ei xt x ys) : ∃ p, srcOf ty bx ei xt x = some (p, ys) ∧ p := by
  cases h with
  | @ls e st n ex ys ht hst => exact ⟨st = ei.size ∨ ys = [], by unfold srcOf; rw [ht], .inl hst⟩
  | @nil e st n ex ht => exact ⟨st = ei.size ∨ ([] : List AV) = [], by unfold srcOf; rw [ht], .inr rfl⟩
  | @sl e id off len cap b ys ht hb hst hfit hys => subst hys; exact ⟨b.st = ei.size ∧ off + len ≤ b.elems.length, by unfold srcOf; rw [ht]; simp only [hb], hst, hfit⟩
  | @str s ht hst => exact ⟨ei.size = 1, by unfold srcOf; rw [ht], hst⟩
  | @int k k' n z ht h0 h1 h2 hz hk => subst hz; exact ⟨0 ≤ n ∧ n ≤ 9223372036854775807 ∧ n * (ei.bytes : Int) ≤ 140737488355328 ∧ okCells ei.size (zeroE ei), by unfold srcOf; rw [ht], h0, h1, h2, hk⟩

inductive Bd (env : List (Nat × AV)) : Option Operand → Nat → Nat → Prop
  | no (v : Nat) : Bd env none v v
  | «at» {x : Operand} {k : IntKind} {a : Int} {v w : Nat} (hx : Gt env x (.int k a)) (h0 : 0 ≤ a) (h : a.toNat = v) : Bd env (some x) w v

section
variable {P : Program} {ty : TypeId → Option TI} {n : Nat} {ops l : List Oper} {K : St → Prop} {tp : TypeId} {pos : String} {aft : Array Edge} {env : List (Nat × AV)} {bx : List (Nat × Option Box)} {nx : Nat} {d : Tmp}
  {t xt : TypeId} {x y : Operand} {q : Bool}

theorem bd_bound (bx : List (Nat × Option Box)) (nx : Nat) {o : Option Operand} {w v : Nat} (h : Bd env o w v) : ∃ p, bound (St.get ⟨env, bx, nx⟩) w o = some (p, v) ∧ p := by
  cases h with
  | no v => exact ⟨True, rfl, trivial⟩
  | «at» hx h0 h => subst h; exact ⟨_, by simp only [Av.bound, hx.get bx nx], h0⟩

theorem S_appB {e : TypeId} {ei : TI} {id off len cap st : Nat} {E ys E' : List AV} {sl ro : Bool} {v : AV} (ht : (ty t).map TI.k = some (.slice e)) (he : ty e = some ei) (hx : Gt env x (.sl id off len cap)) (hB : box? bx id = some ⟨E, st, sl, ro⟩)
    (hst : st = ei.size) (hy : Gt env y v) (hs : Src ty bx ei xt v ys) (hend : off + len = E.length) (hpos : 0 < ei.bytes) (hr : E.drop off ++ ys = E') (hd : slotOk n (some d) = true) (hsz : (len + ys.length) * ei.bytes ≤ 140737488355328)
    (h : WX false P ty n ops l ⟨(d, .sl nx 0 (len + ys.length) (len + ys.length)) :: env, (nx, some ⟨E', ei.size, true, ro⟩) :: (id, none) :: bx, nx + 1⟩ K) :
    WX false P ty n ops (⟨some d, .call ⟨.builtin .append, #[x, y], #[t, xt]⟩, tp, pos, aft, none⟩ :: l) ⟨env, bx, nx⟩ K := by
  obtain ⟨p, h1, h2⟩ := hs.of
  subst hr
  refine S_mem (r := .sl nx 0 (len + ys.length) (len + ys.length)) hd (by simp only [memStep, appendStep, ht, he, hy.get bx nx, h1, hx.get bx nx, hB]; rfl) ?_ h
  exact ⟨h2, hst, hend, by omega, hpos⟩

theorem S_slLs {e : TypeId} {ei : TI} {lo hi : Option Operand} {st l0 h0 : Nat} {nn ex : Bool} {xs ys : List AV} (ht : (ty t).map TI.k = some (.slice e)) (he : ty e = some ei) (hx : Gt env x (.ls st nn ex xs)) (hst : st = ei.size) (hl : Bd env lo 0 l0) (hh : Bd env hi xs.length h0)
    (h1 : l0 ≤ h0) (h2 : h0 ≤ xs.length) (hr : (xs.drop l0).take (h0 - l0) = ys) (hd : slotOk n (some d) = true) (hex : ex = false)
    (h : WX q P ty n ops l ⟨(d, .ls ei.size nn false ys) :: env, bx, nx⟩ K) :
    WX q P ty n ops (⟨some d, .slice t x lo hi none, tp, pos, aft, none⟩ :: l) ⟨env, bx, nx⟩ K := by
  obtain ⟨p1, b1, b2⟩ := bd_bound bx nx hl
  obtain ⟨p2, b3, b4⟩ := bd_bound bx nx hh
  subst hr
  subst hex
  refine S_val (r := .ls ei.size nn false ((xs.drop l0).take (h0 - l0))) hd (by simp only [valStep, opVal, sliceVal, ht, hx.get bx nx, he, b1, b3, Bool.false_and]; rfl) ?_ h
  exact ⟨b2, b4, h1, h2, .inl hst⟩

theorem S_slSl {e : TypeId} {ei : TI} {lo hi : Option Operand} {id off len cap l0 h0 : Nat} {b : Box} {off' len' cap' : Nat} (ht : (ty t).map TI.k = some (.slice e)) (he : ty e = some ei) (hx : Gt env x (.sl id off len cap)) (hB : box? bx id = some b) (hst : b.st = ei.size) (hl : Bd env lo 0 l0) (hh : Bd env hi len h0)
    (h1 : l0 ≤ h0) (h2 : h0 ≤ cap) (e1 : off + l0 = off') (e2 : h0 - l0 = len') (e3 : cap - l0 = cap') (hd : slotOk n (some d) = true)
    (h : WX q P ty n ops l ⟨(d, .sl id off' len' cap') :: env, bx, nx⟩ K) :
    WX q P ty n ops (⟨some d, .slice t x lo hi none, tp, pos, aft, none⟩ :: l) ⟨env, bx, nx⟩ K := by
  obtain ⟨p1, b1, b2⟩ := bd_bound bx nx hl
  obtain ⟨p2, b3, b4⟩ := bd_bound bx nx hh
  subst e1 e2 e3
  refine S_val (r := .sl id (off + l0) (h0 - l0) (cap - l0)) hd (by simp only [valStep, opVal, sliceVal, ht, hx.get bx nx, he, hB, b1, b3]; rfl) ?_ h
  exact ⟨b2, b4, h1, h2, hst⟩

theorem S_slStr {lo hi : Option Operand} {s s' : ByteArray} {l0 h0 : Nat} (ht : (ty t).map TI.k = some .str) (hx : Gt env x (.str s)) (hl : Bd env lo 0 l0) (hh : Bd env hi s.size h0)
    (h1 : l0 ≤ h0) (h2 : h0 ≤ s.size) (hr : s.extract l0 h0 = s') (hd : slotOk n (some d) = true) (h : WX q P ty n ops l ⟨(d, .str s') :: env, bx, nx⟩ K) :
    WX q P ty n ops (⟨some d, .slice t x lo hi none, tp, pos, aft, none⟩ :: l) ⟨env, bx, nx⟩ K := by
  obtain ⟨p1, b1, b2⟩ := bd_bound bx nx hl
  obtain ⟨p2, b3, b4⟩ := bd_bound bx nx hh
  subst hr
  refine S_val (r := .str (s.extract l0 h0)) hd (by simp only [valStep, opVal, sliceVal, ht, hx.get bx nx, b1, b3]; rfl) ?_ h
  exact ⟨b2, b4, h1, h2⟩

theorem S_idxStr {i : Operand} {k : IntKind} {s : ByteArray} {ii c : Int} (ht : (ty t).map TI.k = some .str) (hx : Gt env x (.str s)) (hi : Gt env i (.int k ii)) (hr : 0 ≤ ii ∧ ii < (s.size : Int)) (hc : ((s.data.toList.getD ii.toNat 0).toNat : Int) = c) (hd : slotOk n (some d) = true)
    (h : WX q P ty n ops l ⟨(d, .int .u8 c) :: env, bx, nx⟩ K) : WX q P ty n ops (⟨some d, .index t x i, tp, pos, aft, none⟩ :: l) ⟨env, bx, nx⟩ K := by
  subst hc
  refine S_val (r := .int .u8 ((s.data.toList.getD ii.toNat 0).toNat : Int)) hd (by simp only [valStep, opVal, ht, hx.get bx nx, hi.get bx nx, idx]; rfl) ?_ h
  exact hr

theorem S_convSB {src : TypeId} {e : TypeId} {s : ByteArray} (hs : (ty src).map TI.k = some .str) (ht : (ty t).map TI.k = some (.slice e)) (he : (ty e).map TI.k = some (.int .u8)) (hx : Gt env x (.str s)) (hd : slotOk n (some d) = true)
    (h : WX q P ty n ops l ⟨(d, .ls 1 false false (listOf s)) :: env, bx, nx⟩ K) : WX q P ty n ops (⟨some d, .convert src t x, tp, pos, aft, none⟩ :: l) ⟨env, bx, nx⟩ K := by
  refine S_val (r := .ls 1 false false (listOf s)) hd (by simp only [valStep, opVal, convVal, hs, ht, hx.get bx nx, he]; rfl) ?_ h
  exact trivial

theorem S_convBS {src : TypeId} {e : TypeId} {st : Nat} {nn ee : Bool} {xs : List AV} {s : ByteArray} (hs : (ty src).map TI.k = some (.slice e)) (ht : (ty t).map TI.k = some .str) (he : (ty e).map TI.k = some (.int .u8)) (hx : Gt env x (.ls st nn ee xs)) (hst : st = 1) (hb : ∀ x ∈ xs, IsByte x) (hr : bytesOf xs = s) (hd : slotOk n (some d) = true)
    (h : WX q P ty n ops l ⟨(d, .str s) :: env, bx, nx⟩ K) : WX q P ty n ops (⟨some d, .convert src t x, tp, pos, aft, none⟩ :: l) ⟨env, bx, nx⟩ K := by
  subst hr
  refine S_val (r := .str (bytesOf xs)) hd (by simp only [valStep, opVal, convVal, hs, ht, hx.get bx nx, he]; rfl) ?_ h
  exact ⟨.inl hst, hb⟩

theorem S_strEq {a b : ByteArray} {yt : TypeId} (hx : Gt env x (.str a)) (hy : Gt env y (.str b)) (hd : slotOk n (some d) = true)
    (h : WX q P ty n ops l ⟨(d, .bool (a.toList == b.toList)) :: env, bx, nx⟩ K) : WX q P ty n ops (⟨some d, .binOp .eql t x y yt, tp, pos, aft, none⟩ :: l) ⟨env, bx, nx⟩ K := by
  refine S_val (r := .bool (a.toList == b.toList)) hd (by simp only [valStep, opVal, binVal, strBin, hx.get bx nx, hy.get bx nx]; rfl) ?_ h
  exact trivial
theorem S_strNe {a b : ByteArray} {yt : TypeId} (hx : Gt env x (.str a)) (hy : Gt env y (.str b)) (hd : slotOk n (some d) = true)
    (h : WX q P ty n ops l ⟨(d, .bool (!(a.toList == b.toList))) :: env, bx, nx⟩ K) : WX q P ty n ops (⟨some d, .binOp .neq t x y yt, tp, pos, aft, none⟩ :: l) ⟨env, bx, nx⟩ K := by
  refine S_val (r := .bool (!(a.toList == b.toList))) hd (by simp only [valStep, opVal, binVal, strBin, hx.get bx nx, hy.get bx nx]; rfl) ?_ h
  exact trivial

theorem S_bits {op : BinOp} {k : IntKind} {a b c : Int} {yt : TypeId} (hop : op = .and ∨ op = .or ∨ op = .xor ∨ op = .andNot) (hx : Gt env x (.int k a)) (hy : Gt env y (.int k b)) (hd : slotOk n (some d) = true) (hc : bits op k a b = c)
    (h : WX q P ty n ops l ⟨(d, .int k c) :: env, bx, nx⟩ K) : WX q P ty n ops (⟨some d, .binOp op t x y yt, tp, pos, aft, none⟩ :: l) ⟨env, bx, nx⟩ K := by
  subst hc
  have hv : valStep ty bx (St.get ⟨env, bx, nx⟩) (.binOp op t x y yt) = some (True, .int k (bits op k a b)) := by
    rcases hop with rfl | rfl | rfl | rfl <;> simp only [valStep, opVal, binVal, intBin, hx.get bx nx, hy.get bx nx, if_true]
  exact S_val hd hv trivial h

theorem S_shrW {k k' : IntKind} {a b c : Int} {yt : TypeId} (hx : Gt env x (.int k a)) (hy : Gt env y (.int k' b)) (hd : slotOk n (some d) = true) (hb : 0 ≤ b) (hc : a.fdiv (2 ^ min b.toNat k.bits) = c)
    (h : WX q P ty n ops l ⟨(d, .int k c) :: env, bx, nx⟩ K) : WX q P ty n ops (⟨some d, .binOp .shr t x y yt, tp, pos, aft, none⟩ :: l) ⟨env, bx, nx⟩ K := by
  subst hc
  exact S_shr hx hy hd hb h

theorem S_quoW {k : IntKind} {a b c : Int} {yt : TypeId} (hx : Gt env x (.int k a)) (hy : Gt env y (.int k b)) (hd : slotOk n (some d) = true) (hb : b ≠ 0) (hc : k.wrap (a.tdiv b) = c)
    (h : WX q P ty n ops l ⟨(d, .int k c) :: env, bx, nx⟩ K) : WX q P ty n ops (⟨some d, .binOp .quo t x y yt, tp, pos, aft, none⟩ :: l) ⟨env, bx, nx⟩ K := by
  subst hc
  exact S_quo hx hy hd hb h

theorem S_remW {k : IntKind} {a b c : Int} {yt : TypeId} (hx : Gt env x (.int k a)) (hy : Gt env y (.int k b)) (hd : slotOk n (some d) = true) (hb : b ≠ 0) (hc : a.tmod b = c)
    (h : WX q P ty n ops l ⟨(d, .int k c) :: env, bx, nx⟩ K) : WX q P ty n ops (⟨some d, .binOp .rem t x y yt, tp, pos, aft, none⟩ :: l) ⟨env, bx, nx⟩ K := by
  subst hc
  exact S_rem hx hy hd hb h

end

end Go.Av
