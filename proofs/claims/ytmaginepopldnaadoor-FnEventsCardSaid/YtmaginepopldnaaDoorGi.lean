/- A small logic for code over pictures of values and boxes: part 9. -/
import Derived.Test.YtmaginepopldnaaDoorGh
set_option linter.unusedSimpArgs false
set_option linter.unusedVariables false
namespace Go.Av

section
variable {P : Program} {ty : TypeId → Option TI} {n : Nat} {l : List Oper} {K : St → Prop} {tp : TypeId} {pos : String} {aft : Array Edge} {gd : Option (Nat × Bool)} {env : List (Nat × AV)} {bx bx0 : List (Nat × Option Box)} {nx : Nat} {d : Tmp}
  {t xt : TypeId} {x y : Operand}

theorem GtsI.get {env : List (Nat × AV)} : ∀ {k : Nat} {l : List (Nat × Operand)} {r : List AV}, GtsI env k l r → r.length = l.length ∧ ∀ (j : Nat) (p : Nat × Operand) (q : Nat × AV), l[j]? = some p → (parts k r)[j]? = some q → q.1 = p.1 ∧ Gt env p.2 q.2
  | _, [], [], _ => ⟨rfl, fun j p q h => by simp at h⟩
  | k, (i, x) :: l, v :: r, h => by
    obtain ⟨rfl, h1, h2⟩ := h
    obtain ⟨g1, g2⟩ := GtsI.get h2
    refine ⟨by simp [g1], fun j p q hp hq => ?_⟩
    cases j with
    | zero => simp [parts] at hp hq; subst hp; subst hq; exact ⟨rfl, h1⟩
    | succ j => exact g2 j p q (by simpa using hp) (by simpa [parts] using hq)
  | _, [], _ :: _, h => h.elim
  | _, _ :: _, [], h => h.elim
end

end Go.Av
namespace Go.Av

def bStr (w : List UInt8) : ByteArray := ⟨w.toArray⟩
theorem strB_bStr (w : List UInt8) : strB (bStr w) = w := rfl
theorem bStr_size (w : List UInt8) : (bStr w).size = w.length := rfl
theorem bytesOf_bA (w : List UInt8) : bytesOf (bA w) = bStr w := by
  unfold bytesOf bStr bA
  rw [List.map_map]
  congr 2
  have : ((fun x : AV => UInt8.ofNat x.toI.toNat) ∘ fun b : UInt8 => AV.int .u8 (b.toNat : Int)) = id := by
    funext b
    simp [AV.toI]
  rw [this, List.map_id]
theorem isByte_bA (w : List UInt8) : ∀ x ∈ bA w, IsByte x := fun x hx => by
  simp only [bA, List.mem_map] at hx
  obtain ⟨b, _, rfl⟩ := hx
  rfl
theorem str_eq (a b : ByteArray) : (a.toList == b.toList) = decide (strB a = strB b) := by
  rw [ByteArray.toList_eq, ByteArray.toList_eq]
  unfold strB
  by_cases h : a.data.toList = b.data.toList
  · rw [h, decide_eq_true rfl]; exact beq_self_eq_true _
  · rw [decide_eq_false h]; exact beq_eq_false_iff_ne.2 h

section
variable {P : Program} {ty : TypeId → Option TI} {n : Nat} {ops l : List Oper} {K : St → Prop} {tp : TypeId} {pos : String} {aft : Array Edge} {env : List (Nat × AV)} {bx : List (Nat × Option Box)} {nx : Nat} {d : Tmp}
  {t : TypeId} {x y : Operand} {q : Bool}
theorem M_convBS {src : TypeId} {e : TypeId} {st : Nat} {nn ee : Bool} {w : List UInt8} (hs : (ty src).map TI.k = some (.slice e)) (ht : (ty t).map TI.k = some .str) (he : (ty e).map TI.k = some (.int .u8)) (hx : Gt env x (.ls st nn ee (bA w))) (hst : st = 1) (hd : slotOk n (some d) = true)
    (h : WX q P ty n ops l ⟨(d, .str (bStr w)) :: env, bx, nx⟩ K) : WX q P ty n ops (⟨some d, .convert src t x, tp, pos, aft, none⟩ :: l) ⟨env, bx, nx⟩ K :=
  S_convBS hs ht he hx hst (isByte_bA w) (bytesOf_bA w) hd h
end

section
variable {P : Program} {f : FuncId} {xs : List AV}
theorem CR.byVal {st : Nat} {E : List AV} {len cap : Nat} {sl ro : Bool} {n0 : Nat} (h : CR P f xs [] 0 (Is (.sl 0 0 len cap) [(0, some ⟨E, st, sl, ro⟩)] n0)) (hl : len = E.length) (hp : PureB E) : CV P f xs (· = .ls st true false E) :=
  h.toCV fun r b n ⟨e1, e2, e3⟩ => by subst e1 e2; exact view_slA rfl hl hp
end

end Go.Av
namespace Go.Av

def Loose (c d : AV) : Prop := ∀ w φ ok v, Rep w φ ok c v → Rep w φ ok d v
theorem Loose.refl (c : AV) : Loose c c := fun _ _ _ _ h => h
theorem loose_ls (st : Nat) (n e : Bool) (xs : List AV) : Loose (.ls st n e xs) (.ls st true false xs) := fun w φ ok v h => by
  cases h with | ls _ _ _ _ a c vs hl hn hc hr => exact .ls st true false xs a c vs hl.loose hn hc hr

def LooseE : List AV → List AV → Prop
  | [], [] => True
  | x :: l, y :: r => (y.cells.length = x.cells.length ∧ (∀ d ∈ y.cells, d.cellOk = true) ∧ ∀ (j : Nat) (c d : AV), x.cells[j]? = some c → y.cells[j]? = some d → Loose c d) ∧ LooseE l r
  | _, _ => False
theorem LooseE.get : ∀ {l r : List AV}, LooseE l r → r.length = l.length ∧ ∀ (i : Nat) (x y : AV), l[i]? = some x → r[i]? = some y → y.cells.length = x.cells.length ∧ (∀ d ∈ y.cells, d.cellOk = true) ∧ ∀ (j : Nat) (c d : AV), x.cells[j]? = some c → y.cells[j]? = some d → Loose c d
  | [], [], _ => ⟨rfl, fun i x y h => by simp at h⟩
  | a :: l, b :: r, h => by
    obtain ⟨h1, h2⟩ := LooseE.get h.2
    refine ⟨by simp [h1], fun i x y hx hy => ?_⟩
    cases i with
    | zero => simp at hx hy; subst hx; subst hy; exact h.1
    | succ i => exact h2 i x y (by simpa using hx) (by simpa using hy)
theorem looseE_nil : LooseE [] [] := trivial
theorem looseE_one {x y : AV} {l r : List AV} (h : Loose x y) (hx : x.cells = [x]) (hy : y.cells = [y]) (hk : y.cellOk = true) (k : LooseE l r) : LooseE (x :: l) (y :: r) := by
  refine ⟨⟨by rw [hx, hy]; rfl, fun d hd => ?_, fun j c d hc hd => ?_⟩, k⟩
  · rw [hy] at hd; simp at hd; subst hd; exact hk
  · rw [hx] at hc; rw [hy] at hd
    cases j with
    | zero => simp at hc hd; subst hc; subst hd; exact h
    | succ j => simp at hc
theorem looseE_app : ∀ {l r E F : List AV}, LooseE l r → LooseE E F → LooseE (l ++ E) (r ++ F)
  | [], [], _, _, _, k => k
  | a :: l, b :: r, _, _, h, k => ⟨h.1, looseE_app h.2 k⟩
theorem looseE_refl : ∀ {E : List AV}, PureB E → LooseE E E
  | [], _ => trivial
  | a :: l, h => ⟨⟨rfl, fun d hd => List.all_eq_true.1 (h a (by simp)).2 d hd, fun j c d hc hd => by rw [hc] at hd; cases hd; exact Loose.refl _⟩, looseE_refl fun x hx => h x (by simp [hx])⟩

section
variable {G : Gh} {bx : List (Nat × Option Box)} {nx : Nat} {φ : Nat → Option Loc} {w : World}
theorem Rel.loosen (hrel : Rel G bx nx φ w) {id : Nat} {b : Box} (hb : box? bx id = some b) {ys : List AV} (hl : LooseE b.elems ys) :
    Adv G bx φ w ((id, some { b with elems := ys }) :: bx) nx φ w := by
  obtain ⟨g1, g2⟩ := hl.get
  have back : ∀ i b', box? ((id, some { b with elems := ys }) :: bx) i = some b' → ∃ c, box? bx i = some c ∧ b'.elems.length = c.elems.length ∧ b'.st = c.st ∧ b'.slack = c.slack ∧ b'.ro = c.ro ∧ (b'.elems = c.elems ∨ LooseE c.elems b'.elems) := by
    intro i b' hi
    rw [box?_cons] at hi
    by_cases e : id = i
    · rw [if_pos e] at hi
      obtain rfl := Option.some.inj hi
      exact ⟨b, by rw [← e]; exact hb, g1, rfl, rfl, rfl, .inr hl⟩
    · rw [if_neg e] at hi
      exact ⟨b', hi, rfl, rfl, rfl, rfl, .inl rfl⟩
  have hok : ∀ b1 o, okB bx φ b1 o → okB ((id, some { b with elems := ys }) :: bx) φ b1 o := by
    intro b1 o k i box L h1 h2 hv he
    obtain ⟨c, h3, h4, _, _, h5, _⟩ := back i box h1
    obtain ⟨h6, h7⟩ := k i c L h3 h2 hv he
    exact ⟨by rw [h5]; exact h6, by rw [h4]; exact h7⟩
  have hcell : ∀ b1 o, OK G bx φ w b1 o → OK G ((id, some { b with elems := ys }) :: bx) φ w b1 o ∧ w.cell? ⟨b1, o, none⟩ = w.cell? ⟨b1, o, none⟩ := fun b1 o k => ⟨⟨k.1, hok b1 o k.2.1, k.2.2⟩, rfl⟩
  refine ⟨?_, hcell, fun _ _ h => h⟩
  constructor
  · exact hrel.os
  · exact hrel.tape
  · exact hrel.output
  · exact hrel.size
  · exact hrel.frame
  · exact hrel.kept
  · exact fun b1 o k => ⟨(hrel.okk b1 o k).1, hok b1 o (hrel.okk b1 o k).2⟩
  · intro i b' hi
    obtain ⟨c, h1, h2, h3, h4, h5, h6⟩ := back i b' hi
    obtain ⟨L, hL, hr, hm⟩ := hrel.box i c h1
    rcases h6 with h6 | h6
    · refine ⟨L, hL, ⟨by rw [h3]; exact hr.st, by rw [h4]; exact hr.slack, by rw [h6]; exact hr.len, by rw [h6]; exact hr.virt, by rw [h6]; exact hr.lies, ?_⟩, hm⟩
      rw [h6]
      intro hv i x j y hx hy
      obtain ⟨v, e1, e2⟩ := hr.cont hv i x j y hx hy
      exact ⟨v, e1, e2.mono hcell (fun _ _ h => h)⟩
    · obtain ⟨k1, k2⟩ := h6.get
      have old : ∀ (i : Nat) (y : AV), b'.elems[i]? = some y → ∃ x, c.elems[i]? = some x := fun i y hy => by
        have := (List.getElem?_eq_some_iff.1 hy).1
        exact ⟨c.elems[i]'(by omega), by simp⟩
      refine ⟨L, hL, ⟨by rw [h3]; exact hr.st, by rw [h4]; exact hr.slack, fun i y hy => ?_, fun hv => ?_, by rw [h2]; exact hr.lies, fun hv i y j d hy hd => ?_⟩, hm⟩
      · obtain ⟨x, hx⟩ := old i y hy
        obtain ⟨m1, m2, _⟩ := k2 i x y hx hy
        exact ⟨by rw [m1]; exact (hr.len i x hx).1, m2⟩
      · have := hr.virt hv
        rw [this] at h2
        exact List.length_eq_zero_iff.1 h2
      · obtain ⟨x, hx⟩ := old i y hy
        obtain ⟨m1, _, m3⟩ := k2 i x y hx hy
        have hj : j < x.cells.length := by rw [← m1]; exact (List.getElem?_eq_some_iff.1 hd).1
        obtain ⟨v, e1, e2⟩ := hr.cont hv i x j x.cells[j] hx (by simp)
        exact ⟨v, e1, (m3 j _ d (by simp) hd _ _ _ _ e2).mono hcell (fun _ _ h => h)⟩
  · intro i i' c c' L1 L2 h1 h2 hne h3 h4
    obtain ⟨c1, g1, _⟩ := back i c h1
    obtain ⟨c2, g2, _⟩ := back i' c' h2
    exact hrel.apart i i' c1 c2 L1 L2 g1 g2 hne h3 h4
  · exact hrel.dom
  · exact hrel.agree
  · exact hrel.nxle
end

theorem sub_loose {G : Gh} {st : St} {id : Nat} {E ys : List AV} {sz : Nat} {sl ro : Bool} (hb : box? st.bx id = some ⟨E, sz, sl, ro⟩) (hl : LooseE E ys) : Sub G st ⟨st.env, (id, some ⟨ys, sz, sl, ro⟩) :: st.bx, st.nx⟩ :=
  fun φ a w r => ⟨φ, (r.rel.loosen hb hl).relA r⟩

end Go.Av
namespace Go.Av

section
variable {P : Program} {ty : TypeId → Option TI} {n : Nat} {ops l : List Oper} {K : St → Prop} {tp : TypeId} {pos : String} {aft : Array Edge} {env : List (Nat × AV)} {bx : List (Nat × Option Box)} {nx : Nat} {d : Tmp}
  {t : TypeId} {x : Operand} {q : Bool}
theorem M_field1 {i off : Nat} {fs : List (Nat × TypeId)} {ft : TypeId} {fi : TI} {cs : List AV} {c : AV} (ht : (ty t).map TI.k = some (.struct fs)) (hf : fs[i]? = some (off, ft)) (hi : ty ft = some fi) (hx : Gt env x (.agg cs)) (hc : cs[off]? = some c) (hF : Fits false fi c) (hd : slotOk n (some d) = true)
    (h : WX q P ty n ops l ⟨(d, c) :: env, bx, nx⟩ K) : WX q P ty n ops (⟨some d, .field t x i, tp, pos, aft, none⟩ :: l) ⟨env, bx, nx⟩ K := by
  obtain ⟨h1, h2⟩ := cut_fits hF hc
  exact S_val (p := (cut false fi cs off).1) hd (by simp only [valStep, opVal, ht, hx.get bx nx, hf, hi, Option.map_some]; rw [← h2]) h1 h
end

end Go.Av
namespace Go.Av
theorem CV.args {P : Program} {f : FuncId} {xs ys : List AV} {R : AV → Prop} (h : CV P f ys R) (hl : ys.length = xs.length) (k : ∀ (i : Nat) (x y : AV), xs[i]? = some x → ys[i]? = some y → Loose x y) : CV P f xs R :=
  ⟨h.1, fun ok0 w vs hok hA => h.2 ok0 w vs hok ⟨by rw [hA.1, hl], fun i y v hy hv => by
    have hi : i < xs.length := by rw [← hl]; exact (List.getElem?_eq_some_iff.1 hy).1
    exact k i xs[i] y (by simp) hy _ _ _ _ (hA.2 i xs[i] v (by simp) hv)⟩⟩
end Go.Av
namespace Go.Av

instance (cs : List AV) [h : PureLC cs] : PureLC (AV.agg cs).cells := h
instance (cs : List AV) [h : CellsC cs] : CellsC (AV.agg cs).cells := h

section
variable {P : Program} {ty : TypeId → Option TI} {n : Nat} {ops l : List Oper} {K : St → Prop} {tp : TypeId} {pos : String} {aft : Array Edge} {env : List (Nat × AV)} {bx : List (Nat × Option Box)} {nx : Nat}
  {t : TypeId} {x y : Operand}
end

section
variable {P : Program} {ty : TypeId → Option TI} {n : Nat} {l : List Oper} {K : St → Prop} {tp : TypeId} {pos : String} {aft : Array Edge} {gd : Option (Nat × Bool)} {env : List (Nat × AV)} {bx bx0 : List (Nat × Option Box)} {nx : Nat} {d : Tmp} {t : TypeId}
theorem L_alloc (hty : TyOk P ty) {ti : TI} {z : AV} (ht : ty t = some ti) (hz : zeroE ti = z) (hk : okCells ti.size z) (hd : slotOk n (some d) = true) (hn : box? bx0 nx = none)
    (h : WL P n bx0 l ⟨(d, .ptr nx 0 0) :: env, (nx, some ⟨[z], ti.size, false, false⟩) :: bx, nx + 1⟩ K) : WL P n bx0 (⟨some d, .alloc t, tp, pos, aft, gd⟩ :: l) ⟨env, bx, nx⟩ K := by
  subst hz
  exact ⟨hd, fun hS => ⟨.ptr nx 0 0, _, _, AStep.mem hty (by simp only [memStep, ht]) hk, stay_cons hn hS, h⟩⟩
end

section
variable {P : Program} {ty : TypeId → Option TI} {n : Nat} {ops l : List Oper} {K : St → Prop} {tp : TypeId} {pos : String} {aft : Array Edge} {env : List (Nat × AV)} {bx : List (Nat × Option Box)} {nx : Nat} {d : Tmp} {q : Bool}
  {t : TypeId} {x y : Operand}
end

section
variable {P : Program} {ty : TypeId → Option TI} {n : Nat} {l : List Oper} {K : St → Prop} {tp : TypeId} {pos : String} {aft : Array Edge} {gd : Option (Nat × Bool)} {env : List (Nat × AV)} {bx : List (Nat × Option Box)} {nx : Nat} {t : TypeId} {x y : Operand} {v : AV}
end

end Go.Av
