/- A small logic for code over pictures of values and boxes: part 9. -/
import Derived.Test.YthfikpgbddpmoaaGh
set_option linter.unusedSimpArgs false
set_option linter.unusedVariables false
namespace Go.Av

section
variable {P : Program} {ty : TypeId → Option TI} {n : Nat} {l : List Oper} {K : St → Prop} {tp : TypeId} {pos : String} {aft : Array Edge} {gd : Option (Nat × Bool)} {env : List (Nat × AV)} {bx bx0 : List (Nat × Option Box)} {nx : Nat} {d : Tmp}
  {t xt : TypeId} {x y : Operand}

theorem GtsI.get {env : List (Nat × AV)} : ∀ {k : Nat} {l : List (Nat × Operand)} {r : List AV}, GtsI env k l r → r.length = l.length ∧ ∀ (j : Nat) (p : Nat × Operand) (q : Nat × AV), l[j]? = some p → (parts k r)[j]? = some q → q.1 = p.1 ∧ Gt env p.2 q.2
  | _, [], [], _ => ⟨rfl, fun j p q h => by simp at h⟩
  | k, (i, x) :: l, v :: r, h => by
    obtain ⟨rfl, h1, h2⟩ := h
    obtain ⟨g1, g2⟩ := GtsI.get h2
    refine ⟨by simp [g1], fun j p q hp hq => ?_⟩
    cases j with
    | zero => simp [parts] at hp hq; subst hp; subst hq; exact ⟨rfl, h1⟩
    | succ j => exact g2 j p q (by simpa using hp) (by simpa [parts] using hq)
  | _, [], _ :: _, h => h.elim
  | _, _ :: _, [], h => h.elim
theorem parts_length : ∀ (k : Nat) (l : List AV), (parts k l).length = l.length
  | _, [] => rfl
  | k, x :: l => by simp [parts, parts_length (k + 1) l]

theorem L_buildL (hty : TyOk P ty) {len : Nat} {ps : List (Nat × Operand)} {vs : List AV} {e : TypeId} {ti ei : TI} (ht : ty t = some ti) (hk : ti.k = .slice e) (he : ty e = some ei) (hg : GtsI env 0 ps vs)
    (hl : vs.length = len) (hv : Elts ei vs) (hlim : len * ei.size ≤ 16777216) (hpos : 0 < ei.size) (hd : slotOk n (some d) = true) (hn : box? bx0 nx = none)
    (h : WL P n bx0 l ⟨(d, .sl nx 0 len len) :: env, (nx, some ⟨vs, ei.size, true, false⟩) :: bx, nx + 1⟩ K) :
    WL P n bx0 (⟨some d, .buildSlice t len ps.toArray, tp, pos, aft, gd⟩ :: l) ⟨env, bx, nx⟩ K := by
  subst hl
  refine ⟨hd, fun hS => ⟨.sl nx 0 vs.length vs.length, _, _, ?_, stay_cons hn hS, h⟩⟩
  obtain ⟨h1, h2, h3⟩ := elts_facts hty he hv hpos
  obtain ⟨g1, g2⟩ := hg.get
  refine .inl ?_
  intro G φ w ρ hr hx
  have hus : ∀ (j : Nat) (x : Nat × AV) (u : Nat × Value), (parts 0 vs)[j]? = some x → (ps.map fun p => (p.1, ρ p.2))[j]? = some u → x.1 = u.1 ∧ Rep w φ (OK G bx φ w) x.2 u.2 := by
    intro j x u hj hu
    rw [List.getElem?_map] at hu
    simp only [Option.map_eq_some_iff] at hu
    obtain ⟨p, hp, rfl⟩ := hu
    obtain ⟨k1, k2⟩ := g2 j p x hp hj
    refine ⟨k1, ?_⟩
    have := hx p.2 (by
      have hm := List.mem_of_getElem? hp
      simp only [Op.operands, List.map_toArray, List.mem_toArray, List.mem_map]
      exact ⟨p, hm, rfl⟩)
    rw [k2.get bx nx] at this
    exact this
  have hlen : (ps.map fun p => (p.1, ρ p.2)).length = (parts 0 vs).length := by rw [List.length_map, parts_length, g1]
  obtain ⟨cells, c1, c2, c3⟩ := buildSlice_at (P := P) hty hr ht hk he hlen vs.length hus h1 hlim hpos (by rw [h2]; exact h3)
  rw [h2] at c3
  refine ⟨w.alloc (.cells cells e), upd φ nx (.one w.heap.size 0 ei.size (vs.length * ei.size) true false), ?_, .inl ⟨.slice (some ⟨w.heap.size, 0, none⟩) vs.length vs.length, ?_, rep_new_row nx (Nat.le_refl _) (Nat.le_refl _) (fun h => by cases h) rfl⟩⟩
  · exact hr.add_box (w' := w.alloc (.cells cells e)) (.alloc w _) (L := (.one w.heap.size 0 ei.size (vs.length * ei.size) true false)) (b := ⟨vs, ei.size, true, false⟩) (fun _ k hk => Nat.le_of_eq hk.symm) rfl rfl (fun i x hx => (h3 x (List.mem_of_getElem? hx)).1) (fun h => by cases h)
      (fun _ => lies_one ⟨cells, e, (0, 0), by simp [World.alloc, -World.alloc_eq], c2, by simp only [Nat.zero_add]; exact Nat.le_refl _, fun o _ => by simp⟩) (fun _ i x j y hx hy => by have := c3 i x j y hx hy; simpa only [Loc.one, Nat.zero_add] using this)
  · have : (ps.toArray.map fun p => (p.1, ρ p.2)) = (ps.map fun p => (p.1, ρ p.2)).toArray := by simp
    simp [execOp, this, c1]

theorem stay_app {bx0 bx : List (Nat × Option Box)} {nx : Nat} (hlt : (bx0.map (·.1)).all (fun i => decide (i < nx)) = true) : ∀ {b0 : List (Nat × Option Box)}, OwnB nx b0 → Stay bx0 bx → Stay bx0 (b0 ++ bx) := by
  intro b0 hb h id B hB
  have hid : id < nx := by
    have hm : id ∈ bx0.map (·.1) := by
      unfold box? at hB
      cases hl : look bx0 id with
      | none => rw [hl] at hB; cases hB
      | some x => exact look_mem hl
    simpa using List.all_eq_true.1 hlt id hm
  rw [box?_append]
  cases hl : look b0 id with
  | none => exact h id B hB
  | some b => have := hb.1 id b hl; omega

theorem L_callI {f : FuncId} {args : List Operand} {ats : Array TypeId} {xs ys : List AV} {r0 : AV} {b0 : List (Nat × Option Box)} {n0 : Nat} (hg : Gts env args xs) (hv : ViewL bx xs ys) (hc : CR P f ys [] nx (Is r0 b0 n0)) (ho : Own r0) (hb : OwnB nx b0) (hd : slotOk n (some d) = true)
    (hlt : (bx0.map (·.1)).all (fun i => decide (i < nx)) = true)
    (h : WL P n bx0 l ⟨(d, r0) :: env, b0 ++ bx, n0⟩ K) :
    WL P n bx0 (⟨some d, .call ⟨.value (.func f), args.toArray, ats⟩, tp, pos, aft, gd⟩ :: l) ⟨env, bx, nx⟩ K := by
  refine ⟨hd, fun hS => ⟨r0, b0 ++ bx, n0, .inr ⟨f, xs, by simp [callOf, St.get, hg.map bx nx], ?_⟩, stay_app hlt hb hS, h⟩⟩
  refine ⟨hc.1, fun G φ w vs hrel hA => ?_⟩
  refine ((hc.lend hv (fun r b n ⟨e1, e2, e3⟩ => by subst e1 e2 e3; exact ⟨ho, hb⟩)).2 G φ w vs hrel hA).mono ?_
  rintro e w' ⟨v, r, bx', nx', φ', rfl, ⟨b1, ⟨e1, e2, e3⟩, e4⟩, hadv, hrep⟩
  subst e1 e2 e3 e4
  exact ⟨v, r, b1 ++ bx, nx', φ', rfl, ⟨rfl, rfl, rfl⟩, hadv, hrep⟩
end

end Go.Av
namespace Go.Av

def bStr (w : List UInt8) : ByteArray := ⟨w.toArray⟩
theorem strB_bStr (w : List UInt8) : strB (bStr w) = w := rfl
theorem bStr_strB (s : ByteArray) : bStr (strB s) = s := rfl
theorem bStr_size (w : List UInt8) : (bStr w).size = w.length := rfl
theorem bytesOf_bA (w : List UInt8) : bytesOf (bA w) = bStr w := by
  unfold bytesOf bStr bA
  rw [List.map_map]
  congr 2
  have : ((fun x : AV => UInt8.ofNat x.toI.toNat) ∘ fun b : UInt8 => AV.int .u8 (b.toNat : Int)) = id := by
    funext b
    simp [AV.toI]
  rw [this, List.map_id]
theorem isByte_bA (w : List UInt8) : ∀ x ∈ bA w, IsByte x := fun x hx => by
  simp only [bA, List.mem_map] at hx
  obtain ⟨b, _, rfl⟩ := hx
  rfl
theorem str_eq (a b : ByteArray) : (a.toList == b.toList) = decide (strB a = strB b) := by
  rw [ByteArray.toList_eq, ByteArray.toList_eq]
  unfold strB
  by_cases h : a.data.toList = b.data.toList
  · rw [h, decide_eq_true rfl]; exact beq_self_eq_true _
  · rw [decide_eq_false h]; exact beq_eq_false_iff_ne.2 h

section
variable {P : Program} {ty : TypeId → Option TI} {n : Nat} {ops l : List Oper} {K : St → Prop} {tp : TypeId} {pos : String} {aft : Array Edge} {env : List (Nat × AV)} {bx : List (Nat × Option Box)} {nx : Nat} {d : Tmp}
  {t : TypeId} {x y : Operand} {q : Bool}
theorem M_convBS {src : TypeId} {e : TypeId} {st : Nat} {nn ee : Bool} {w : List UInt8} (hs : (ty src).map TI.k = some (.slice e)) (ht : (ty t).map TI.k = some .str) (he : (ty e).map TI.k = some (.int .u8)) (hx : Gt env x (.ls st nn ee (bA w))) (hst : st = 1) (hd : slotOk n (some d) = true)
    (h : WX q P ty n ops l ⟨(d, .str (bStr w)) :: env, bx, nx⟩ K) : WX q P ty n ops (⟨some d, .convert src t x, tp, pos, aft, none⟩ :: l) ⟨env, bx, nx⟩ K :=
  S_convBS hs ht he hx hst (isByte_bA w) (bytesOf_bA w) hd h
end

section
variable {P : Program} {f : FuncId} {xs : List AV}
theorem CR.byVal {st : Nat} {E : List AV} {len cap : Nat} {sl ro : Bool} {n0 : Nat} (h : CR P f xs [] 0 (Is (.sl 0 0 len cap) [(0, some ⟨E, st, sl, ro⟩)] n0)) (hl : len = E.length) (hp : PureB E) : CV P f xs (· = .ls st true false E) :=
  h.toCV fun r b n ⟨e1, e2, e3⟩ => by subst e1 e2; exact view_slA rfl hl hp
end

theorem view_nil3 {bx : List (Nat × Option Box)} {st : Nat} {n e : Bool} : View bx (.ls st n e []) (.ls 3 true false []) := .nothing

end Go.Av
namespace Go.Av

def Loose (c d : AV) : Prop := ∀ w φ ok v, Rep w φ ok c v → Rep w φ ok d v
theorem Loose.refl (c : AV) : Loose c c := fun _ _ _ _ h => h
theorem loose_ls (st : Nat) (n e : Bool) (xs : List AV) : Loose (.ls st n e xs) (.ls st true false xs) := fun w φ ok v h => by
  cases h with | ls _ _ _ _ a c vs hl hn hc hr => exact .ls st true false xs a c vs hl.loose hn hc hr

def LooseE : List AV → List AV → Prop
  | [], [] => True
  | x :: l, y :: r => (y.cells.length = x.cells.length ∧ (∀ d ∈ y.cells, d.cellOk = true) ∧ ∀ (j : Nat) (c d : AV), x.cells[j]? = some c → y.cells[j]? = some d → Loose c d) ∧ LooseE l r
  | _, _ => False
theorem LooseE.get : ∀ {l r : List AV}, LooseE l r → r.length = l.length ∧ ∀ (i : Nat) (x y : AV), l[i]? = some x → r[i]? = some y → y.cells.length = x.cells.length ∧ (∀ d ∈ y.cells, d.cellOk = true) ∧ ∀ (j : Nat) (c d : AV), x.cells[j]? = some c → y.cells[j]? = some d → Loose c d
  | [], [], _ => ⟨rfl, fun i x y h => by simp at h⟩
  | a :: l, b :: r, h => by
    obtain ⟨h1, h2⟩ := LooseE.get h.2
    refine ⟨by simp [h1], fun i x y hx hy => ?_⟩
    cases i with
    | zero => simp at hx hy; subst hx; subst hy; exact h.1
    | succ i => exact h2 i x y (by simpa using hx) (by simpa using hy)
theorem looseE_nil : LooseE [] [] := trivial
theorem looseE_one {x y : AV} {l r : List AV} (h : Loose x y) (hx : x.cells = [x]) (hy : y.cells = [y]) (hk : y.cellOk = true) (k : LooseE l r) : LooseE (x :: l) (y :: r) := by
  refine ⟨⟨by rw [hx, hy]; rfl, fun d hd => ?_, fun j c d hc hd => ?_⟩, k⟩
  · rw [hy] at hd; simp at hd; subst hd; exact hk
  · rw [hx] at hc; rw [hy] at hd
    cases j with
    | zero => simp at hc hd; subst hc; subst hd; exact h
    | succ j => simp at hc
theorem looseE_app : ∀ {l r E F : List AV}, LooseE l r → LooseE E F → LooseE (l ++ E) (r ++ F)
  | [], [], _, _, _, k => k
  | a :: l, b :: r, _, _, h, k => ⟨h.1, looseE_app h.2 k⟩
theorem looseE_refl : ∀ {E : List AV}, PureB E → LooseE E E
  | [], _ => trivial
  | a :: l, h => ⟨⟨rfl, fun d hd => List.all_eq_true.1 (h a (by simp)).2 d hd, fun j c d hc hd => by rw [hc] at hd; cases hd; exact Loose.refl _⟩, looseE_refl fun x hx => h x (by simp [hx])⟩

section
variable {G : Gh} {bx : List (Nat × Option Box)} {nx : Nat} {φ : Nat → Option Loc} {w : World}
theorem Rel.loosen (hrel : Rel G bx nx φ w) {id : Nat} {b : Box} (hb : box? bx id = some b) {ys : List AV} (hl : LooseE b.elems ys) :
    Adv G bx φ w ((id, some { b with elems := ys }) :: bx) nx φ w := by
  obtain ⟨g1, g2⟩ := hl.get
  have back : ∀ i b', box? ((id, some { b with elems := ys }) :: bx) i = some b' → ∃ c, box? bx i = some c ∧ b'.elems.length = c.elems.length ∧ b'.st = c.st ∧ b'.slack = c.slack ∧ b'.ro = c.ro ∧ (b'.elems = c.elems ∨ LooseE c.elems b'.elems) := by
    intro i b' hi
    rw [box?_cons] at hi
    by_cases e : id = i
    · rw [if_pos e] at hi
      obtain rfl := Option.some.inj hi
      exact ⟨b, by rw [← e]; exact hb, g1, rfl, rfl, rfl, .inr hl⟩
    · rw [if_neg e] at hi
      exact ⟨b', hi, rfl, rfl, rfl, rfl, .inl rfl⟩
  have hok : ∀ b1 o, okB bx φ b1 o → okB ((id, some { b with elems := ys }) :: bx) φ b1 o := by
    intro b1 o k i box L h1 h2 hv he
    obtain ⟨c, h3, h4, _, _, h5, _⟩ := back i box h1
    obtain ⟨h6, h7⟩ := k i c L h3 h2 hv he
    exact ⟨by rw [h5]; exact h6, by rw [h4]; exact h7⟩
  have hcell : ∀ b1 o, OK G bx φ w b1 o → OK G ((id, some { b with elems := ys }) :: bx) φ w b1 o ∧ w.cell? ⟨b1, o, none⟩ = w.cell? ⟨b1, o, none⟩ := fun b1 o k => ⟨⟨k.1, hok b1 o k.2.1, k.2.2⟩, rfl⟩
  refine ⟨?_, hcell, fun _ _ h => h⟩
  constructor
  · exact hrel.os
  · exact hrel.tape
  · exact hrel.output
  · exact hrel.size
  · exact hrel.frame
  · exact hrel.kept
  · exact fun b1 o k => ⟨(hrel.okk b1 o k).1, hok b1 o (hrel.okk b1 o k).2⟩
  · intro i b' hi
    obtain ⟨c, h1, h2, h3, h4, h5, h6⟩ := back i b' hi
    obtain ⟨L, hL, hr, hm⟩ := hrel.box i c h1
    rcases h6 with h6 | h6
    · refine ⟨L, hL, ⟨by rw [h3]; exact hr.st, by rw [h4]; exact hr.slack, by rw [h6]; exact hr.len, by rw [h6]; exact hr.virt, by rw [h6]; exact hr.lies, ?_⟩, hm⟩
      rw [h6]
      intro hv i x j y hx hy
      obtain ⟨v, e1, e2⟩ := hr.cont hv i x j y hx hy
      exact ⟨v, e1, e2.mono hcell (fun _ _ h => h)⟩
    · obtain ⟨k1, k2⟩ := h6.get
      have old : ∀ (i : Nat) (y : AV), b'.elems[i]? = some y → ∃ x, c.elems[i]? = some x := fun i y hy => by
        have := (List.getElem?_eq_some_iff.1 hy).1
        exact ⟨c.elems[i]'(by omega), by simp⟩
      refine ⟨L, hL, ⟨by rw [h3]; exact hr.st, by rw [h4]; exact hr.slack, fun i y hy => ?_, fun hv => ?_, by rw [h2]; exact hr.lies, fun hv i y j d hy hd => ?_⟩, hm⟩
      · obtain ⟨x, hx⟩ := old i y hy
        obtain ⟨m1, m2, _⟩ := k2 i x y hx hy
        exact ⟨by rw [m1]; exact (hr.len i x hx).1, m2⟩
      · have := hr.virt hv
        rw [this] at h2
        exact List.length_eq_zero_iff.1 h2
      · obtain ⟨x, hx⟩ := old i y hy
        obtain ⟨m1, _, m3⟩ := k2 i x y hx hy
        have hj : j < x.cells.length := by rw [← m1]; exact (List.getElem?_eq_some_iff.1 hd).1
        obtain ⟨v, e1, e2⟩ := hr.cont hv i x j x.cells[j] hx (by simp)
        exact ⟨v, e1, (m3 j _ d (by simp) hd _ _ _ _ e2).mono hcell (fun _ _ h => h)⟩
  · intro i i' c c' L1 L2 h1 h2 hne h3 h4
    obtain ⟨c1, g1, _⟩ := back i c h1
    obtain ⟨c2, g2, _⟩ := back i' c' h2
    exact hrel.apart i i' c1 c2 L1 L2 g1 g2 hne h3 h4
  · exact hrel.dom
  · exact hrel.agree
  · exact hrel.nxle
end

theorem sub_loose {G : Gh} {st : St} {id : Nat} {E ys : List AV} {sz : Nat} {sl ro : Bool} (hb : box? st.bx id = some ⟨E, sz, sl, ro⟩) (hl : LooseE E ys) : Sub G st ⟨st.env, (id, some ⟨ys, sz, sl, ro⟩) :: st.bx, st.nx⟩ :=
  fun φ a w r => ⟨φ, (r.rel.loosen hb hl).relA r⟩

end Go.Av
namespace Go.Av

section
variable {P : Program} {ty : TypeId → Option TI} {n : Nat} {ops l : List Oper} {K : St → Prop} {tp : TypeId} {pos : String} {aft : Array Edge} {env : List (Nat × AV)} {bx : List (Nat × Option Box)} {nx : Nat} {d : Tmp}
  {t : TypeId} {x : Operand} {q : Bool}
theorem M_field1 {i off : Nat} {fs : List (Nat × TypeId)} {ft : TypeId} {fi : TI} {cs : List AV} {c : AV} (ht : (ty t).map TI.k = some (.struct fs)) (hf : fs[i]? = some (off, ft)) (hi : ty ft = some fi) (hx : Gt env x (.agg cs)) (hc : cs[off]? = some c) (hF : Fits false fi c) (hd : slotOk n (some d) = true)
    (h : WX q P ty n ops l ⟨(d, c) :: env, bx, nx⟩ K) : WX q P ty n ops (⟨some d, .field t x i, tp, pos, aft, none⟩ :: l) ⟨env, bx, nx⟩ K := by
  obtain ⟨h1, h2⟩ := cut_fits hF hc
  exact S_val (p := (cut false fi cs off).1) hd (by simp only [valStep, opVal, ht, hx.get bx nx, hf, hi, Option.map_some]; rw [← h2]) h1 h
theorem M_fieldA {i off : Nat} {fs : List (Nat × TypeId)} {ft : TypeId} {fi : TI} {cs ds : List AV} (ht : (ty t).map TI.k = some (.struct fs)) (hf : fs[i]? = some (off, ft)) (hi : ty ft = some fi) (ha : isAggK fi.k = true) (hx : Gt env x (.agg cs)) (hc : SubL cs off fi.size ds) (hd : slotOk n (some d) = true)
    (h : WX q P ty n ops l ⟨(d, .agg ds) :: env, bx, nx⟩ K) : WX q P ty n ops (⟨some d, .field t x i, tp, pos, aft, none⟩ :: l) ⟨env, bx, nx⟩ K := by
  obtain ⟨e1, e2⟩ := hc.eq
  exact S_val (p := (cut false fi cs off).1) hd (by simp only [valStep, opVal, ht, hx.get bx nx, hf, hi, Option.map_some, cut, ha, if_true, e2]) (by simp only [cut, ha, if_true]; exact e1) h
end

end Go.Av
namespace Go.Av
theorem CV.args {P : Program} {f : FuncId} {xs ys : List AV} {R : AV → Prop} (h : CV P f ys R) (hl : ys.length = xs.length) (k : ∀ (i : Nat) (x y : AV), xs[i]? = some x → ys[i]? = some y → Loose x y) : CV P f xs R :=
  ⟨h.1, fun ok0 w vs hok hA => h.2 ok0 w vs hok ⟨by rw [hA.1, hl], fun i y v hy hv => by
    have hi : i < xs.length := by rw [← hl]; exact (List.getElem?_eq_some_iff.1 hy).1
    exact k i xs[i] y (by simp) hy _ _ _ _ (hA.2 i xs[i] v (by simp) hv)⟩⟩
theorem loose_nil (st st' : Nat) (n e : Bool) : Loose (.ls st n e []) (.ls st' true false []) := fun w φ ok v h => by
  cases h with | ls _ _ _ _ a c vs hl hn hc hr => exact .ls st' true false [] a c vs hl.loose (fun i x h => by simp at h) (fun b o _ i j hi => by simp at hi) (fun i x j y h => by simp at h)
theorem loose_agg {cs ds : List AV} (hl : ds.length = cs.length) (k : ∀ (i : Nat) (x y : AV), cs[i]? = some x → ds[i]? = some y → Loose x y) : Loose (.agg cs) (.agg ds) := fun w φ ok v h => by
  cases h with | agg _ vs h1 h2 =>
  refine .agg ds vs (by rw [h1, hl]) fun i y v hy hv => ?_
  have hi : i < cs.length := by rw [← hl]; exact (List.getElem?_eq_some_iff.1 hy).1
  exact k i cs[i] y (by simp) hy _ _ _ _ (h2 i cs[i] v (by simp) hv)
end Go.Av
namespace Go.Av

instance (cs : List AV) [h : PureLC cs] : PureLC (AV.agg cs).cells := h
instance (cs : List AV) [h : CellsC cs] : CellsC (AV.agg cs).cells := h

section
variable {P : Program} {ty : TypeId → Option TI} {n : Nat} {ops l : List Oper} {K : St → Prop} {tp : TypeId} {pos : String} {aft : Array Edge} {env : List (Nat × AV)} {bx : List (Nat × Option Box)} {nx : Nat}
  {t : TypeId} {x y : Operand}
theorem S_storeG {ti : TI} {id j : Nat} {cs ds cs' : List AV} {sz : Nat} {sl ro : Bool} (ht : ty t = some ti) (hx : Gt env x (.ptr id 0 j)) (hB : box? bx id = some ⟨[.agg cs], sz, sl, ro⟩) (hs : (ti.size == sz) = false) (hro : ro = false) (hy : Gt env y (.agg ds))
    (hk : okCells ti.size (.agg ds)) (hj : j + ti.size ≤ cs.length) (hset : splice cs j ds = cs') (h : WX false P ty n ops l ⟨env, (id, some ⟨[.agg cs'], sz, sl, ro⟩) :: bx, nx⟩ K) : WX false P ty n ops (⟨none, .store t x y, tp, pos, aft, none⟩ :: l) ⟨env, bx, nx⟩ K := by
  subst hset
  have hne : ¬ (ti.size = sz) := by simpa using hs
  refine S_memN (r := .undef) (nx' := nx) (p := 0 < [AV.agg cs].length ∧ ro = false ∧ okCells ti.size (.agg ds) ∧ j + ti.size ≤ cs.length) ?_ ⟨by simp, hro, hk, hj⟩ h
  simp [memStep, hx.get, hy.get, storeStep, ht, hB, hne, AV.cells]
end

section
variable {P : Program} {ty : TypeId → Option TI} {n : Nat} {l : List Oper} {K : St → Prop} {tp : TypeId} {pos : String} {aft : Array Edge} {gd : Option (Nat × Bool)} {env : List (Nat × AV)} {bx bx0 : List (Nat × Option Box)} {nx : Nat} {d : Tmp} {t : TypeId}
theorem L_alloc (hty : TyOk P ty) {ti : TI} {z : AV} (ht : ty t = some ti) (hz : zeroE ti = z) (hk : okCells ti.size z) (hd : slotOk n (some d) = true) (hn : box? bx0 nx = none)
    (h : WL P n bx0 l ⟨(d, .ptr nx 0 0) :: env, (nx, some ⟨[z], ti.size, false, false⟩) :: bx, nx + 1⟩ K) : WL P n bx0 (⟨some d, .alloc t, tp, pos, aft, gd⟩ :: l) ⟨env, bx, nx⟩ K := by
  subst hz
  exact ⟨hd, fun hS => ⟨.ptr nx 0 0, _, _, AStep.mem hty (by simp only [memStep, ht]) hk, stay_cons hn hS, h⟩⟩
end

section
variable {P : Program} {ty : TypeId → Option TI} {n : Nat} {ops l : List Oper} {K : St → Prop} {tp : TypeId} {pos : String} {aft : Array Edge} {env : List (Nat × AV)} {bx : List (Nat × Option Box)} {nx : Nat} {d : Tmp} {q : Bool}
  {t : TypeId} {x y : Operand}
theorem S_makeV {e : TypeId} {ei : TI} {k k' : IntKind} {m : Nat} {vs : List AV} (ht : (ty t).map TI.k = some (.slice e)) (he : ty e = some ei) (hx : Gt env x (.int k (m : Int))) (hy : Gt env y (.int k' (m : Int)))
    (h3 : decide ((ei.bytes : Int) * (m : Int) ≤ 281474976710656 ∧ (m : Int) ≤ 9223372036854775807 ∧ m * ei.size ≤ 16777216 ∧ 0 < ei.size) = true) (hz : chunk (isAggK ei.k) ei.size m (zeros ei.size ei.zero m) = vs)
    (hk : (vs.all fun x => (x.cells.length == ei.size) && x.cells.all AV.cellOk && (isAggK ei.k || x.flat)) = true) (hd : slotOk n (some d) = true)
    (h : WX q P ty n ops l ⟨(d, .ls ei.size false true vs) :: env, bx, nx⟩ K) : WX q P ty n ops (⟨some d, .makeSlice t x y, tp, pos, aft, none⟩ :: l) ⟨env, bx, nx⟩ K := by
  subst hz
  obtain ⟨a1, a2, a3, a4⟩ := of_decide_eq_true h3
  have hv : valStep ty bx (St.get ⟨env, bx, nx⟩) (.makeSlice t x y) = some (0 ≤ (m : Int) ∧ (m : Int) = m ∧ (ei.bytes : Int) * (m : Int) ≤ 281474976710656 ∧ (m : Int) ≤ 9223372036854775807 ∧ (m : Int).toNat * ei.size ≤ 16777216 ∧ 0 < ei.size ∧
        (∀ x ∈ chunk (isAggK ei.k) ei.size (m : Int).toNat (zeros ei.size ei.zero (m : Int).toNat), okCells ei.size x ∧ (isAggK ei.k || x.flat) = true), .ls ei.size false true (chunk (isAggK ei.k) ei.size (m : Int).toNat (zeros ei.size ei.zero (m : Int).toNat))) := by
    simp only [valStep, makeVal, ht, he, hx.get, hy.get]
  refine S_val hd hv ⟨Int.natCast_nonneg _, rfl, a1, a2, a3, a4, fun x hx => ?_⟩ h
  have := List.all_eq_true.1 hk x hx
  simp only [Bool.and_eq_true, beq_iff_eq] at this
  exact ⟨⟨this.1.1, fun y hy => List.all_eq_true.1 this.1.2 y hy⟩, this.2⟩
end

section
variable {P : Program} {ty : TypeId → Option TI} {n : Nat} {l : List Oper} {K : St → Prop} {tp : TypeId} {pos : String} {aft : Array Edge} {gd : Option (Nat × Bool)} {env : List (Nat × AV)} {bx : List (Nat × Option Box)} {nx : Nat} {t : TypeId} {x y : Operand} {v : AV}
theorem L_storeE (hty : TyOk P ty) {ti : TI} {id e j : Nat} {B : Box} (ht : ty t = some ti) (hx : Gt env x (.ptr id e j)) (hB : box? bx id = some B) (hj : j = 0) (hs : ti.size = B.st) (he : e < B.elems.length) (hro : B.ro = false) (hy : Gt env y v) (hk : okCells ti.size v)
    (h : WL P n [] l ⟨env, (id, some ⟨B.elems.set e v, B.st, B.slack, B.ro⟩) :: bx, nx⟩ K) : WL P n [] (⟨none, .store t x y, tp, pos, aft, gd⟩ :: l) ⟨env, bx, nx⟩ K := by
  subst hj
  exact ⟨rfl, fun _ => ⟨.undef, _, _, AStep.mem hty (p := e < B.elems.length ∧ B.ro = false ∧ okCells ti.size v) (by simp [memStep, hx.get, hy.get, storeStep, ht, hB, hs]) ⟨he, hro, hk⟩, (fun id B h => by cases h), h⟩⟩
end

theorem retR_normal {ty : TypeId → Option TI} {rs : List ResultVar} {R : AV → List (Nat × Option Box) → Nat → Prop} {s : St} (h : retR ty rs R .ret s) : retR ty rs R .normal s := ⟨trivial, h.2⟩

end Go.Av
