/- A small logic for code over pictures of values and boxes: part 3. -/
import Derived.Test.YtmaginepopldnaaDoorGb
import Derived.Orders
set_option linter.unusedSimpArgs false
set_option linter.unusedVariables false
namespace Go.Av

def St.get (st : St) : Operand → AV
  | .tmp t => (look st.env t).getD .undef
  | .const v => ofVal v
  | .func f => .fn f []
  | .global _ => .undef

def QE (G : Gh) (Q : Exit → St → Prop) : Exit → Act → World → Prop := fun e a w => ∃ st φ, Q e st ∧ RelA G st φ a w

def T (P : Program) (G : Gh) (c : Code) (st : St) (Q : Exit → St → Prop) : Prop := ∀ φ a w, RelA G st φ a w → c.wp P (QE G Q) a w

def TO (P : Program) (G : Gh) (ops : Array Oper) (l : List Nat) (st : St) (Q : Exit → St → Prop) : Prop := ∀ φ a w, RelA G st φ a w → wpOps P ops (QE G Q) l a w

section
variable {P : Program} {ty : TypeId → Option TI} {G : Gh} {st : St} {Q : Exit → St → Prop}

theorem RelA.get {φ : Nat → Option Loc} {a : Act} {w : World} (h : RelA G st φ a w) (x : Operand) : Rep w φ (OK G st.bx φ w) (st.get x) (a.eval x) := by
  cases x with
  | tmp t =>
    simp only [St.get, Act.eval]
    cases hl : look st.env t with
    | none => exact .undef _
    | some v => exact (h.env t v hl).2
  | const v => exact rep_ofVal w φ _ v
  | global g => exact .undef _
  | func f => exact .fn f [] #[] rfl (fun i x v h => by simp at h)

theorem T_mono {c : Code} {Q' : Exit → St → Prop} (h : T P G c st Q) (k : ∀ e s, Q e s → Q' e s) : T P G c st Q' :=
  fun φ a w r => wp_mono (h φ a w r) (fun _ _ _ ⟨s, φ, q, r⟩ => ⟨s, φ, k _ _ q, r⟩)

theorem T_skip (h : Q .normal st) : T P G .skip st Q := fun φ _ _ r => wp_skip ⟨st, φ, h, r⟩
theorem T_ret (h : Q .ret st) : T P G .ret st Q := fun φ _ _ r => wp_ret ⟨st, φ, h, r⟩
theorem T_exit {id : Nat} (h : Q (.exit id) st) : T P G (.exit id) st Q := fun φ _ _ r => wp_exit ⟨st, φ, h, r⟩

def thenQ (P : Program) (G : Gh) (c : Code) (Q : Exit → St → Prop) : Exit → St → Prop
  | .normal, s => T P G c s Q
  | e, s => Q e s

theorem T_seq {x y : Code} (h : T P G x st (thenQ P G y Q)) : T P G (.seq x y) st Q := by
  intro φ a w r
  refine wp_seq (wp_mono (h φ a w r) ?_)
  rintro e a w ⟨s, φ, q, r⟩
  cases e with
  | normal => exact q φ a w r
  | exit id => exact ⟨s, φ, q, r⟩
  | goto l => exact ⟨s, φ, q, r⟩
  | ret => exact ⟨s, φ, q, r⟩
  | panic c => exact ⟨s, φ, q, r⟩
  | outgrown => exact ⟨s, φ, q, r⟩

theorem T_cond {c : Operand} {x y : Code} {b : Bool} (hc : st.get c = .bool b) (h1 : b = true → T P G x st Q) (h2 : b = false → T P G y st Q) : T P G (.cond c x y) st Q := by
  intro φ a w r
  have hr := r.get c
  rw [hc] at hr
  have he := hr.bool_inv
  refine wp_cond he ?_
  cases b with
  | true => exact h1 rfl φ a w r
  | false => exact h2 rfl φ a w r

def blockQ (id : Nat) (Q : Exit → St → Prop) : Exit → St → Prop
  | .exit id', s => if id' = id then Q .normal s else Q (.exit id') s
  | e, s => Q e s

theorem T_block {id : Nat} {c : Code} (h : T P G c st (blockQ id Q)) : T P G (.block id c) st Q := by
  intro φ a w r
  refine wp_block (wp_mono (h φ a w r) ?_)
  rintro e a w ⟨s, φ, q, r⟩
  cases e with
  | exit id' =>
    simp only [blockQ] at q
    simp only [Exit.inBlock]
    split at q
    · rename_i hi; rw [if_pos hi]; exact ⟨s, φ, q, r⟩
    · rename_i hi; rw [if_neg hi]; exact ⟨s, φ, q, r⟩
  | normal => exact ⟨s, φ, q, r⟩
  | goto l => exact ⟨s, φ, q, r⟩
  | ret => exact ⟨s, φ, q, r⟩
  | panic c => exact ⟨s, φ, q, r⟩
  | outgrown => exact ⟨s, φ, q, r⟩

def roundQ (I : Nat → St → Prop) (n : Nat) (Q : Exit → St → Prop) : Exit → St → Prop
  | .normal, s => ∃ m, m < n ∧ I m s
  | e, s => Q e s

theorem T_loop {c : Code} (I : Nat → St → Prop) (n : Nat) (h0 : I n st) (round : ∀ n s, I n s → T P G c s (roundQ I n Q)) : T P G (.loop c) st Q := by
  intro φ a w r b k cs
  have key : ∀ n a w s φ, I n s → RelA G s φ a w →
      ∃ e a' w', QE G Q e a' w' ∧ Arrives P (lone (b.at a (.code c :: .inLoop c :: k)) cs w) b k cs e a' w' := by
    intro n
    induction n using Nat.strongRecOn with
    | _ n ih =>
      intro a w s φ hI hr
      obtain ⟨e, a₁, w₁, ⟨s1, φ1, hq, hr1⟩, harr⟩ := round n s hI φ a w hr b (.inLoop c :: k) cs
      cases e with
      | normal =>
        obtain ⟨m, hlt, hI₁⟩ := hq
        obtain ⟨e₂, a₂, w₂, hq₂, harr₂⟩ := ih m hlt a₁ w₁ s1 φ1 hI₁ hr1
        exact ⟨e₂, a₂, w₂, hq₂, .of_steps (Steps.trans harr (.one step_inLoop)) harr₂⟩
      | exit id => exact ⟨_, a₁, w₁, ⟨s1, φ1, hq, hr1⟩, .pass (x := .inLoop c) rfl (fun _ _ => .inl (by simp)) harr⟩
      | goto l => exact ⟨_, a₁, w₁, ⟨s1, φ1, hq, hr1⟩, .pass (x := .inLoop c) rfl (fun _ _ => .inl (by simp)) harr⟩
      | ret => exact ⟨_, a₁, w₁, ⟨s1, φ1, hq, hr1⟩, .pass (x := .inLoop c) rfl (fun _ _ => .inl (by simp)) harr⟩
      | panic ch => exact ⟨_, a₁, w₁, ⟨s1, φ1, hq, hr1⟩, .pass (x := .inLoop c) rfl (fun _ _ => .inl (by simp)) harr⟩
      | outgrown => exact ⟨_, a₁, w₁, ⟨s1, φ1, hq, hr1⟩, .pass (x := .inLoop c) rfl (fun _ _ => .inl (by simp)) harr⟩
  obtain ⟨e, a', w', hq, harr⟩ := key n a w st φ h0 r
  exact ⟨e, a', w', hq, .of_steps (.one step_loop) harr⟩

theorem T_region {id : Nat} {ops : Array Oper} (h : TO P G ops (List.range ops.size) st Q) : T P G (.region id ops false) st Q :=
  fun φ a w r => wp_region (h φ a w r)

def Weak (st st' : St) : Prop :=
  (∀ t v, look st'.env t = some v → look st.env t = some v) ∧ st.nx ≤ st'.nx ∧
  (∀ id b', box? st'.bx id = some b' → ∃ b, box? st.bx id = some b ∧ b'.elems = b.elems ∧ b'.st = b.st ∧ b'.slack = b.slack ∧ (b.ro = true → b'.ro = true))

theorem RelA.weak {φ : Nat → Option Loc} {a : Act} {w : World} (h : RelA G st φ a w) {st' : St} (k : Weak st st') : RelA G st' φ a w := by
  obtain ⟨k1, k2, k3⟩ := k
  have hW := h.rel.weaken k2 k3
  exact ⟨hW.rel, h.defers, h.sz, fun t v e => ⟨(h.env t v (k1 t v e)).1, hW.rep (h.env t v (k1 t v e)).2⟩⟩

def pickSlots {α : Type} (l : List (Nat × α)) : List Nat → List (Nat × α)
  | [] => []
  | t :: ts => match look l t with
    | some v => (t, v) :: pickSlots l ts
    | none => pickSlots l ts

theorem look_pick {α : Type} (l : List (Nat × α)) : ∀ (ts : List Nat) (t : Nat) (v : α), look (pickSlots l ts) t = some v → look l t = some v
  | [], t, v, h => by simp [pickSlots, look] at h
  | k :: ts, t, v, h => by
    simp only [pickSlots] at h
    split at h
    · rename_i u hu
      rw [look_cons] at h
      split at h
      · rename_i e; subst e; rw [hu]; exact h
      · exact look_pick l ts t v h
    · exact look_pick l ts t v h

def St.keep (st : St) (ts ids : List Nat) : St := ⟨pickSlots st.env ts, pickSlots st.bx ids, st.nx⟩

def St.share (st : St) (id : Nat) : St :=
  match box? st.bx id with
  | some b => { st with bx := (id, some { b with ro := true }) :: st.bx }
  | none => st

theorem TO_nil {ops : Array Oper} (h : Q .normal st) : TO P G ops [] st Q := fun φ _ _ r => ⟨st, φ, h, r⟩

theorem wanted_none {o : Oper} (h : o.guard = none) (y : Nat → Option Bool) : Region.wanted o y = true := by simp [Region.wanted, h]

def guardSlot (ops : Array Oper) (j : Nat) : Option Tmp := (ops[j]?).bind (·.dst)

theorem yielded_of {ops : Array Oper} {j t : Nat} {b : Bool} (hs : guardSlot ops j = some t) {φ : Nat → Option Loc} {a : Act} {w : World} (r : RelA G st φ a w) (hb : look st.env t = some (.bool b)) :
    yielded ops a.tmps j = some b := by
  obtain ⟨h1, h2⟩ := r.env t _ hb
  have h3 := h2.bool_inv
  have hlt : t < a.tmps.size := by rw [r.sz]; exact h1
  have h4 : a.tmps[t]? = some (.bool b) := by
    rw [← h3]
    simp [Array.getD, hlt]
  unfold yielded
  unfold guardSlot at hs
  rw [hs]
  simp [h4]

theorem op_val (hty : TyOk P ty) {o : Oper} {K : Act → World → Prop} {p : Prop} {r : AV} (h : valStep ty st.bx st.get o.op = some (p, r)) (hp : p) (hd : slotOk G.n o.dst = true)
    (hK : ∀ φ a w, RelA G (st.set o.dst r) φ a w → K a w) : ∀ φ a w, RelA G st φ a w → o.wp P a w K (QE G Q) := by
  intro φ a w hr
  obtain ⟨v, w', h1, h2, h3⟩ := valStep_ok (P := P) hty hr.rel hr.get h hp
  unfold Oper.wp
  rw [h1]
  exact hK φ _ w' ((hr.ext h2).put hd h3)

theorem op_mem (hty : TyOk P ty) {o : Oper} {K : Act → World → Prop} {p : Prop} {r : AV} {bx' : List (Nat × Option Box)} {nx' : Nat} (h : memStep ty st.bx st.nx st.get o.op = some (p, r, bx', nx')) (hp : p)
    (hd : slotOk G.n o.dst = true) (hK : ∀ φ a w, RelA G ((St.mk st.env bx' nx').set o.dst r) φ a w → K a w) : ∀ φ a w, RelA G st φ a w → o.wp P a w K (QE G Q) := by
  intro φ a w hr
  obtain ⟨w', φ', h1, h2⟩ := memStep_ok (P := P) hty hr.rel hr.get h hp
  have hA := h1.relA hr
  unfold Oper.wp
  rcases h2 with ⟨v, h3, h4⟩ | ⟨h3, rfl⟩
  · rw [h3]
    exact hK φ' _ w' (hA.put hd h4)
  · rw [h3]
    exact hK φ' _ w' (hA.put_undef hd _)

end

end Go.Av
namespace Go.Av

def NoLoc : Nat → Option Loc := fun _ => none

def Callee (P : Program) (f : FuncId) : Prop := ∃ fn, P.funcs[f]? = some fn ∧ (fn.name == "runtime.NumGoroutine") = false ∧ fn.body.isNone = false

def CV (P : Program) (f : FuncId) (args : List AV) (R : AV → Prop) : Prop :=
  Callee P f ∧ ∀ (ok0 : Nat → Nat → Prop) (w : World) (vs : Array Value), (∀ b o, ok0 b o → b < w.heap.size) → RepAll w NoLoc ok0 args vs.toList →
    Calls P f vs w fun e w' => ∃ v r, e = .returned v ∧ R r ∧ Ext w w' ∧ Rep w' NoLoc (fun b o => b < w'.heap.size ∧ (b < w.heap.size → ok0 b o)) r v

def CR (P : Program) (f : FuncId) (args : List AV) (bs : List (Nat × Option Box)) (nx : Nat) (R : AV → List (Nat × Option Box) → Nat → Prop) : Prop :=
  Callee P f ∧ ∀ (G : Gh) (φ : Nat → Option Loc) (w : World) (vs : Array Value), G.w0 = w → G.φ0 = φ → G.nx0 = nx → Rel G bs nx φ w → RepAll w φ (OK G bs φ w) args vs.toList →
    Calls P f vs w fun e w' => ∃ v r bs' nx' φ', e = .returned v ∧ R r bs' nx' ∧ Rel G bs' nx' φ' w' ∧ Rep w' φ' (OK G bs' φ' w') r v

theorem CV.mono {P : Program} {f : FuncId} {args : List AV} {R R' : AV → Prop} (h : CV P f args R) (k : ∀ r, R r → R' r) : CV P f args R' :=
  ⟨h.1, fun ok0 w vs h1 h2 => (h.2 ok0 w vs h1 h2).mono fun _ _ ⟨v, r, e, hr, hx⟩ => ⟨v, r, e, k r hr, hx⟩⟩

theorem CR.mono {P : Program} {f : FuncId} {args : List AV} {bs : List (Nat × Option Box)} {nx : Nat} {R R' : AV → List (Nat × Option Box) → Nat → Prop} (h : CR P f args bs nx R) (k : ∀ r b n, R r b n → R' r b n) : CR P f args bs nx R' :=
  ⟨h.1, fun G φ w vs h1 h2 h3 h4 h5 => (h.2 G φ w vs h1 h2 h3 h4 h5).mono fun _ _ ⟨v, r, b, n, φ', e, hr, hx⟩ => ⟨v, r, b, n, φ', e, k r b n hr, hx⟩⟩

def Pure (x : AV) : Prop := ∀ w φ ok v, Rep w φ ok x v → Rep w NoLoc ok x v

theorem pure_undef : Pure .undef := fun _ _ _ v _ => .undef v
theorem pure_int (k : IntKind) (n : Int) : Pure (.int k n) := fun _ _ _ _ h => by cases h; exact .int _ _
theorem pure_bool (b : Bool) : Pure (.bool b) := fun _ _ _ _ h => by cases h; exact .bool _
theorem pure_str (s : ByteArray) : Pure (.str s) := fun _ _ _ _ h => by cases h; exact .str _
theorem pure_nilp : Pure .nilp := fun _ _ _ _ h => by cases h; exact .nilp
theorem pure_agg {cs : List AV} (h : ∀ y ∈ cs, Pure y) : Pure (.agg cs) := fun w φ ok _ k => by
  cases k with | agg _ vs hl hr => exact .agg _ vs hl fun i x v hx hv => h x (List.mem_of_getElem? hx) w φ ok v (hr i x v hx hv)
theorem pure_tup {cs : List AV} (h : ∀ y ∈ cs, Pure y) : Pure (.tup cs) := fun w φ ok _ k => by
  cases k with | tup _ vs hl hr => exact .tup _ vs hl fun i x v hx hv => h x (List.mem_of_getElem? hx) w φ ok v (hr i x v hx hv)
theorem pure_fn {f : FuncId} {cs : List AV} (h : ∀ y ∈ cs, Pure y) : Pure (.fn f cs) := fun w φ ok _ k => by
  cases k with | fn _ _ vs hl hr => exact .fn f _ vs hl fun i x v hx hv => h x (List.mem_of_getElem? hx) w φ ok v (hr i x v hx hv)
theorem pure_vp {cs : List AV} (h : ∀ y ∈ cs, Pure y) : Pure (.vp cs) := fun w φ ok _ k => by
  cases k with | vp b o _ vs hk hc hr => exact .vp b o _ vs hk hc fun i x hx => h x (List.mem_of_getElem? hx) w φ ok _ (hr i x hx)
theorem pure_ls {st : Nat} {n e : Bool} {xs : List AV} (h : ∀ x ∈ xs, ∀ y ∈ x.cells, Pure y) : Pure (.ls st n e xs) := fun w φ ok _ k => by
  cases k with | ls _ _ _ _ a c vs hl hn hc hr =>
  exact .ls st n e xs a c vs hl hn hc fun i x j y hx hy => h x (List.mem_of_getElem? hx) y (List.mem_of_getElem? hy) w φ ok _ (hr i x j y hx hy)

section
variable {P : Program} {ty : TypeId → Option TI} {G : Gh} {st : St} {Q : Exit → St → Prop}

def Vw (bx : List (Nat × Option Box)) (x : AV) (Y : AV → Prop) : Prop :=
  ∀ G nx φ w v, Rel G bx nx φ w → Rep w φ (OK G bx φ w) x v → ∃ y, Y y ∧ Rep w NoLoc (OK G bx φ w) y v

theorem vw_pure {bx : List (Nat × Option Box)} {x : AV} (h : Pure x) : Vw bx x (· = x) := fun _ _ _ _ _ _ k => ⟨x, rfl, h _ _ _ _ k⟩
theorem Vw.mono {bx : List (Nat × Option Box)} {x : AV} {Y Y' : AV → Prop} (h : Vw bx x Y) (k : ∀ y, Y y → Y' y) : Vw bx x Y' :=
  fun G nx φ w v h1 h2 => let ⟨y, h3, h4⟩ := h G nx φ w v h1 h2; ⟨y, k y h3, h4⟩

theorem vw_sl {bx : List (Nat × Option Box)} {id off len cap : Nat} {b : Box} (hb : box? bx id = some b) (hro : b.ro = true) (hfit : off + len ≤ b.elems.length)
    (hp : ∀ x ∈ (b.elems.drop off).take len, ∀ y ∈ x.cells, Pure y) :
    Vw bx (.sl id off len cap) (· = .ls b.st true false ((b.elems.drop off).take len)) := by
  intro G nx φ w v hrel hr
  obtain ⟨L, hL, hB, hm⟩ := hrel.box id b hb
  cases hr with | sl _ _ _ _ L' a c hL' hS =>
  obtain rfl : L = L' := by rw [hL] at hL'; exact Option.some.inj hL'
  obtain ⟨s1, s2, s3, s4, s5⟩ := hS
  have hyl : ((b.elems.drop off).take len).length = len := by simp; omega
  have hget : ∀ (i : Nat) (x : AV), ((b.elems.drop off).take len)[i]? = some x → b.elems[off + i]? = some x ∧ i < len := by
    intro i x hi
    have := (List.getElem?_eq_some_iff.1 hi).1
    rw [hyl] at this
    rw [List.getElem?_take_of_lt this, List.getElem?_drop] at hi
    exact ⟨hi, this⟩
  have hlen : ∀ (i : Nat) (x : AV), ((b.elems.drop off).take len)[i]? = some x → okCells b.st x := fun i x hi => by rw [hB.st]; exact hB.len _ x (hget i x hi).1
  by_cases hc : c = 0
  · have h0 : len = 0 := by omega
    subst h0
    have he : (b.elems.drop off).take 0 = [] := by simp
    rw [he]
    refine ⟨.ls b.st true false [], rfl, ?_⟩
    subst hc
    exact Rep.mk_ls (xs := []) ⟨Nat.le_refl _, fun h => (by cases h), fun _ h => (by cases h), fun h => (by cases h), fun h => absurd h (by omega), s4⟩ (fun i x h => (by simp at h)) (fun b o h i x j y hx => (by simp at hx))
  · obtain ⟨s6, ab, ao, s7, s8, s9, s10, s11⟩ := s5 hc
    subst s7
    refine ⟨.ls b.st true false ((b.elems.drop off).take len), rfl, ?_⟩
    have key : Rep w NoLoc (OK G bx φ w) (.ls b.st true false ((b.elems.drop off).take len)) (.slice (some ⟨ab, ao, none⟩) ((b.elems.drop off).take len).length c) := by
      refine Rep.mk_ls ⟨by rw [hyl]; omega, fun h => (by cases h), fun _ h => (by cases h), fun h => (by cases h), fun _ => ⟨_, _, rfl⟩, fun x hx => (by cases hx; rfl)⟩ hlen ?_
      intro b' o' hbo i x j y hx hy
      simp only [Option.some.injEq, Addr.mk.injEq] at hbo
      obtain ⟨rfl, rfl, _⟩ := hbo
      obtain ⟨g1, g2⟩ := hget i x hx
      obtain ⟨v, e1, e2⟩ := hB.cont s6 _ x j y g1 hy
      have hps := s10 i (by omega)
      rw [hps, ← hB.st] at e1
      have hj : j < L.st := by
        have := (List.getElem?_eq_some_iff.1 hy).1
        rw [(hlen i x hx).1, hB.st] at this
        exact this
      refine ⟨v, e1, ⟨hB.lt s6 s8, ?_, ?_⟩, hp x (List.mem_of_getElem? hx) y (List.mem_of_getElem? hy) _ _ _ _ e2⟩
      · intro id2 box2 L2 h1 h2 hv2 he2
        by_cases hid : id2 = id
        · subst hid
          rw [hb] at h1
          obtain rfl := Option.some.inj h1
          rw [hL] at h2
          obtain rfl := Option.some.inj h2
          refine ⟨hro, ?_⟩
          have := ((hB.lies s6).at' (off + i) (by omega)).2.2
          rw [hps] at this
          simp only at this
          rw [hB.st]
          omega
        · exact absurd s8 (hrel.apart id2 id box2 b L2 L h1 hb hid h2 hL hv2 s6 _ he2)
      · intro hlt
        rcases hm s6 _ s8 with h | h
        · omega
        · exact .inr h
    rw [hyl] at key
    exact key
end

end Go.Av
namespace Go.Av

section
variable {P : Program} {ty : TypeId → Option TI} {G : Gh} {st : St} {Q : Exit → St → Prop}

theorem run_call {f : FuncId} (hf : Callee P f) {ρ : Operand → Value} {dst : Option Tmp} {fop : Operand} {args : Array Operand} {ats : Array TypeId} {type : TypeId} {pos : String} {after : Array Edge} {guard : Option (Nat × Bool)}
    {caps : Array Value} (hv : ρ fop = .func (.func f) #[] caps) (w : World) :
    (execOp ρ ⟨dst, .call ⟨.value fop, args, ats⟩, type, pos, after, guard⟩).run P w = .ok (.enter f (args.map ρ ++ caps)) w := by
  obtain ⟨fn, h1, h2, h3⟩ := hf
  have h2' : ¬ (fn.name = "runtime.NumGoroutine") := by simpa using h2
  have h3' : ¬ (fn.body = none) := by
    intro e; rw [e] at h3; cases h3
  simp [execOp, resolve, Deferred.ofValue, hv, invoke, callFunc, h1, h2', h3']

def argsOf (st : St) (args : Array Operand) (caps : List AV) : List AV := args.toList.map st.get ++ caps

theorem rep_args {φ : Nat → Option Loc} {a : Act} {w : World} (r : RelA G st φ a w) {args : Array Operand} {f : FuncId} {caps : List AV} {capv : Array Value}
    (hc : Rep w φ (OK G st.bx φ w) (.fn f caps) (.func (.func f) #[] capv)) : RepAll w φ (OK G st.bx φ w) (argsOf st args caps) (args.map a.eval ++ capv).toList := by
  cases hc with | fn _ _ vs hl hr =>
  refine ⟨by simp [argsOf, hl], fun i x v hx hv => ?_⟩
  simp only [argsOf, Array.toList_append, Array.toList_map] at hx hv
  rw [List.getElem?_append] at hx hv
  simp only [List.length_map] at hx hv
  split at hx
  · rename_i hi
    rw [if_pos hi] at hv
    simp only [List.getElem?_map, Option.map_eq_some_iff] at hx hv
    obtain ⟨o, h1, rfl⟩ := hx
    obtain ⟨o', h2, rfl⟩ := hv
    rw [h1] at h2
    obtain rfl := Option.some.inj h2
    exact r.get o
  · rename_i hi
    rw [if_neg hi] at hv
    exact hr _ x v hx (by simpa using hv)

def VwAll (bx : List (Nat × Option Box)) (xs : List AV) (Y : List AV → Prop) : Prop :=
  ∀ G nx φ w vs, Rel G bx nx φ w → RepAll w φ (OK G bx φ w) xs vs → ∃ ys, Y ys ∧ RepAll w NoLoc (OK G bx φ w) ys vs

theorem vwAll_pure {bx : List (Nat × Option Box)} {xs : List AV} (h : ∀ x ∈ xs, Pure x) : VwAll bx xs (· = xs) :=
  fun _ _ _ _ _ _ k => ⟨xs, rfl, k.1, fun i x v hx hv => h x (List.mem_of_getElem? hx) _ _ _ _ (k.2 i x v hx hv)⟩

theorem box?_append (l l' : List (Nat × Option Box)) (id : Nat) : box? (l ++ l') id = match look l id with | some b => b | none => box? l' id := by
  induction l with
  | nil => rfl
  | cons a l ih =>
    obtain ⟨k, b⟩ := a
    simp only [List.cons_append, box?_cons, look_cons]
    split
    · rfl
    · exact ih

theorem look_kill (ids : List Nat) (id : Nat) : look (ids.map fun i => (i, (none : Option Box))) id = if id ∈ ids then some none else none := by
  induction ids with
  | nil => simp [look]
  | cons a ids ih =>
    simp only [List.map_cons, look_cons, ih, List.mem_cons]
    by_cases h : a = id
    · simp [h]
    · have h' : ¬ id = a := fun e => h e.symm
      simp [h, h']

theorem op_callR {o : Oper} {fop : Operand} {args : Array Operand} {ats : Array TypeId} (hop : o.op = .call ⟨.value fop, args, ats⟩) {f : FuncId} {caps : List AV} (hf : st.get fop = .fn f caps)
    (ids : List Nat) {R : AV → List (Nat × Option Box) → Nat → Prop} (hC : CR P f (argsOf st args caps) (pickSlots st.bx ids) st.nx R)
    (hids : ∀ r bs' nx', R r bs' nx' → ∀ id b, look bs' id = some b → id ∈ ids ∨ st.nx ≤ id) (hd : slotOk G.n o.dst = true) {K : Act → World → Prop}
    (hK : ∀ r bs' nx', R r bs' nx' → ∀ φ a w, RelA G ((St.mk st.env (bs' ++ (ids.map fun i => (i, none)) ++ st.bx) nx').set o.dst r) φ a w → K a w) :
    ∀ φ a w, RelA G st φ a w → o.wp P a w K (QE G Q) := by
  intro φ a w hr
  obtain ⟨dst, op, type, pos, after, guard⟩ := o
  simp only at hop hd hK
  subst hop
  have hfv := hr.get fop
  rw [hf] at hfv
  have hfv0 := hfv
  generalize hvv : a.eval fop = u at hfv
  cases hfv with | fn _ _ capv hl hcr =>
  rw [hvv] at hfv0
  have hA := rep_args hr (args := args) hfv0
  have hsub : ∀ id b, box? (pickSlots st.bx ids) id = some b → box? st.bx id = some b := by
    intro id b h
    simp only [box?] at h ⊢
    cases hl : look (pickSlots st.bx ids) id with
    | none => rw [hl] at h; cases h
    | some o => rw [hl] at h; rw [look_pick _ _ _ _ hl]; exact h
  have hpick : ∀ ids id b, look (pickSlots st.bx ids) id = some b → id ∈ ids := by
    intro ids
    induction ids with
    | nil => intro id b h; simp [pickSlots, look] at h
    | cons k ids ih =>
      intro id b h
      simp only [pickSlots] at h
      split at h
      · rw [look_cons] at h
        split at h
        · rename_i e; simp [e]
        · exact List.mem_cons_of_mem _ (ih id b h)
      · exact List.mem_cons_of_mem _ (ih id b h)
  let G2 : Gh := ⟨w, OK G st.bx φ w, fun b => ∃ id box L, box? (pickSlots st.bx ids) id = some box ∧ φ id = some L ∧ L.virt = false ∧ L.own b, 0, φ, st.nx⟩
  have hokB : ∀ b o, okB st.bx φ b o → okB (pickSlots st.bx ids) φ b o := fun b o h id box L h1 h2 => h id box L (hsub id box h1) h2
  have hcell : ∀ b o, OK G st.bx φ w b o → OK G2 (pickSlots st.bx ids) φ w b o ∧ w.cell? ⟨b, o, none⟩ = w.cell? ⟨b, o, none⟩ := fun b o h => ⟨⟨h.1, hokB b o h.2.1, fun _ => .inl h⟩, rfl⟩
  have hrel2 : Rel G2 (pickSlots st.bx ids) st.nx φ w := by
    constructor
    · rfl
    · rfl
    · rfl
    · exact Nat.le_refl _
    · exact fun _ _ _ => rfl
    · exact fun _ _ _ => rfl
    · exact fun b o h => ⟨h.1, hokB b o h.2.1⟩
    · intro id b hb
      obtain ⟨L, hL, hB, hm⟩ := hr.rel.box id b (hsub id b hb)
      exact ⟨L, hL, hB.mono hcell (fun _ _ h => h) (fun _ _ _ => rfl), fun hv k hk => .inr ⟨id, b, L, hb, hL, hv, hk⟩⟩
    · exact fun id id' b b' L L' h1 h2 => hr.rel.apart id id' b b' L L' (hsub id b h1) (hsub id' b' h2)
    · exact hr.rel.dom
    · exact fun _ _ => rfl
    · exact Nat.le_refl _
  unfold Oper.wp
  rw [run_call hC.1 hvv w, Oper.upon_enter]
  refine (hC.2 G2 φ w _ rfl rfl rfl hrel2 ⟨hA.1, fun i x v hx hv => (hA.2 i x v hx hv).mono hcell (fun _ _ h => h)⟩).mono ?_
  rintro e w' ⟨v, r, bs', nx', φ', rfl, hR, hrel', hrep⟩
  -- all that the caller knew of cells holds on
  have hloc : ∀ id L, φ id = some L → φ' id = some L := by
    intro id L h
    have : id < st.nx := by
      rcases Nat.lt_or_ge id st.nx with k | k
      · exact k
      · rw [hr.rel.dom id k] at h; cases h
    rw [hrel'.agree id this]; exact h
  have hbx : ∀ id b, box? (bs' ++ (ids.map fun i => (i, none)) ++ st.bx) id = some b → box? bs' id = some b ∨ (look bs' id = none ∧ id ∉ ids ∧ box? st.bx id = some b) := by
    intro id b h
    rw [List.append_assoc, box?_append] at h
    cases hl : look bs' id with
    | some o => rw [hl] at h; left; simp only [box?, hl]; exact h
    | none =>
      rw [hl] at h
      simp only at h
      rw [box?_append, look_kill] at h
      by_cases hi : id ∈ ids
      · rw [if_pos hi] at h; cases h
      · rw [if_neg hi] at h; exact .inr ⟨rfl, hi, h⟩
  -- a box of the rest lies apart from what was lent and what is new
  have hrest : ∀ id b L, id ∉ ids → box? st.bx id = some b → φ id = some L → L.virt = false → ∀ k, L.own k → ¬ G2.wr k ∧ k < w.heap.size := by
    intro id b L h1 h2 h3 h4 kb hkb
    obtain ⟨L', hL', hB, _⟩ := hr.rel.box id b h2
    obtain rfl : L = L' := by rw [h3] at hL'; exact Option.some.inj hL'
    refine ⟨?_, hB.lt h4 hkb⟩
    rintro ⟨id', b', L', g1, g2, g3, g4⟩
    have hin : id' ∈ ids := by
      simp only [box?] at g1
      cases hl : look (pickSlots st.bx ids) id' with
      | none => rw [hl] at g1; cases g1
      | some o => exact hpick ids id' o hl
    exact hr.rel.apart id' id b' b L' L (hsub _ _ g1) h2 (fun e => h1 (e ▸ hin)) g2 h3 g3 h4 kb g4 hkb
  have hlook : ∀ id b, look bs' id = some b → id ∈ ids ∨ st.nx ≤ id := hids r bs' nx' hR
  have hlookb : ∀ id b, box? bs' id = some b → ∃ o, look bs' id = some o := by
    intro id b h
    simp only [box?] at h
    cases hl : look bs' id with
    | none => rw [hl] at h; cases h
    | some o => exact ⟨o, rfl⟩
  have hcell' : ∀ b o, OK G st.bx φ w b o → OK G (bs' ++ (ids.map fun i => (i, none)) ++ st.bx) φ' w' b o ∧ w'.cell? ⟨b, o, none⟩ = w.cell? ⟨b, o, none⟩ := by
    intro b o h
    refine ⟨⟨Nat.lt_of_lt_of_le h.1 hrel'.size, ?_, h.2.2⟩, hrel'.kept b o h⟩
    intro id box L h1 h2 hv he
    rcases hbx id box h1 with h3 | ⟨h3, h4, h5⟩
    · exact (hrel'.okk b o h).2 id box L h3 h2 hv he
    · obtain ⟨L', hL', _⟩ := hr.rel.box id box h5
      have := hloc _ _ hL'
      rw [h2] at this
      obtain rfl := Option.some.inj this
      exact h.2.1 id box L h5 hL' hv he
  have hcellR : ∀ b o, OK G2 bs' φ' w' b o → OK G (bs' ++ (ids.map fun i => (i, none)) ++ st.bx) φ' w' b o ∧ w'.cell? ⟨b, o, none⟩ = w'.cell? ⟨b, o, none⟩ := by
    intro b o h
    refine ⟨⟨h.1, ?_, fun hlt => ?_⟩, rfl⟩
    · intro id box L h1 h2 hv he
      rcases hbx id box h1 with h3 | ⟨h3, h4, h5⟩
      · exact h.2.1 id box L h3 h2 hv he
      · obtain ⟨L', hL', _⟩ := hr.rel.box id box h5
        have := hloc _ _ hL'
        rw [h2] at this
        obtain rfl := Option.some.inj this
        obtain ⟨g1, g2⟩ := hrest id box L h4 h5 hL' hv b he
        rcases h.2.2 g2 with k | k
        · exact k.2.1 id box L h5 hL' hv he
        · exact absurd k g1
    · rcases h.2.2 (Nat.lt_of_lt_of_le hlt hr.rel.size) with k | ⟨id, box, L, k1, k2, k3, k4⟩
      · exact k.2.2 hlt
      · obtain ⟨L', hL', _, hm⟩ := hr.rel.box id box (hsub _ _ k1)
        obtain rfl : L = L' := by rw [k2] at hL'; exact Option.some.inj hL'
        rcases hm k3 _ k4 with k5 | k5
        · omega
        · exact .inr k5
  have hfin : Rel G (bs' ++ (ids.map fun i => (i, none)) ++ st.bx) nx' φ' w' := by
    constructor
    · exact hrel'.os.trans hr.rel.os
    · exact hrel'.tape.trans hr.rel.tape
    · exact hrel'.output.trans hr.rel.output
    · exact Nat.le_trans hr.rel.size hrel'.size
    · intro b hb hw
      have hlt : b < w.heap.size := Nat.lt_of_lt_of_le hb hr.rel.size
      refine (hrel'.frame b hlt ?_).trans (hr.rel.frame b hb hw)
      rintro ⟨id, box, L, k1, k2, k3, k4⟩
      obtain ⟨L', hL', _, hm⟩ := hr.rel.box id box (hsub _ _ k1)
      obtain rfl : L = L' := by rw [k2] at hL'; exact Option.some.inj hL'
      rcases hm k3 _ k4 with k5 | k5
      · omega
      · exact hw k5
    · intro b o hk
      exact (hrel'.kept b o (hr.rel.ok_of_ok0 hk)).trans (hr.rel.kept b o hk)
    · intro b o hk
      exact ⟨(hr.rel.okk b o hk).1, (hcell' b o (hr.rel.ok_of_ok0 hk)).1.2.1⟩
    · intro id b hb
      rcases hbx id b hb with h3 | ⟨h3, h4, h5⟩
      · obtain ⟨L, hL, hB, hm⟩ := hrel'.box id b h3
        refine ⟨L, hL, hB.mono hcellR (fun _ _ h => h) (fun _ _ _ => rfl), fun hv kb hkb => ?_⟩
        rcases hm hv kb hkb with k | ⟨id2, box2, L2, k1, k2, k3, k4⟩
        · exact .inl (Nat.le_trans hr.rel.size k)
        · obtain ⟨L', hL', _, hm'⟩ := hr.rel.box id2 box2 (hsub _ _ k1)
          obtain rfl : L2 = L' := by rw [k2] at hL'; exact Option.some.inj hL'
          exact hm' k3 _ k4
      · obtain ⟨L, hL, hB, hm⟩ := hr.rel.box id b h5
        refine ⟨L, hloc _ _ hL, hB.mono hcell' hloc (fun hv kb hkb => ?_), hm⟩
        obtain ⟨g1, g2⟩ := hrest id b L h4 h5 hL hv kb hkb
        exact hrel'.frame kb g2 g1
    · intro i i' c c' L1 L2 h1 h2 hne h3 h4 hv1 hv2 kb q1 q2
      rcases hbx i c h1 with k1 | ⟨k1, k2, k3⟩
      · rcases hbx i' c' h2 with j1 | ⟨j1, j2, j3⟩
        · exact hrel'.apart i i' c c' L1 L2 k1 j1 hne h3 h4 hv1 hv2 kb q1 q2
        · obtain ⟨L, hL, _⟩ := hr.rel.box i' c' j3
          have := hloc _ _ hL
          rw [h4] at this
          obtain rfl := Option.some.inj this
          obtain ⟨g1, g2⟩ := hrest i' c' L2 j2 j3 hL hv2 kb q2
          obtain ⟨L', hL', _, hm⟩ := hrel'.box i c k1
          obtain rfl : L1 = L' := by rw [h3] at hL'; exact Option.some.inj hL'
          rcases hm hv1 kb q1 with q | q
          · have q' : w.heap.size ≤ kb := q
            omega
          · exact g1 q
      · obtain ⟨L, hL, _⟩ := hr.rel.box i c k3
        have := hloc _ _ hL
        rw [h3] at this
        obtain rfl := Option.some.inj this
        rcases hbx i' c' h2 with j1 | ⟨j1, j2, j3⟩
        · obtain ⟨g1, g2⟩ := hrest i c L1 k2 k3 hL hv1 kb q1
          obtain ⟨L', hL', _, hm⟩ := hrel'.box i' c' j1
          obtain rfl : L2 = L' := by rw [h4] at hL'; exact Option.some.inj hL'
          rcases hm hv2 kb q2 with q | q
          · have q' : w.heap.size ≤ kb := q
            omega
          · exact g1 q
        · obtain ⟨L', hL', _⟩ := hr.rel.box i' c' j3
          have := hloc _ _ hL'
          rw [h4] at this
          obtain rfl := Option.some.inj this
          exact hr.rel.apart i i' c c' L1 L2 k3 j3 hne hL hL' hv1 hv2 kb q1 q2
    · exact hrel'.dom
    · intro id hid
      have : id < st.nx := Nat.lt_of_lt_of_le hid hr.rel.nxle
      rw [hrel'.agree id this]
      exact hr.rel.agree id hid
    · exact Nat.le_trans hr.rel.nxle hrel'.nxle
  refine hK r bs' nx' hR φ' _ w' (RelA.put (st := St.mk st.env (bs' ++ (ids.map fun i => (i, none)) ++ st.bx) nx') ⟨hfin, hr.defers, hr.sz, fun t v ht => ⟨(hr.env t v ht).1, (hr.env t v ht).2.mono hcell' hloc⟩⟩ hd ?_)
  exact hrep.mono hcellR (fun _ _ h => h)
end

end Go.Av
namespace Go.Av

def shareAll (bx : List (Nat × Option Box)) : List (Nat × Option Box) := bx.map fun p => (p.1, p.2.map fun b => { b with ro := true })

theorem box?_shareAll (bx : List (Nat × Option Box)) (id : Nat) : box? (shareAll bx) id = (box? bx id).map fun b => { b with ro := true } := by
  induction bx with
  | nil => rfl
  | cons a bx ih =>
    obtain ⟨k, b⟩ := a
    simp only [shareAll, List.map_cons, box?_cons] at ih ⊢
    split
    · rfl
    · exact ih

def argEnv : Nat → List AV → List (Nat × AV)
  | _, [] => []
  | k, a :: r => (k, a) :: argEnv (k + 1) r

theorem look_argEnv : ∀ (l : List AV) (k t : Nat) (v : AV), look (argEnv k l) t = some v → k ≤ t ∧ l[t - k]? = some v
  | [], k, t, v, h => by simp [argEnv, look] at h
  | a :: r, k, t, v, h => by
    simp only [argEnv, look_cons] at h
    split at h
    · rename_i e; subst e; simpa using h
    · rename_i e
      obtain ⟨h1, h2⟩ := look_argEnv r (k + 1) t v h
      refine ⟨by omega, ?_⟩
      rw [show t - k = (t - (k + 1)) + 1 by omega]
      simpa using h2

def resOne (ty : TypeId → Option TI) (st : St) : ResultVar → Option (Prop × AV)
  | .tmp t => (look st.env t).map fun v => (True, v)
  | .cell a t => match ty t, look st.env a with
    | some ti, some (.ptr id e k) => match box? st.bx id with
      | some b => some (e < b.elems.length ∧ (cut false ti (b.elems.getD e .undef).cells k).1, (cut false ti (b.elems.getD e .undef).cells k).2)
      | none => none
    | _, _ => none

def resList (ty : TypeId → Option TI) (st : St) : List ResultVar → Option (Prop × List AV)
  | [] => some (True, [])
  | r :: rs => match resOne ty st r, resList ty st rs with
    | some (p, x), some (q, xs) => some (p ∧ q, x :: xs)
    | _, _ => none

def oneOrTup : List AV → AV
  | [x] => x
  | xs => .tup xs

def retV (ty : TypeId → Option TI) (rs : List ResultVar) (R : AV → Prop) : Exit → St → Prop := fun e s =>
  (match e with | .normal | .ret => True | _ => False) ∧ ∃ p xs, resList ty s rs = some (p, xs) ∧ p ∧ Vw (shareAll s.bx) (oneOrTup xs) R

def retR (ty : TypeId → Option TI) (rs : List ResultVar) (R : AV → List (Nat × Option Box) → Nat → Prop) : Exit → St → Prop := fun e s =>
  (match e with | .normal | .ret => True | _ => False) ∧ ∃ p xs, resList ty s rs = some (p, xs) ∧ p ∧ R (oneOrTup xs) s.bx s.nx

def resFn (tmps : Array Value) : ResultVar → Sem Value
  | .tmp t => pure (tmps.getD t Go.undef)
  | .cell a t => do loadVar t (← asAddr (tmps.getD a Go.undef))

theorem results_eq (fn : Func) (tmps : Array Value) : results fn tmps = (do let vs ← fn.results.mapM (resFn tmps); pure (if h : vs.size = 1 then vs[0] else .tuple vs)) := by
  unfold results
  congr 1

section
variable {P : Program} {ty : TypeId → Option TI} {G : Gh} {st : St} {Q : Exit → St → Prop}

theorem resOne_ok (hty : TyOk P ty) {φ : Nat → Option Loc} {a : Act} {w : World} (hr : RelA G st φ a w) {r : ResultVar} {p : Prop} {x : AV} (h : resOne ty st r = some (p, x)) (hp : p) :
    ∃ v, (resFn a.tmps r).run P w = .ok v w ∧ Rep w φ (OK G st.bx φ w) x v := by
  cases r with
  | tmp t =>
    simp only [resOne] at h
    cases hl : look st.env t with
    | none => simp [hl] at h
    | some v =>
      simp only [hl, Option.map_some, Option.some.injEq, Prod.mk.injEq] at h
      obtain ⟨rfl, rfl⟩ := h
      exact ⟨_, rfl, (hr.env t v hl).2⟩
  | cell ad t =>
    simp only [resOne] at h
    split at h
    · rename_i ti id e k ht hl
      split at h
      · rename_i b hb
        simp only [Option.some.injEq, Prod.mk.injEq] at h
        obtain ⟨rfl, rfl⟩ := h
        have hu := (hr.env ad _ hl).2
        generalize hvv : a.tmps.getD ad Go.undef = u at hu
        obtain ⟨v, h1, h2⟩ := load_ok (P := P) hty hr.rel ht hb hu hp.1 hp.2
        cases hu with | ptr _ _ _ L hL hv =>
        refine ⟨v, ?_, h2⟩
        simp only [resFn, hvv]
        simpa [Instr.loadAt, Instr.sureAddr, asAddr] using h1
      · cases h
    · cases h

theorem resList_ok (hty : TyOk P ty) {φ : Nat → Option Loc} {a : Act} {w : World} (hr : RelA G st φ a w) : ∀ (rs : List ResultVar) (p : Prop) (xs : List AV), resList ty st rs = some (p, xs) → p →
    ∃ vs, (rs.mapM (resFn a.tmps)).run P w = .ok vs w ∧ RepAll w φ (OK G st.bx φ w) xs vs
  | [], p, xs, h, hp => by
    simp only [resList, Option.some.injEq, Prod.mk.injEq] at h
    obtain ⟨_, rfl⟩ := h
    exact ⟨[], rfl, rfl, fun i x v h => by simp at h⟩
  | r :: rs, p, xs, h, hp => by
    simp only [resList] at h
    split at h
    · rename_i p1 x q ys h1 h2
      simp only [Option.some.injEq, Prod.mk.injEq] at h
      obtain ⟨rfl, rfl⟩ := h
      obtain ⟨v, e1, e2⟩ := resOne_ok (P := P) hty hr h1 hp.1
      obtain ⟨vs, e3, e4⟩ := resList_ok hty hr rs q ys h2 hp.2
      refine ⟨v :: vs, ?_, by simp [e4.1], fun i a b ha hb => ?_⟩
      · simp only [List.mapM_cons, Sem.run_bind, e1, Result.andThen_ok, e3, Sem.run_pure]
      · cases i with
        | zero => simp at ha hb; subst ha; subst hb; exact e2
        | succ i => exact e4.2 i a b (by simpa using ha) (by simpa using hb)
    · cases h

theorem results_ok (hty : TyOk P ty) {φ : Nat → Option Loc} {a : Act} {w : World} (hr : RelA G st φ a w) {fn : Func} {p : Prop} {xs : List AV} (h : resList ty st fn.results.toList = some (p, xs)) (hp : p) :
    ∃ v, (results fn a.tmps).run P w = .ok v w ∧ Rep w φ (OK G st.bx φ w) (oneOrTup xs) v := by
  obtain ⟨vs, h1, h2⟩ := resList_ok (P := P) hty hr _ p xs h hp
  have hrun : (results fn a.tmps).run P w = .ok (if h : vs.toArray.size = 1 then vs.toArray[0] else .tuple vs.toArray) w := by
    rw [results_eq, Array.mapM_eq_mapM_toList]
    simp only [Sem.run_bind, Sem.run_map, h1, Result.andThen_ok, Sem.run_pure]
  refine ⟨_, hrun, ?_⟩
  cases xs with
  | nil =>
    obtain rfl : vs = [] := List.length_eq_zero_iff.1 h2.1
    simp only [oneOrTup]
    exact .tup [] #[] rfl (fun i x v h => by simp at h)
  | cons x xs =>
    cases xs with
    | nil =>
      obtain ⟨v, rfl⟩ : ∃ v, vs = [v] := by
        have := h2.1
        cases vs with
        | nil => simp at this
        | cons v vs =>
          simp at this
          have e : vs = [] := List.length_eq_zero_iff.1 (by simpa using this)
          exact ⟨v, by rw [e]⟩
      simp only [oneOrTup]
      exact h2.2 0 x v rfl rfl
    | cons y xs =>
      have hl : vs.toArray.size ≠ 1 := by
        have := h2.1
        simp at this ⊢
        omega
      rw [dif_neg hl]
      exact .tup _ _ (by simp [h2.1]) (fun i a b ha hb => h2.2 i a b ha (by simpa using hb))

theorem entry {args : List AV} {vs : Array Value} {n nx : Nat} {bs : List (Nat × Option Box)} {φ : Nat → Option Loc} {w : World} (hrel : Rel G bs nx φ w) (hG : G.n = n) (hA : RepAll w φ (OK G bs φ w) args vs.toList) (hn : args.length ≤ n) :
    RelA G ⟨argEnv 0 args, bs, nx⟩ φ { tmps := vs ++ Array.replicate (n - vs.size) Go.undef, defers := [] } w := by
  have hvl : vs.size = args.length := by have := hA.1; simpa using this
  refine ⟨hrel, rfl, by simp [hG]; omega, fun t v h => ?_⟩
  obtain ⟨_, h2⟩ := look_argEnv args 0 t v h
  rw [Nat.sub_zero] at h2
  have hlt := (List.getElem?_eq_some_iff.1 h2).1
  refine ⟨by omega, ?_⟩
  have hvt : vs[t]? = some vs[t] := Array.getElem?_eq_getElem (by omega)
  have e : (vs ++ Array.replicate (n - vs.size) Go.undef).getD t Go.undef = vs[t] := by
    rw [Array.getD_eq_getD_getElem?, Array.getElem?_append_left (by omega), hvt]
    rfl
  simp only [e]
  exact hA.2 t v _ h2 (by rw [Array.getElem?_toList]; exact hvt)

theorem CV_intro (hty : TyOk P ty) {f : FuncId} {fn : Func} {c : Code} {args : List AV} {R : AV → Prop} (hf : P.funcs[f]? = some fn) (hname : (fn.name == "runtime.NumGoroutine") = false) (hb : fn.body = some c)
    (n : Nat) (hn : fn.ntmps = n) (hargs : args.length ≤ n) (rs : List ResultVar) (hrs : fn.results.toList = rs)
    (h : ∀ w0 ok0, T P ⟨w0, ok0, fun _ => False, n, NoLoc, 0⟩ c ⟨argEnv 0 args, [], 0⟩ (retV ty rs R)) : CV P f args R := by
  refine ⟨⟨fn, hf, hname, by rw [hb]; rfl⟩, fun ok0 w vs hok hA => ?_⟩
  let G : Gh := ⟨w, ok0, fun _ => False, n, NoLoc, 0⟩
  have hrel : Rel G [] 0 NoLoc w := by
    constructor
    · rfl
    · rfl
    · rfl
    · exact Nat.le_refl _
    · exact fun _ _ _ => rfl
    · exact fun _ _ _ => rfl
    · exact fun b o k => ⟨hok b o k, fun id box L h => by simp [box?, look] at h⟩
    · intro id b h; simp [box?, look] at h
    · intro id id' b b' L L' h; simp [box?, look] at h
    · exact fun _ _ => rfl
    · exact fun _ _ => rfl
    · exact Nat.le_refl _
  have hA' : RepAll w NoLoc (OK G [] NoLoc w) args vs.toList :=
    ⟨hA.1, fun i x v hx hv => (hA.2 i x v hx hv).mono (fun b o k => ⟨⟨hok b o k, fun id box L h => (by simp [box?, look] at h), fun _ => .inl k⟩, rfl⟩) (fun _ _ h => h)⟩
  refine calls_of_wp hf hb ?_
  rw [hn]
  refine wp_mono (h w ok0 NoLoc _ w (entry (G := G) hrel rfl hA' hargs)) ?_
  rintro e a' w' ⟨s, φ, ⟨he, p, xs, hl, hp, hV⟩, hr⟩
  have hend : a'.defers = [] ∧ ∃ v, (results fn a'.tmps).run P w' = .ok v w' ∧
      ∃ v1 r, Ending.returned v = .returned v1 ∧ R r ∧ Ext w w' ∧ Rep w' NoLoc (fun b o => b < w'.heap.size ∧ (b < w.heap.size → ok0 b o)) r v1 := by
    refine ⟨hr.defers, ?_⟩
    obtain ⟨v, h1, h2⟩ := results_ok (P := P) hty hr (by rw [hrs]; exact hl) hp
    refine ⟨v, h1, v, ?_⟩
    have hW := hr.rel.weaken (bx' := shareAll s.bx) (Nat.le_refl _) (fun id b' h => by
      rw [box?_shareAll] at h
      simp only [Option.map_eq_some_iff] at h
      obtain ⟨b, h1, rfl⟩ := h
      exact ⟨b, h1, rfl, rfl, rfl, fun _ => rfl⟩)
    obtain ⟨r, hR, hrep⟩ := hV G _ φ w' v hW.rel (hW.rep h2)
    refine ⟨r, rfl, hR, ⟨hr.rel.os, hr.rel.tape, hr.rel.output, hr.rel.size, fun b hb => hr.rel.frame b hb (fun h => h)⟩, hrep.mono (fun b o k => ⟨⟨k.1, fun hlt => ?_⟩, rfl⟩) (fun _ _ h => h)⟩
    rcases k.2.2 hlt with k | k
    · exact k
    · exact k.elim
  cases e with
  | normal => exact hend
  | ret => exact hend
  | exit id => exact he.elim
  | goto l => exact he.elim
  | panic c => exact he.elim
  | outgrown => exact he.elim

theorem CR_intro (hty : TyOk P ty) {f : FuncId} {fn : Func} {c : Code} {args : List AV} {bs : List (Nat × Option Box)} {nx : Nat} {R : AV → List (Nat × Option Box) → Nat → Prop} (hf : P.funcs[f]? = some fn)
    (hname : (fn.name == "runtime.NumGoroutine") = false) (hb : fn.body = some c) (n : Nat) (hn : fn.ntmps = n) (hargs : args.length ≤ n) (rs : List ResultVar) (hrs : fn.results.toList = rs)
    (h : ∀ w0 ok0 wr φ0, T P ⟨w0, ok0, wr, n, φ0, nx⟩ c ⟨argEnv 0 args, bs, nx⟩ (retR ty rs R)) : CR P f args bs nx R := by
  refine ⟨⟨fn, hf, hname, by rw [hb]; rfl⟩, fun G φ w vs h0 h1 h2 hrel hA => ?_⟩
  subst h0; subst h1; subst h2
  have hrel' : Rel ⟨G.w0, G.ok0, G.wr, n, G.φ0, G.nx0⟩ bs G.nx0 G.φ0 G.w0 := ⟨hrel.os, hrel.tape, hrel.output, hrel.size, hrel.frame, hrel.kept, hrel.okk, hrel.box, hrel.apart, hrel.dom, hrel.agree, hrel.nxle⟩
  refine calls_of_wp hf hb ?_
  rw [hn]
  refine wp_mono (h G.w0 G.ok0 G.wr G.φ0 G.φ0 _ G.w0 (entry (G := ⟨G.w0, G.ok0, G.wr, n, G.φ0, G.nx0⟩) hrel' rfl hA hargs)) ?_
  rintro e a' w' ⟨s, φ, ⟨he, p, xs, hl, hp, hR⟩, hr⟩
  have hend : a'.defers = [] ∧ ∃ v, (results fn a'.tmps).run P w' = .ok v w' ∧
      ∃ v1 r bs' nx' φ', Ending.returned v = .returned v1 ∧ R r bs' nx' ∧ Rel G bs' nx' φ' w' ∧ Rep w' φ' (OK G bs' φ' w') r v1 := by
    refine ⟨hr.defers, ?_⟩
    obtain ⟨v, h1, h2⟩ := results_ok (P := P) hty hr (by rw [hrs]; exact hl) hp
    have hx := hr.rel
    exact ⟨v, h1, v, _, s.bx, s.nx, φ, rfl, hR, ⟨hx.os, hx.tape, hx.output, hx.size, hx.frame, hx.kept, hx.okk, hx.box, hx.apart, hx.dom, hx.agree, hx.nxle⟩, h2⟩
  cases e with
  | normal => exact hend
  | ret => exact hend
  | exit id => exact he.elim
  | goto l => exact he.elim
  | panic c => exact he.elim
  | outgrown => exact he.elim
end

end Go.Av
namespace Go.Av

def CallV (P : Program) (f : FuncId) (bx : List (Nat × Option Box)) (xs : List AV) (K : AV → Prop) : Prop :=
  Callee P f ∧ ∀ (G : Gh) (nx : Nat) (φ : Nat → Option Loc) (w : World) (vs : Array Value), Rel G bx nx φ w → RepAll w φ (OK G bx φ w) xs vs.toList →
    Calls P f vs w fun e w' => ∃ v r, e = .returned v ∧ K r ∧ Ext w w' ∧ Rep w' φ (OK G bx φ w') r v

theorem CV.back {P : Program} {G : Gh} {bx : List (Nat × Option Box)} {nx : Nat} {φ : Nat → Option Loc} {w w' : World} (hr : Rel G bx nx φ w) (hE : Ext w w') {r : AV} {v : Value}
    (hrep : Rep w' NoLoc (fun b o => b < w'.heap.size ∧ (b < w.heap.size → OK G bx φ w b o)) r v) : Rep w' φ (OK G bx φ w') r v := by
  refine hrep.mono (fun b o h => ⟨⟨h.1, ?_, ?_⟩, rfl⟩) (fun id L h => by cases h)
  · intro id box L h1 h2 hvt he
    by_cases hb : b < w.heap.size
    · exact (h.2 hb).2.1 id box L h1 h2 hvt he
    · obtain ⟨L', hL', hB, _⟩ := hr.box id box h1
      obtain rfl : L = L' := by rw [h2] at hL'; exact Option.some.inj hL'
      have := hB.lt hvt he
      omega
  · intro hlt
    have hb : b < w.heap.size := Nat.lt_of_lt_of_le hlt hr.size
    exact (h.2 hb).2.2 hlt

theorem callV_of {P : Program} {f : FuncId} {bx : List (Nat × Option Box)} {xs : List AV} {Y : List AV → Prop} {R K : AV → Prop} (hv : VwAll bx xs Y) (hE : Callee P f) (hC : ∀ as, Y as → CV P f as R) (hK : ∀ r, R r → K r) : CallV P f bx xs K := by
  refine ⟨hE, fun G nx φ w vs hr hA => ?_⟩
  obtain ⟨as, hY, hA2⟩ := hv G nx φ w _ hr hA
  refine ((hC as hY).2 (OK G bx φ w) w _ (fun b o h => h.1) hA2).mono ?_
  rintro e w' ⟨v, r, rfl, hR, hE, hrep⟩
  exact ⟨v, r, rfl, hK r hR, hE, CV.back (P := P) hr hE hrep⟩

theorem callV_pure {P : Program} {f : FuncId} {bx : List (Nat × Option Box)} {xs : List AV} {R K : AV → Prop} (h : CV P f xs R) (hp : ∀ x ∈ xs, Pure x) (hK : ∀ r, R r → K r) : CallV P f bx xs K :=
  callV_of (vwAll_pure hp) h.1 (fun as e => by subst e; exact h) hK

theorem op_callQ {P : Program} {G : Gh} {st : St} {Q : Exit → St → Prop} {o : Oper} {fop : Operand} {args : Array Operand} {ats : Array TypeId} (hop : o.op = .call ⟨.value fop, args, ats⟩) {f : FuncId} {caps : List AV} (hf : st.get fop = .fn f caps)
    {R : AV → Prop} (hC : CallV P f st.bx (argsOf st args caps) R) (hd : slotOk G.n o.dst = true) {K : Act → World → Prop}
    (hK : ∀ r, R r → ∀ φ a w, RelA G (st.set o.dst r) φ a w → K a w) : ∀ φ a w, RelA G st φ a w → o.wp P a w K (QE G Q) := by
  intro φ a w hr
  obtain ⟨dst, op, type, pos, after, guard⟩ := o
  simp only at hop hd hK
  subst hop
  have hfv := hr.get fop
  rw [hf] at hfv
  have hfv0 := hfv
  generalize hvv : a.eval fop = u at hfv
  cases hfv with | fn _ _ capv hl hcr =>
  rw [hvv] at hfv0
  have hA := rep_args hr (args := args) hfv0
  unfold Oper.wp
  rw [run_call hC.1 hvv w, Oper.upon_enter]
  refine (hC.2 G st.nx φ w _ hr.rel hA).mono ?_
  rintro e w' ⟨v, r, rfl, hR, hE, hrep⟩
  exact hK r hR φ _ w' ((hr.ext hE).put hd hrep)

def callOf (get : Operand → AV) : Op → Option (FuncId × List AV)
  | .call { callee := .value fop, args, argTypes := _ } => match get fop with
    | .fn f caps => some (f, args.toList.map get ++ caps)
    | _ => none
  | _ => none

def W1 (P : Program) (ty : TypeId → Option TI) (o : Oper) (st : St) (K : St → Prop) : Prop :=
  match valStep ty st.bx st.get o.op with
  | some (p, r) => p ∧ K (st.set o.dst r)
  | none => match memStep ty st.bx st.nx st.get o.op with
    | some (p, r, bx', nx') => p ∧ K ((St.mk st.env bx' nx').set o.dst r)
    | none => match callOf st.get o.op with
      | some (f, xs) => CallV P f st.bx xs fun r => K (st.set o.dst r)
      | none => False

def guardSlotL (ops : List Oper) (j : Nat) : Option Tmp := (ops[j]?).bind (·.dst)

def WO (P : Program) (ty : TypeId → Option TI) (n : Nat) (ops : List Oper) : List Oper → St → (St → Prop) → Prop
  | [], st, K => K st
  | o :: l, st, K =>
    slotOk n o.dst = true ∧
    match o.guard with
    | none => W1 P ty o st fun s => WO P ty n ops l s K
    | some (j, want) => match guardSlotL ops j with
      | some t => match look st.env t with
        | some (.bool b) => (b = want → W1 P ty o st fun s => WO P ty n ops l s K) ∧ (b = !want → WO P ty n ops l (st.set o.dst .undef) K)
        | _ => False
      | none => False

section
variable {P : Program} {ty : TypeId → Option TI} {G : Gh} {Q : Exit → St → Prop}

end

end Go.Av
namespace Go.Av

def Stay (bx bx' : List (Nat × Option Box)) : Prop := ∀ id B, box? bx id = some B → box? bx' id = some B

def QSem (P : Program) (get : Operand → AV) (o : Op) (v : AV) : Prop :=
  ∀ (w : World) (φ : Nat → Option Loc) (ok : Nat → Nat → Prop) (o' : Oper) (ρ : Operand → Value), o'.op = o → (∀ x ∈ o.operands, Rep w φ ok (get x) (ρ x)) →
    ∃ u, (execOp ρ o').run P w = .ok (.value u) w ∧ Rep w φ ok v u

theorem QSem_congr {P : Program} {get get' : Operand → AV} {o : Op} (h : ∀ x ∈ o.operands, get x = get' x) {v : AV} (k : QSem P get o v) : QSem P get' o v :=
  fun w φ ok o' ρ e hx => k w φ ok o' ρ e fun x hm => by rw [h x hm]; exact hx x hm

def QV (P : Program) (ty : TypeId → Option TI) (bx : List (Nat × Option Box)) (get : Operand → AV) (o : Op) (v : AV) : Prop :=
  match valStep ty bx get o with
  | some (p, r) => p ∧ r = v
  | none => match callOf get o with
    | some (f, xs) => ∀ bx', Stay bx bx' → CallV P f bx' xs (· = v)
    | none => (∀ bx', valStep ty bx' get o = none) ∧ QSem P get o v

theorem callOf_congr {get get' : Operand → AV} {o : Op} (h : ∀ x ∈ o.operands, get x = get' x) : callOf get o = callOf get' o := by
  cases o with
  | call c =>
    obtain ⟨callee, args, ats⟩ := c
    cases callee with
    | value f =>
      have hf : get f = get' f := h f (by simp [Op.operands, Call.operands])
      have ha : args.toList.map get = args.toList.map get' := List.map_congr_left fun x hx => h x (by simp [Op.operands, Call.operands]; exact .inr (by simpa using hx))
      simp only [callOf, hf, ha]
    | _ => rfl
  | _ => rfl

theorem bound_congr {get get' : Operand → AV} {d : Nat} {o : Option Operand} (h : ∀ x, o = some x → get x = get' x) : bound get d o = bound get' d o := by
  cases o with
  | none => rfl
  | some x => simp only [bound, h x rfl]

theorem valStep_congr {ty : TypeId → Option TI} {bx : List (Nat × Option Box)} {get get' : Operand → AV} {o : Op} (h : ∀ x ∈ o.operands, get x = get' x) : valStep ty bx get o = valStep ty bx get' o := by
  have pairs : ∀ ps : Array (Nat × Operand), (∀ x ∈ ps.toList.map (·.2), get x = get' x) → (ps.toList.map fun p => (p.1, get p.2)) = (ps.toList.map fun p => (p.1, get' p.2)) := fun ps hp =>
    List.map_congr_left fun p hm => by rw [hp p.2 (List.mem_map.2 ⟨p, hm, rfl⟩)]
  cases o with
  | call c =>
    obtain ⟨callee, args, ats⟩ := c
    cases callee with
    | builtin b =>
      have ha : ∀ x ∈ args.toList, get x = get' x := fun x hx => h x (by simp [Op.operands, Call.operands]; simpa using hx)
      obtain ⟨args⟩ := args
      rcases args with _ | ⟨x, _ | ⟨y, _ | ⟨z, r⟩⟩⟩
      · cases b <;> rfl
      · have hx : get x = get' x := ha x (by simp)
        rcases hats : ats.toList with _ | ⟨t, _ | ⟨t', _ | ⟨t'', r'⟩⟩⟩ <;> cases b <;> simp only [valStep, opVal, hx, hats]
      · have hx : get x = get' x := ha x (by simp)
        have hy : get y = get' y := ha y (by simp)
        rcases hats : ats.toList with _ | ⟨t, _ | ⟨t', _ | ⟨t'', r'⟩⟩⟩ <;> cases b <;> simp only [valStep, opVal, hx, hy, hats]
      · cases b <;> rfl
    | _ => rfl
  | build t ps => simp only [valStep, opVal]; rw [pairs ps fun x hx => h x (by simpa [Op.operands] using hx)]
  | buildSlice t n ps => simp only [valStep, opVal]; rw [pairs ps fun x hx => h x (by simpa [Op.operands] using hx)]
  | makeFunc fn first caps =>
    cases fn <;> simp only [valStep, opVal]
    rw [List.map_congr_left (l := caps.toList) fun x hx => h x (by simp [Op.operands]; exact .inr (by simpa using hx))]
  | slice t x lo hi mx =>
    simp only [valStep, opVal, sliceVal]
    rw [h x (by simp [Op.operands])]
    have e1 : ∀ d, bound get d lo = bound get' d lo := fun d => bound_congr fun y e => h y (by subst e; simp [Op.operands])
    have e2 : ∀ d, bound get d hi = bound get' d hi := fun d => bound_congr fun y e => h y (by subst e; simp [Op.operands])
    have e3 : ∀ m, mx = some m → get m = get' m := fun y e => h y (by subst e; simp [Op.operands])
    simp only [e1, e2]
    generalize (ty t).map TI.k = k
    generalize get' x = gx
    rcases k with _ | k
    · rfl
    cases k with
    | slice e =>
      cases gx with
      | ls st n ex xs =>
        simp only []
        generalize ty e = te
        generalize bound get' 0 lo = b0
        generalize bound get' xs.length hi = b1
        cases mx with
        | none => cases te <;> rcases b0 with _ | ⟨p, l⟩ <;> rcases b1 with _ | ⟨q, h⟩ <;> rfl
        | some m =>
          have := e3 m rfl
          cases te <;> rcases b0 with _ | ⟨p, l⟩ <;> rcases b1 with _ | ⟨q, h⟩ <;> simp only [this]
      | _ => rfl
    | str => cases gx <;> rfl
    | _ => rfl
  | _ =>
    simp only [Op.operands, List.mem_toArray, List.mem_cons, List.not_mem_nil, or_false, forall_eq_or_imp, forall_eq] at h
    first
      | rfl
      | (simp only [valStep, opVal, h]; done)

theorem QV_congr {P : Program} {ty : TypeId → Option TI} {bx : List (Nat × Option Box)} {get get' : Operand → AV} {o : Op} (h : ∀ x ∈ o.operands, get x = get' x) {v : AV} (k : QV P ty bx get o v) : QV P ty bx get' o v := by
  unfold QV at *
  rw [← valStep_congr h, ← callOf_congr h]
  split
  · rename_i e; rw [e] at k; exact k
  · rename_i e
    rw [e] at k
    split
    · rename_i e2; rw [e2] at k; exact k
    · rename_i e2; rw [e2] at k; exact ⟨fun bx' => (valStep_congr h).symm.trans (k.1 bx'), QSem_congr h k.2⟩

end Go.Av
