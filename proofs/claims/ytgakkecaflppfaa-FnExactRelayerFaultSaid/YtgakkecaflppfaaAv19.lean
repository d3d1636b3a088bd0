/- Code, step by step, on pictures. -/
import Derived.Test.YtgakkecaflppfaaAv18
set_option linter.unusedSimpArgs false
namespace Go.Av

def St.get (st : St) : Operand → AV
  | .tmp t => (look st.env t).getD .undef
  | .const v => ofVal v
  | .func f => .fn f []
  | .global _ => .undef

def QE (G : Gh) (Q : Exit → St → Prop) : Exit → Act → World → Prop := fun e a w => ∃ st φ, Q e st ∧ RelA G st φ a w

/-- From a picture, this code comes to an end that Q tells. -/
def T (P : Program) (G : Gh) (c : Code) (st : St) (Q : Exit → St → Prop) : Prop := ∀ φ a w, RelA G st φ a w → c.wp P (QE G Q) a w

/-- From a picture, these operations of a region, in this order, come to an end that Q tells. -/
def TO (P : Program) (G : Gh) (ops : Array Oper) (l : List Nat) (st : St) (Q : Exit → St → Prop) : Prop := ∀ φ a w, RelA G st φ a w → wpOps P ops (QE G Q) l a w

section
variable {P : Program} {ty : TypeId → Option TI} {G : Gh} {st : St} {Q : Exit → St → Prop}

theorem RelA.get {φ : Nat → Option Loc} {a : Act} {w : World} (h : RelA G st φ a w) (x : Operand) : Rep w φ (OK G st.bx φ w) (st.get x) (a.eval x) := by
  cases x with
  | tmp t =>
    simp only [St.get, Act.eval]
    cases hl : look st.env t with
    | none => exact .undef _
    | some v => exact (h.env t v hl).2
  | const v => exact rep_ofVal w φ _ v
  | global g => exact .undef _
  | func f => exact .fn f [] #[] rfl (fun i x v h => by simp at h)

theorem T_mono {c : Code} {Q' : Exit → St → Prop} (h : T P G c st Q) (k : ∀ e s, Q e s → Q' e s) : T P G c st Q' :=
  fun φ a w r => wp_mono (h φ a w r) (fun _ _ _ ⟨s, φ, q, r⟩ => ⟨s, φ, k _ _ q, r⟩)

theorem T_skip (h : Q .normal st) : T P G .skip st Q := fun φ _ _ r => wp_skip ⟨st, φ, h, r⟩
theorem T_label {l : Nat} (h : Q .normal st) : T P G (.label l) st Q := fun φ _ _ r => wp_label ⟨st, φ, h, r⟩
theorem T_ret (h : Q .ret st) : T P G .ret st Q := fun φ _ _ r => wp_ret ⟨st, φ, h, r⟩
theorem T_exit {id : Nat} (h : Q (.exit id) st) : T P G (.exit id) st Q := fun φ _ _ r => wp_exit ⟨st, φ, h, r⟩

def thenQ (P : Program) (G : Gh) (c : Code) (Q : Exit → St → Prop) : Exit → St → Prop
  | .normal, s => T P G c s Q
  | e, s => Q e s

theorem T_seq {x y : Code} (h : T P G x st (thenQ P G y Q)) : T P G (.seq x y) st Q := by
  intro φ a w r
  refine wp_seq (wp_mono (h φ a w r) ?_)
  rintro e a w ⟨s, φ, q, r⟩
  cases e with
  | normal => exact q φ a w r
  | exit id => exact ⟨s, φ, q, r⟩
  | goto l => exact ⟨s, φ, q, r⟩
  | ret => exact ⟨s, φ, q, r⟩
  | panic c => exact ⟨s, φ, q, r⟩
  | outgrown => exact ⟨s, φ, q, r⟩

theorem T_cond {c : Operand} {x y : Code} {b : Bool} (hc : st.get c = .bool b) (h1 : b = true → T P G x st Q) (h2 : b = false → T P G y st Q) : T P G (.cond c x y) st Q := by
  intro φ a w r
  have hr := r.get c
  rw [hc] at hr
  have he := hr.bool_inv
  refine wp_cond he ?_
  cases b with
  | true => exact h1 rfl φ a w r
  | false => exact h2 rfl φ a w r

def blockQ (id : Nat) (Q : Exit → St → Prop) : Exit → St → Prop
  | .exit id', s => if id' = id then Q .normal s else Q (.exit id') s
  | e, s => Q e s

theorem T_block {id : Nat} {c : Code} (h : T P G c st (blockQ id Q)) : T P G (.block id c) st Q := by
  intro φ a w r
  refine wp_block (wp_mono (h φ a w r) ?_)
  rintro e a w ⟨s, φ, q, r⟩
  cases e with
  | exit id' =>
    simp only [blockQ] at q
    simp only [Exit.inBlock]
    split at q
    · rename_i hi; rw [if_pos hi]; exact ⟨s, φ, q, r⟩
    · rename_i hi; rw [if_neg hi]; exact ⟨s, φ, q, r⟩
  | normal => exact ⟨s, φ, q, r⟩
  | goto l => exact ⟨s, φ, q, r⟩
  | ret => exact ⟨s, φ, q, r⟩
  | panic c => exact ⟨s, φ, q, r⟩
  | outgrown => exact ⟨s, φ, q, r⟩

def roundQ (I : Nat → St → Prop) (n : Nat) (Q : Exit → St → Prop) : Exit → St → Prop
  | .normal, s => ∃ m, m < n ∧ I m s
  | e, s => Q e s

theorem T_loop {c : Code} (I : Nat → St → Prop) (n : Nat) (h0 : I n st) (round : ∀ n s, I n s → T P G c s (roundQ I n Q)) : T P G (.loop c) st Q := by
  intro φ a w r b k cs
  have key : ∀ n a w s φ, I n s → RelA G s φ a w →
      ∃ e a' w', QE G Q e a' w' ∧ Arrives P (lone (b.at a (.code c :: .inLoop c :: k)) cs w) b k cs e a' w' := by
    intro n
    induction n using Nat.strongRecOn with
    | _ n ih =>
      intro a w s φ hI hr
      obtain ⟨e, a₁, w₁, ⟨s1, φ1, hq, hr1⟩, harr⟩ := round n s hI φ a w hr b (.inLoop c :: k) cs
      cases e with
      | normal =>
        obtain ⟨m, hlt, hI₁⟩ := hq
        obtain ⟨e₂, a₂, w₂, hq₂, harr₂⟩ := ih m hlt a₁ w₁ s1 φ1 hI₁ hr1
        exact ⟨e₂, a₂, w₂, hq₂, .of_steps (Steps.trans harr (.one step_inLoop)) harr₂⟩
      | exit id => exact ⟨_, a₁, w₁, ⟨s1, φ1, hq, hr1⟩, .pass (x := .inLoop c) rfl (fun _ _ => .inl (by simp)) harr⟩
      | goto l => exact ⟨_, a₁, w₁, ⟨s1, φ1, hq, hr1⟩, .pass (x := .inLoop c) rfl (fun _ _ => .inl (by simp)) harr⟩
      | ret => exact ⟨_, a₁, w₁, ⟨s1, φ1, hq, hr1⟩, .pass (x := .inLoop c) rfl (fun _ _ => .inl (by simp)) harr⟩
      | panic ch => exact ⟨_, a₁, w₁, ⟨s1, φ1, hq, hr1⟩, .pass (x := .inLoop c) rfl (fun _ _ => .inl (by simp)) harr⟩
      | outgrown => exact ⟨_, a₁, w₁, ⟨s1, φ1, hq, hr1⟩, .pass (x := .inLoop c) rfl (fun _ _ => .inl (by simp)) harr⟩
  obtain ⟨e, a', w', hq, harr⟩ := key n a w st φ h0 r
  exact ⟨e, a', w', hq, .of_steps (.one step_loop) harr⟩

theorem T_region {id : Nat} {ops : Array Oper} (h : TO P G ops (List.range ops.size) st Q) : T P G (.region id ops false) st Q :=
  fun φ a w r => wp_region (h φ a w r)

/-- Weaker pictures: what is known of slots and boxes may be forgotten. -/
def Weak (st st' : St) : Prop :=
  (∀ t v, look st'.env t = some v → look st.env t = some v) ∧ st.nx ≤ st'.nx ∧
  (∀ id b', box? st'.bx id = some b' → ∃ b, box? st.bx id = some b ∧ b'.elems = b.elems ∧ b'.st = b.st ∧ b'.slack = b.slack ∧ (b.ro = true → b'.ro = true))

theorem RelA.weak {φ : Nat → Option Loc} {a : Act} {w : World} (h : RelA G st φ a w) {st' : St} (k : Weak st st') : RelA G st' φ a w := by
  obtain ⟨k1, k2, k3⟩ := k
  have hW := h.rel.weaken k2 k3
  exact ⟨hW.rel, h.defers, h.sz, fun t v e => ⟨(h.env t v (k1 t v e)).1, hW.rep (h.env t v (k1 t v e)).2⟩⟩

theorem T_weak {c : Code} {st' : St} (k : Weak st st') (h : T P G c st' Q) : T P G c st Q := fun φ a w r => h φ a w (r.weak k)
theorem TO_weak {ops : Array Oper} {l : List Nat} {st' : St} (k : Weak st st') (h : TO P G ops l st' Q) : TO P G ops l st Q := fun φ a w r => h φ a w (r.weak k)

/-- Only these slots and boxes are kept in mind. -/
def pickSlots {α : Type} (l : List (Nat × α)) : List Nat → List (Nat × α)
  | [] => []
  | t :: ts => match look l t with
    | some v => (t, v) :: pickSlots l ts
    | none => pickSlots l ts

theorem look_pick {α : Type} (l : List (Nat × α)) : ∀ (ts : List Nat) (t : Nat) (v : α), look (pickSlots l ts) t = some v → look l t = some v
  | [], t, v, h => by simp [pickSlots, look] at h
  | k :: ts, t, v, h => by
    simp only [pickSlots] at h
    split at h
    · rename_i u hu
      rw [look_cons] at h
      split at h
      · rename_i e; subst e; rw [hu]; exact h
      · exact look_pick l ts t v h
    · exact look_pick l ts t v h

def St.keep (st : St) (ts ids : List Nat) : St := ⟨pickSlots st.env ts, pickSlots st.bx ids, st.nx⟩

theorem weak_keep (st : St) (ts ids : List Nat) : Weak st (st.keep ts ids) := by
  refine ⟨fun t v h => look_pick _ _ t v h, Nat.le_refl _, fun id b' h => ?_⟩
  simp only [St.keep, box?] at h
  cases hl : look (pickSlots st.bx ids) id with
  | none => rw [hl] at h; cases h
  | some o =>
    rw [hl] at h
    simp only [Option.join] at h
    have := look_pick _ _ _ _ hl
    exact ⟨b', by simp only [box?, this]; exact h, rfl, rfl, rfl, fun h => h⟩

theorem T_keep {c : Code} (ts ids : List Nat) (h : T P G c (st.keep ts ids) Q) : T P G c st Q := T_weak (weak_keep st ts ids) h

/-- A box is held to be read alone from now on. -/
def St.share (st : St) (id : Nat) : St :=
  match box? st.bx id with
  | some b => { st with bx := (id, some { b with ro := true }) :: st.bx }
  | none => st

theorem weak_share (st : St) (id : Nat) : Weak st (st.share id) := by
  unfold St.share
  cases hb : box? st.bx id with
  | none => exact ⟨fun _ _ h => h, Nat.le_refl _, fun id b' h => ⟨b', h, rfl, rfl, rfl, fun h => h⟩⟩
  | some b =>
    refine ⟨fun _ _ h => h, Nat.le_refl _, fun i b' h => ?_⟩
    simp only [box?_cons] at h
    split at h
    · rename_i e
      subst e
      obtain rfl := Option.some.inj h
      exact ⟨b, hb, rfl, rfl, rfl, fun _ => rfl⟩
    · exact ⟨b', h, rfl, rfl, rfl, fun h => h⟩

/-! operations, one by one -/

theorem TO_nil {ops : Array Oper} (h : Q .normal st) : TO P G ops [] st Q := fun φ _ _ r => ⟨st, φ, h, r⟩

theorem wanted_none {o : Oper} (h : o.guard = none) (y : Nat → Option Bool) : Region.wanted o y = true := by simp [Region.wanted, h]

theorem TO_step {ops : Array Oper} {i : Nat} {l : List Nat} {o : Oper} (ho : ops[i]? = some o)
    (hgd : o.guard = none) (h : ∀ φ a w, RelA G st φ a w → o.wp P a w (wpOps P ops (QE G Q) l) (QE G Q)) : TO P G ops (i :: l) st Q := by
  intro φ a w r
  simp only [wpOps, ho, wanted_none hgd, if_true]
  exact .inl (h φ a w r)

/-- The slot that a guard asks. -/
def guardSlot (ops : Array Oper) (j : Nat) : Option Tmp := (ops[j]?).bind (·.dst)

theorem yielded_of {ops : Array Oper} {j t : Nat} {b : Bool} (hs : guardSlot ops j = some t) {φ : Nat → Option Loc} {a : Act} {w : World} (r : RelA G st φ a w) (hb : look st.env t = some (.bool b)) :
    yielded ops a.tmps j = some b := by
  obtain ⟨h1, h2⟩ := r.env t _ hb
  have h3 := h2.bool_inv
  have hlt : t < a.tmps.size := by rw [r.sz]; exact h1
  have h4 : a.tmps[t]? = some (.bool b) := by
    rw [← h3]
    simp [Array.getD, hlt]
  unfold yielded
  unfold guardSlot at hs
  rw [hs]
  simp [h4]

/-- An operation behind a guard: where the guard says no, it is left out. -/
theorem TO_guard {ops : Array Oper} {i : Nat} {l : List Nat} {o : Oper} (ho : ops[i]? = some o) {j t : Nat} {want b : Bool} (hgd : o.guard = some (j, want)) (hs : guardSlot ops j = some t)
    (hb : look st.env t = some (.bool b)) (hd : slotOk G.n o.dst = true)
    (h1 : b = want → ∀ φ a w, RelA G st φ a w → o.wp P a w (wpOps P ops (QE G Q) l) (QE G Q)) (h2 : b = !want → TO P G ops l (st.set o.dst .undef) Q) : TO P G ops (i :: l) st Q := by
  intro φ a w r
  have hy := yielded_of hs r hb
  simp only [wpOps, ho, Region.wanted, hgd, hy]
  by_cases e : b = want
  · subst e
    simp only [beq_self_eq_true, if_true]
    exact .inl (h1 rfl φ a w r)
  · have hne : ((some b : Option Bool) == some want) = false := by
      cases b <;> cases want <;> simp_all
    simp only [hne, Bool.false_eq_true, if_false]
    exact h2 (by cases b <;> cases want <;> simp_all) φ _ w (r.put_undef hd _)

/-- One operation that only computes or reads. -/
theorem op_val (hty : TyOk P ty) {o : Oper} {K : Act → World → Prop} {p : Prop} {r : AV} (h : valStep ty st.bx st.get o.op = some (p, r)) (hp : p) (hd : slotOk G.n o.dst = true)
    (hK : ∀ φ a w, RelA G (st.set o.dst r) φ a w → K a w) : ∀ φ a w, RelA G st φ a w → o.wp P a w K (QE G Q) := by
  intro φ a w hr
  obtain ⟨v, w', h1, h2, h3⟩ := valStep_ok (P := P) hty hr.rel hr.get h hp
  unfold Oper.wp
  rw [h1]
  exact hK φ _ w' ((hr.ext h2).put hd h3)

/-- One operation that makes or turns a box. -/
theorem op_mem (hty : TyOk P ty) {o : Oper} {K : Act → World → Prop} {p : Prop} {r : AV} {bx' : List (Nat × Option Box)} {nx' : Nat} (h : memStep ty st.bx st.nx st.get o.op = some (p, r, bx', nx')) (hp : p)
    (hd : slotOk G.n o.dst = true) (hK : ∀ φ a w, RelA G ((St.mk st.env bx' nx').set o.dst r) φ a w → K a w) : ∀ φ a w, RelA G st φ a w → o.wp P a w K (QE G Q) := by
  intro φ a w hr
  obtain ⟨w', φ', h1, h2⟩ := memStep_ok (P := P) hty hr.rel hr.get h hp
  have hA := h1.relA hr
  unfold Oper.wp
  rcases h2 with ⟨v, h3, h4⟩ | ⟨h3, rfl⟩
  · rw [h3]
    exact hK φ' _ w' (hA.put hd h4)
  · rw [h3]
    exact hK φ' _ w' (hA.put_undef hd _)

theorem TO_val (hty : TyOk P ty) {ops : Array Oper} {i : Nat} {l : List Nat} {o : Oper} (ho : ops[i]? = some o) (hgd : o.guard = none) {p : Prop} {r : AV} (h : valStep ty st.bx st.get o.op = some (p, r))
    (hd : slotOk G.n o.dst = true) (hp : p) (hK : TO P G ops l (st.set o.dst r) Q) : TO P G ops (i :: l) st Q :=
  TO_step ho hgd (op_val hty h hp hd hK)

theorem TO_mem (hty : TyOk P ty) {ops : Array Oper} {i : Nat} {l : List Nat} {o : Oper} (ho : ops[i]? = some o) (hgd : o.guard = none) {p : Prop} {r : AV} {bx' : List (Nat × Option Box)} {nx' : Nat}
    (h : memStep ty st.bx st.nx st.get o.op = some (p, r, bx', nx')) (hd : slotOk G.n o.dst = true) (hp : p) (hK : TO P G ops l ((St.mk st.env bx' nx').set o.dst r) Q) : TO P G ops (i :: l) st Q :=
  TO_step ho hgd (op_mem hty h hp hd hK)
end

end Go.Av
