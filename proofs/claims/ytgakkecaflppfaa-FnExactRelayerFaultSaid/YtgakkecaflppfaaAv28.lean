/- Calls, and the code between the regions: sequences, branches, blocks, rounds. -/
import Derived.Test.YtgakkecaflppfaaAv27
set_option linter.unusedSimpArgs false
set_option linter.unusedVariables false
namespace Go.Av

def PureAll : List AV → Prop
  | [] => True
  | x :: l => Pure x ∧ PureAll l

theorem PureAll.mem : ∀ {l : List AV}, PureAll l → ∀ x ∈ l, Pure x
  | [], _, _, h => by cases h
  | a :: l, h, x, hx => by
    rcases List.mem_cons.1 hx with rfl | hx
    · exact h.1
    · exact PureAll.mem h.2 x hx

section
variable {P : Program} {ty : TypeId → Option TI} {n : Nat} {q : Bool} {ops l : List Oper} {env : List (Nat × AV)} {bx : List (Nat × Option Box)} {nx : Nat} {K : St → Prop}
  {d : Nat} {tp : TypeId} {pos : String} {aft : Array Edge} {f : FuncId} {args : List Operand} {ats : Array TypeId} {xs : List AV}

theorem valStep_call {get : Operand → AV} {c : Operand} {args : Array Operand} : valStep ty bx get (.call ⟨.value c, args, ats⟩) = none := by
  simp only [valStep, opVal]

/-- A call of a function with one outcome. -/
theorem S_call {r : AV} (hg : Gts env args xs) (hc : CV P f xs (· = r)) (hp : PureAll xs) (hd : slotOk n (some d) = true) (h : WX q P ty n ops l ⟨(d, r) :: env, bx, nx⟩ K) :
    WX q P ty n ops (⟨some d, .call ⟨.value (.func f), args.toArray, ats⟩, tp, pos, aft, none⟩ :: l) ⟨env, bx, nx⟩ K := by
  refine S_QV hd (v := r) ?_ h
  unfold QV
  rw [valStep_call]
  have : callOf (St.get ⟨env, bx, nx⟩) (.call ⟨.value (.func f), args.toArray, ats⟩) = some (f, xs) := by
    simp [callOf, St.get, hg.map bx nx]
  rw [this]
  exact callV_pure hc hp.mem (fun _ e => e)

/-- A call of a function, what is handed over being seen by value. -/
theorem S_callV {Y : List AV → Prop} {r : AV} (hg : Gts env args xs) (hv : VwAll bx xs Y) (hE : Callee P f) (hc : ∀ ys, Y ys → CV P f ys (· = r)) (hd : slotOk n (some d) = true) (h : WX q P ty n ops l ⟨(d, r) :: env, bx, nx⟩ K) :
    WX q P ty n ops (⟨some d, .call ⟨.value (.func f), args.toArray, ats⟩, tp, pos, aft, none⟩ :: l) ⟨env, bx, nx⟩ K := by
  refine S_QV hd (v := r) ?_ h
  unfold QV
  rw [valStep_call]
  have : callOf (St.get ⟨env, bx, nx⟩) (.call ⟨.value (.func f), args.toArray, ats⟩) = some (f, xs) := by
    simp [callOf, St.get, hg.map bx nx]
  rw [this]
  exact ⟨Y, _, hv, hE, hc, fun _ e => e⟩

/-- A call of a function of which only a law is known. -/
theorem S_callR {R : AV → Prop} (hg : Gts env args xs) (hc : CV P f xs R) (hp : PureAll xs) (hd : slotOk n (some d) = true) (h : ∀ r, R r → WX false P ty n ops l ⟨(d, r) :: env, bx, nx⟩ K) :
    WX false P ty n ops (⟨some d, .call ⟨.value (.func f), args.toArray, ats⟩, tp, pos, aft, none⟩ :: l) ⟨env, bx, nx⟩ K := by
  have : callOf (St.get ⟨env, bx, nx⟩) (.call ⟨.value (.func f), args.toArray, ats⟩) = some (f, xs) := by
    simp [callOf, St.get, hg.map bx nx]
  simp only [WX]
  exact ⟨hd, .inr ⟨rfl, .inr (.inl ⟨f, xs, this, callV_pure hc hp.mem h⟩)⟩⟩

/-- A call that is lent boxes. -/
theorem S_callB (ids : List Nat) {bs : List (Nat × Option Box)} {R : AV → List (Nat × Option Box) → Nat → Prop} (hg : Gts env args xs) (hb : pickSlots bx ids = bs) (hc : CR P f xs bs nx R)
    (hids : ∀ r bs' nx', R r bs' nx' → ∀ id b, look bs' id = some b → id ∈ ids ∨ nx ≤ id) (hd : slotOk n (some d) = true)
    (h : ∀ r bs' nx', R r bs' nx' → WX false P ty n ops l ⟨(d, r) :: env, bs' ++ (ids.map fun i => (i, none)) ++ bx, nx'⟩ K) :
    WX false P ty n ops (⟨some d, .call ⟨.value (.func f), args.toArray, ats⟩, tp, pos, aft, none⟩ :: l) ⟨env, bx, nx⟩ K := by
  subst hb
  have : callOf (St.get ⟨env, bx, nx⟩) (.call ⟨.value (.func f), args.toArray, ats⟩) = some (f, xs) := by
    simp [callOf, St.get, hg.map bx nx]
  simp only [WX]
  exact ⟨hd, .inr ⟨rfl, .inr (.inr ⟨f, xs, ids, R, this, hc, hids, h⟩)⟩⟩

end

section
variable {P : Program} {ty : TypeId → Option TI} {G : Gh} {st : St} {Q : Exit → St → Prop} {c c' : Code}

theorem N_then {s : St} (h : T P G c s Q) : thenQ P G c Q .normal s := h
theorem N_thenR {s : St} (h : Q .ret s) : thenQ P G c Q .ret s := h
theorem N_thenE {s : St} {id : Nat} (h : Q (.exit id) s) : thenQ P G c Q (.exit id) s := h
theorem N_block {s : St} {id : Nat} (h : Q .normal s) : blockQ id Q .normal s := h
theorem N_blockR {s : St} {id : Nat} (h : Q .ret s) : blockQ id Q .ret s := h
theorem N_blockE {s : St} {id : Nat} (h : Q .normal s) : blockQ id Q (.exit id) s := by simp [blockQ, h]
theorem N_blockX {s : St} {id id' : Nat} (hne : (id' == id) = false) (h : Q (.exit id') s) : blockQ id Q (.exit id') s := by
  have : ¬ id' = id := by simpa using hne
  simp [blockQ, this, h]

theorem T_if {t : Tmp} {b : Bool} (hc : look st.env t = some (.bool b)) (h1 : b = true → T P G c st Q) (h2 : b = false → T P G c' st Q) : T P G (.cond (.tmp t) c c') st Q :=
  T_cond (by simp [St.get, hc]) h1 h2
theorem T_ifT {t : Tmp} {b : Bool} (hc : look st.env t = some (.bool b)) (e : b = true) (h1 : T P G c st Q) : T P G (.cond (.tmp t) c c') st Q :=
  T_if hc (fun _ => h1) (fun e' => by subst e; cases e')
theorem T_ifF {t : Tmp} {b : Bool} (hc : look st.env t = some (.bool b)) (e : b = false) (h2 : T P G c' st Q) : T P G (.cond (.tmp t) c c') st Q :=
  T_if hc (fun e' => by subst e; cases e') (fun _ => h2)

/-- Only so much is kept in mind. -/
def KeepE (env : List (Nat × AV)) : List (Nat × AV) → Prop
  | [] => True
  | (t, v) :: l => look env t = some v ∧ KeepE env l

def KeepB (bx : List (Nat × Option Box)) : List (Nat × Option Box) → Prop
  | [] => True
  | (id, b) :: l => (∀ b', b = some b' → box? bx id = some b') ∧ KeepB bx l

theorem KeepE.look {env : List (Nat × AV)} : ∀ {l : List (Nat × AV)}, KeepE env l → ∀ t v, Av.look l t = some v → Av.look env t = some v
  | [], _, t, v, h => by cases h
  | (k, x) :: l, h, t, v, e => by
    simp only [look_cons] at e
    split at e
    · rename_i e'; subst e'; cases e; exact h.1
    · exact KeepE.look h.2 t v e

theorem KeepB.box {bx : List (Nat × Option Box)} : ∀ {l : List (Nat × Option Box)}, KeepB bx l → ∀ id b, box? l id = some b → box? bx id = some b
  | [], _, _, _, h => by cases h
  | (k, x) :: l, h, id, b, e => by
    simp only [box?, look_cons] at e
    split at e
    · rename_i e'; subst e'
      cases x with
      | none => cases e
      | some x => cases e; exact h.1 _ rfl
    · exact KeepB.box h.2 id b e

theorem weak_of {st : St} {env : List (Nat × AV)} {bx : List (Nat × Option Box)} {nx : Nat} (h1 : KeepE st.env env) (h2 : KeepB st.bx bx) (h3 : st.nx ≤ nx) : Weak st ⟨env, bx, nx⟩ :=
  ⟨fun t v h => h1.look t v h, h3, fun id b' h => ⟨b', h2.box id b' h, rfl, rfl, rfl, fun h => h⟩⟩

theorem keepE_nil {env : List (Nat × AV)} : KeepE env [] := trivial
theorem keepE_cons {env l : List (Nat × AV)} {t : Nat} {v : AV} (h : look env t = some v) (k : KeepE env l) : KeepE env ((t, v) :: l) := ⟨h, k⟩
theorem keepB_nil {bx : List (Nat × Option Box)} : KeepB bx [] := trivial
theorem keepB_cons {bx l : List (Nat × Option Box)} {id : Nat} {b : Box} (h : box? bx id = some b) (k : KeepB bx l) : KeepB bx ((id, some b) :: l) := ⟨fun _ e => by cases e; exact h, k⟩

theorem T_to {env : List (Nat × AV)} {bx : List (Nat × Option Box)} {nx : Nat} (h1 : KeepE st.env env) (h2 : KeepB st.bx bx) (h3 : st.nx ≤ nx) (h : T P G c ⟨env, bx, nx⟩ Q) : T P G c st Q :=
  T_weak (weak_of h1 h2 h3) h

/-- The end of a round. -/
def againQ {α : Type} (mk : α → St) (m : α → Nat) (Inv : α → Prop) (x : α) (Q : Exit → St → Prop) : Exit → St → Prop
  | .normal, s => ∃ x', Weak s (mk x') ∧ Inv x' ∧ m x' < m x
  | e, s => Q e s

theorem N_again {α : Type} {mk : α → St} {m : α → Nat} {Inv : α → Prop} {x : α} {s : St} (x' : α) (h1 : Weak s (mk x')) (h2 : Inv x') (h3 : m x' < m x) : againQ mk m Inv x Q .normal s := ⟨x', h1, h2, h3⟩
theorem N_againR {α : Type} {mk : α → St} {m : α → Nat} {Inv : α → Prop} {x : α} {s : St} (h : Q .ret s) : againQ mk m Inv x Q .ret s := h
theorem N_againE {α : Type} {mk : α → St} {m : α → Nat} {Inv : α → Prop} {x : α} {s : St} {id : Nat} (h : Q (.exit id) s) : againQ mk m Inv x Q (.exit id) s := h

/-- Rounds: what the head looks like, what falls, what stays true. -/
theorem T_rounds {α : Type} (mk : α → St) (m : α → Nat) (Inv : α → Prop) (x0 : α) (hw : Weak st (mk x0)) (h0 : Inv x0) (h : ∀ x, Inv x → T P G c (mk x) (againQ mk m Inv x Q)) : T P G (.loop c) st Q := by
  refine T_loop (fun k s => ∃ x, m x = k ∧ Inv x ∧ Weak s (mk x)) (m x0) ⟨x0, rfl, h0, hw⟩ ?_
  rintro k s ⟨x, rfl, hi, hs⟩
  refine T_mono (T_weak hs (h x hi)) fun e s q => ?_
  cases e with
  | normal =>
    obtain ⟨x', h1, h2, h3⟩ := q
    exact ⟨m x', h3, x', rfl, h2, h1⟩
  | exit id => exact q
  | goto l => exact q
  | ret => exact q
  | panic c => exact q
  | outgrown => exact q

/-- The end, by value. -/
theorem E_tmp {R : AV → Prop} {t : Nat} {env : List (Nat × AV)} {bx : List (Nat × Option Box)} {nx : Nat} {v : AV} (hv : look env t = some v) (hp : Pure v) (hR : R v) : retV ty [.tmp t] R .ret ⟨env, bx, nx⟩ :=
  ⟨trivial, True ∧ True, [v], by simp [resList, resOne, hv], ⟨trivial, trivial⟩, (vw_pure hp).mono fun y e => e ▸ hR⟩

theorem E_tmpN {R : AV → Prop} {t : Nat} {env : List (Nat × AV)} {bx : List (Nat × Option Box)} {nx : Nat} {v : AV} (hv : look env t = some v) (hp : Pure v) (hR : R v) : retV ty [.tmp t] R .normal ⟨env, bx, nx⟩ :=
  ⟨trivial, True ∧ True, [v], by simp [resList, resOne, hv], ⟨trivial, trivial⟩, (vw_pure hp).mono fun y e => e ▸ hR⟩

/-- The end, a result that lies in a variable of its own: an aggregate of values. -/
theorem E_cell {R : AV → Prop} {a : Nat} {t : TypeId} {ti : TI} {env : List (Nat × AV)} {bx : List (Nat × Option Box)} {nx id : Nat} {w : AV} {sz : Nat} {sl ro : Bool} (ht : ty t = some ti) (hv : look env a = some (.ptr id 0 0)) (hB : box? bx id = some ⟨[w], sz, sl, ro⟩)
    (ha : isAggK ti.k = true) (hw : .agg w.cells = w) (hl : w.cells.length = ti.size) (hp : Pure w) (hR : R w) : retV ty [.cell a t] R .ret ⟨env, bx, nx⟩ := by
  have hcut : cut false ti w.cells 0 = (0 + ti.size ≤ w.cells.length, w) := by
    unfold cut
    rw [if_pos ha, List.drop_zero, List.take_of_length_le (by omega), hw]
  refine ⟨trivial, (0 < [w].length ∧ (cut false ti w.cells 0).1) ∧ True, [w], ?_, ⟨⟨by simp, by rw [hcut]; simp [hl]⟩, trivial⟩, (vw_pure hp).mono fun y e => e ▸ hR⟩
  simp [resList, resOne, ht, hv, hB, hcut]

end

end Go.Av
