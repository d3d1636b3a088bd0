/- A small logic for code over pictures of values and boxes: part 4. -/
import Derived.Test.YtmaginepopldnaaDoorGc
import Derived.Below
import Derived.ChangeArms
import Derived.OpenShut
set_option linter.unusedSimpArgs false
set_option linter.unusedVariables false
namespace Go.Av

def CallS (P : Program) (f : FuncId) (bx : List (Nat × Option Box)) (nx : Nat) (xs : List AV) (K : AV → List (Nat × Option Box) → Nat → Prop) : Prop :=
  Callee P f ∧ ∀ (G : Gh) (φ : Nat → Option Loc) (w : World) (vs : Array Value), Rel G bx nx φ w → RepAll w φ (OK G bx φ w) xs vs.toList →
    Calls P f vs w fun e w' => ∃ v r bx' nx' φ', e = .returned v ∧ K r bx' nx' ∧ Adv G bx φ w bx' nx' φ' w' ∧ Rep w' φ' (OK G bx' φ' w') r v

def OpS (P : Program) (o : Oper) (st : St) (K : St → Prop) : Prop :=
  ∀ (G : Gh) (Q : Exit → St → Prop) (K' : Act → World → Prop), slotOk G.n o.dst = true → (∀ s, K s → ∀ φ a w, RelA G s φ a w → K' a w) → ∀ φ a w, RelA G st φ a w → o.wp P a w K' (QE G Q)

theorem op_callS {P : Program} {G : Gh} {st : St} {Q : Exit → St → Prop} {o : Oper} {fop : Operand} {args : Array Operand} {ats : Array TypeId} (hop : o.op = .call ⟨.value fop, args, ats⟩) {f : FuncId} {caps : List AV} (hf : st.get fop = .fn f caps)
    {R : AV → List (Nat × Option Box) → Nat → Prop} (hC : CallS P f st.bx st.nx (argsOf st args caps) R) (hd : slotOk G.n o.dst = true) {K : Act → World → Prop}
    (hK : ∀ r bx' nx', R r bx' nx' → ∀ φ a w, RelA G ((St.mk st.env bx' nx').set o.dst r) φ a w → K a w) : ∀ φ a w, RelA G st φ a w → o.wp P a w K (QE G Q) := by
  intro φ a w hr
  obtain ⟨dst, op, type, pos, after, guard⟩ := o
  simp only at hop hd hK
  subst hop
  have hfv := hr.get fop
  rw [hf] at hfv
  have hfv0 := hfv
  generalize hvv : a.eval fop = u at hfv
  cases hfv with | fn _ _ capv hl hcr =>
  rw [hvv] at hfv0
  have hA := rep_args hr (args := args) hfv0
  unfold Oper.wp
  rw [run_call hC.1 hvv w, Oper.upon_enter]
  refine (hC.2 G φ w _ hr.rel hA).mono ?_
  rintro e w' ⟨v, r, bx', nx', φ', rfl, hR, hadv, hrep⟩
  exact hK r bx' nx' hR φ' _ w' ((hadv.relA hr).put hd hrep)

def WM (P : Program) (ty : TypeId → Option TI) (o : Oper) (st : St) (K : St → Prop) : Prop :=
  (∃ p r bx' nx', memStep ty st.bx st.nx st.get o.op = some (p, r, bx', nx') ∧ p ∧ K ((St.mk st.env bx' nx').set o.dst r)) ∨
  (∃ f xs, callOf st.get o.op = some (f, xs) ∧ CallV P f st.bx xs fun r => K (st.set o.dst r)) ∨
  (∃ f xs ids R, callOf st.get o.op = some (f, xs) ∧ CR P f xs (pickSlots st.bx ids) st.nx R ∧ (∀ r bs' nx', R r bs' nx' → ∀ id b, look bs' id = some b → id ∈ ids ∨ st.nx ≤ id) ∧
    ∀ r bs' nx', R r bs' nx' → K ((St.mk st.env (bs' ++ (ids.map fun i => (i, none)) ++ st.bx) nx').set o.dst r)) ∨
  OpS P o st K

def W1X (q : Bool) (P : Program) (ty : TypeId → Option TI) (o : Oper) (st : St) (K : St → Prop) : Prop :=
  (∃ v, QV P ty st.bx st.get o.op v ∧ K (st.set o.dst v)) ∨ (q = false ∧ WM P ty o st K)

def wantedV (g : AV) (want : Bool) : Option Bool := match g with
  | .bool b => some (b == want)
  | .tup [] => some false
  | _ => none

def WX (q : Bool) (P : Program) (ty : TypeId → Option TI) (n : Nat) (ops : List Oper) : List Oper → St → (St → Prop) → Prop
  | [], st, K => K st
  | o :: l, st, K => slotOk n o.dst = true ∧
    match o.guard with
    | none => W1X q P ty o st fun s => WX q P ty n ops l s K
    | some (j, want) => ∃ t g y, guardSlotL ops j = some t ∧ look st.env t = some g ∧ wantedV g want = some y ∧
      (y = true → W1X q P ty o st fun s => WX q P ty n ops l s K) ∧ (y = false → WX q P ty n ops l (st.set o.dst (.tup [])) K)

section
variable {P : Program} {ty : TypeId → Option TI} {G : Gh} {Q : Exit → St → Prop}

theorem QV_ok (hty : TyOk P ty) {o : Oper} {st : St} {v : AV} (h : QV P ty st.bx st.get o.op v) (hd : slotOk G.n o.dst = true) {K' : Act → World → Prop}
    (hK : ∀ φ a w, RelA G (st.set o.dst v) φ a w → K' a w) : ∀ φ a w, RelA G st φ a w → o.wp P a w K' (QE G Q) := by
  unfold QV at h
  split at h
  · rename_i p r e
    obtain ⟨h1, rfl⟩ := h
    exact op_val hty e h1 hd hK
  · split at h
    · rename_i f xs e
      unfold callOf at e
      split at e
      · rename_i fop args ats hop
        split at e
        · rename_i f' caps hf
          simp only [Option.some.injEq, Prod.mk.injEq] at e
          obtain ⟨rfl, rfl⟩ := e
          exact op_callQ hop hf (h _ (fun _ _ k => k)) hd (fun r hr => by rw [hr]; exact hK)
        · cases e
      · cases e
    · intro φ a w hr
      obtain ⟨u, h1, h2⟩ := h.2 w φ (OK G st.bx φ w) o a.eval rfl (fun x _ => hr.get x)
      unfold Oper.wp
      rw [h1]
      exact hK φ _ w (hr.put hd h2)

theorem WM_ok (hty : TyOk P ty) {o : Oper} {st : St} {K : St → Prop} (h : WM P ty o st K) (hd : slotOk G.n o.dst = true) {K' : Act → World → Prop}
    (hK : ∀ s, K s → ∀ φ a w, RelA G s φ a w → K' a w) : ∀ φ a w, RelA G st φ a w → o.wp P a w K' (QE G Q) := by
  have call : ∀ {f xs}, callOf st.get o.op = some (f, xs) → ∃ fop args ats caps, o.op = .call ⟨.value fop, args, ats⟩ ∧ st.get fop = .fn f caps ∧ xs = argsOf st args caps := by
    intro f xs e
    unfold callOf at e
    split at e
    · rename_i fop args ats hop
      split at e
      · rename_i f' caps hf
        simp only [Option.some.injEq, Prod.mk.injEq] at e
        obtain ⟨rfl, rfl⟩ := e
        exact ⟨fop, args, ats, caps, hop, hf, rfl⟩
      · cases e
    · cases e
  rcases h with ⟨p, r, bx', nx', e, hp, hk⟩ | ⟨f, xs, e, h1⟩ | ⟨f, xs, ids, R, e, h1, h2, h3⟩ | h
  · exact op_mem hty e hp hd (hK _ hk)
  · obtain ⟨fop, args, ats, caps, hop, hf, rfl⟩ := call e
    exact op_callQ hop hf h1 hd (fun r hr => hK _ hr)
  · obtain ⟨fop, args, ats, caps, hop, hf, rfl⟩ := call e
    exact op_callR hop hf ids h1 h2 hd (fun r bs' nx' hr => hK _ (h3 r bs' nx' hr))
  · exact h G Q K' hd hK

theorem W1X_ok (hty : TyOk P ty) {q : Bool} {o : Oper} {st : St} {K : St → Prop} (h : W1X q P ty o st K) (hd : slotOk G.n o.dst = true) {K' : Act → World → Prop}
    (hK : ∀ s, K s → ∀ φ a w, RelA G s φ a w → K' a w) : ∀ φ a w, RelA G st φ a w → o.wp P a w K' (QE G Q) := by
  rcases h with ⟨v, h1, h2⟩ | ⟨_, h⟩
  · exact QV_ok hty h1 hd (hK _ h2)
  · exact WM_ok hty h hd hK

theorem OP_none {A : Array Oper} {i : Nat} {o : Oper} (ho : A[i]? = some o) (hg : o.guard = none) {K : Act → World → Prop} {Q' : Exit → Act → World → Prop} {a : Act} {w : World} (h : o.wp P a w K Q') : wpOp P A Q' i K a w := by
  simp only [wpOp, ho, wanted_none hg, if_true]
  exact .inl h

theorem rep_skip {w : World} {φ : Nat → Option Loc} {ok : Nat → Nat → Prop} : Rep w φ ok (.tup []) Go.undef := .tup [] #[] rfl (fun i x v h => by simp at h)

theorem OP_guard {A : Array Oper} {i : Nat} {o : Oper} {st : St} (ho : A[i]? = some o) {j t : Nat} {want y : Bool} {g : AV} (hgd : o.guard = some (j, want)) (hs : guardSlot A j = some t)
    (hb : look st.env t = some g) (hy : wantedV g want = some y) {K : Act → World → Prop} {Q' : Exit → Act → World → Prop} {φ : Nat → Option Loc} {a : Act} {w : World} (r : RelA G st φ a w)
    (h1 : y = true → o.wp P a w K Q') (h2 : y = false → K (a.put o.dst Go.undef) w) : wpOp P A Q' i K a w := by
  unfold wantedV at hy
  split at hy
  · rename_i b
    have hyy := yielded_of hs r hb
    cases hy
    simp only [wpOp, ho, Region.wanted, hgd, hyy]
    by_cases e : b = want
    · subst e
      simp only [beq_self_eq_true, if_true]
      exact .inl (h1 (by simp))
    · have hne : ((some b : Option Bool) == some want) = false := by
        cases b <;> cases want <;> simp_all
      simp only [hne, Bool.false_eq_true, if_false]
      exact h2 (by cases b <;> cases want <;> simp_all)
  · cases hy
    have hyy : yielded A a.tmps j = none := by
      have hr := (r.env t _ hb).2
      have : a.tmps.getD t Go.undef = .tuple #[] := by
        generalize a.tmps.getD t Go.undef = u at hr
        cases hr with | tup _ vs hl hr =>
        have : vs = #[] := by
          apply Array.eq_empty_of_size_eq_zero
          simpa using hl
        rw [this]
      have hk : ∀ u, a.tmps[t]? = some u → u = .tuple #[] := by
        intro u hu
        rw [← this]
        simp [Array.getD_eq_getD_getElem?, hu]
      unfold yielded
      unfold guardSlot at hs
      rw [hs]
      simp only [Option.bind_some]
      cases hu : a.tmps[t]? with
      | none => rfl
      | some u => rw [hk u hu]
    simp only [wpOp, ho, Region.wanted, hgd, hyy]
    have hne : ((none : Option Bool) == some want) = false := by cases want <;> rfl
    simp only [hne, Bool.false_eq_true, if_false]
    exact h2 rfl
  · cases hy

theorem WX_op (hty : TyOk P ty) {q : Bool} {ops : List Oper} {i : Nat} {o : Oper} {l : List Oper} {st : St} {K : St → Prop} (ho : ops.toArray[i]? = some o) (h : WX q P ty G.n ops (o :: l) st K)
    {K' : Act → World → Prop} (hK : ∀ s, WX q P ty G.n ops l s K → ∀ φ a w, RelA G s φ a w → K' a w) {φ : Nat → Option Loc} {a : Act} {w : World} (r : RelA G st φ a w) :
    wpOp P ops.toArray (QE G Q) i K' a w := by
  simp only [WX] at h
  obtain ⟨hd, h⟩ := h
  split at h
  · rename_i hg
    exact OP_none ho hg (W1X_ok hty h hd hK φ a w r)
  · rename_i j want hg
    obtain ⟨t, g, y, h1, h2, hy, h3, h4⟩ := h
    refine OP_guard ho hg (by simpa [guardSlot, guardSlotL] using h1) h2 hy r (fun e => W1X_ok hty (h3 e) hd hK φ a w r) (fun e => hK _ (h4 e) φ _ _ (r.put hd rep_skip))

theorem WX_ok (hty : TyOk P ty) {ops : List Oper} : ∀ (l : List Oper) (k : Nat) (st : St) (K : St → Prop), (∀ j, l[j]? = ops[k + j]?) → WX false P ty G.n ops l st K → (∀ s, K s → Q .normal s) →
    TO P G ops.toArray (List.range' k l.length) st Q
  | [], k, st, K, hl, h, hK => TO_nil (hK st h)
  | o :: l, k, st, K, hl, h, hK => by
    have ho : ops.toArray[k]? = some o := by have := hl 0; simp at this; simpa using this.symm
    have hl' : ∀ j, l[j]? = ops[k + 1 + j]? := fun j => by
      have := hl (j + 1)
      rw [show k + (j + 1) = k + 1 + j by omega] at this
      simpa using this
    intro φ a w r
    simp only [List.length_cons, List.range'_succ]
    rw [wpOps_cons]
    exact WX_op hty ho h (fun s hs φ a w r => WX_ok hty l (k + 1) s K hl' hs hK φ a w r) r

theorem T_regX (hty : TyOk P ty) {id : Nat} {l : List Oper} {st : St} (h : WX false P ty G.n l l st (Q .normal)) : T P G (.region id l.toArray false) st Q := by
  refine T_region ?_
  have e : List.range l.toArray.size = List.range' 0 l.length := by simp [List.range_eq_range']
  rw [e]
  exact WX_ok hty l 0 st (Q .normal) (fun j => by simp) h (fun s hs => hs)
end

def EV (ops : List Oper) (vs : Nat → AV) (e0 : List (Nat × AV)) (S : Nat → Bool) : Nat → List (Nat × AV)
  | 0 => e0
  | k + 1 => if S k then (match (ops[k]?).bind (·.dst) with | some t => (t, vs k) :: EV ops vs e0 S k | none => EV ops vs e0 S k) else EV ops vs e0 S k

theorem EV_agree {ops : List Oper} {vs : Nat → AV} {e0 : List (Nat × AV)} {S S' : Nat → Bool} {t : Nat} : ∀ n, (∀ k, k < n → (ops[k]?).bind (·.dst) = some t → S k = S' k) → look (EV ops vs e0 S n) t = look (EV ops vs e0 S' n) t
  | 0, _ => rfl
  | n + 1, h => by
    have ih := EV_agree (ops := ops) (vs := vs) (e0 := e0) (t := t) n (fun k hk => h k (by omega))
    simp only [EV]
    cases hd : (ops[n]?).bind (·.dst) with
    | none => simp only [ite_self]; exact ih
    | some t' =>
      by_cases e : t' = t
      · subst e
        rw [h n (by omega) hd]
        cases S' n <;> simp [look, ih]
      · cases S n <;> cases S' n <;> simp [look, e, ih]

theorem EV_stop {ops : List Oper} {vs : Nat → AV} {e0 : List (Nat × AV)} {S : Nat → Bool} {k : Nat} : ∀ n, k ≤ n → (∀ i, k ≤ i → i < n → S i = false) → EV ops vs e0 S n = EV ops vs e0 S k
  | 0, h, _ => by rw [show k = 0 by omega]
  | n + 1, h, hS => by
    by_cases e : k = n + 1
    · rw [e]
    · have hn : S n = false := hS n (by omega) (by omega)
      simp only [EV, hn, Bool.false_eq_true, if_false]
      exact EV_stop n (by omega) (fun i h1 h2 => hS i h1 (by omega))

theorem EV_congr {ops : List Oper} {vs vs' : Nat → AV} {e0 : List (Nat × AV)} {S S' : Nat → Bool} : ∀ n, (∀ k, k < n → vs k = vs' k ∧ S k = S' k) → EV ops vs e0 S n = EV ops vs' e0 S' n
  | 0, _ => rfl
  | n + 1, h => by
    simp only [EV, EV_congr n (fun k hk => h k (by omega)), (h n (by omega)).1, (h n (by omega)).2]

theorem EV_last {ops : List Oper} {vs : Nat → AV} {e0 : List (Nat × AV)} {S : Nat → Bool} {j t : Nat} (hj : S j = true) (ht : (ops[j]?).bind (·.dst) = some t) :
    ∀ n, j < n → (∀ k, j < k → k < n → (ops[k]?).bind (·.dst) = some t → S k = false) → look (EV ops vs e0 S n) t = some (vs j)
  | 0, h, _ => by omega
  | n + 1, h, hk => by
    by_cases e : j = n
    · subst e
      simp [EV, hj, ht, look]
    · have ih := EV_last (vs := vs) (e0 := e0) hj ht n (by omega) (fun k h1 h2 => hk k h1 (by omega))
      simp only [EV]
      cases hd : (ops[n]?).bind (·.dst) with
      | none => simp only [ite_self]; exact ih
      | some t' =>
        by_cases e' : t' = t
        · subst e'
          rw [hk n (by omega) (by omega) hd]
          simpa using ih
        · cases S n <;> simp [look, e', ih]

def Fact (P : Program) (ty : TypeId → Option TI) (n : Nat) (ops : List Oper) (bx : List (Nat × Option Box)) (nx : Nat) (env : List (Nat × AV)) (o : Oper) (v : AV) : Prop :=
  slotOk n o.dst = true ∧ match o.guard with
    | none => QV P ty bx (St.get ⟨env, bx, nx⟩) o.op v
    | some (g, want) => ∃ t gv y, guardSlotL ops g = some t ∧ look env t = some gv ∧ wantedV gv want = some y ∧ (y = true → QV P ty bx (St.get ⟨env, bx, nx⟩) o.op v) ∧ (y = false → v = .tup [])

theorem Fact_congr {P : Program} {ty : TypeId → Option TI} {n : Nat} {ops : List Oper} {bx : List (Nat × Option Box)} {nx : Nat} {env env' : List (Nat × AV)} {o : Oper} {v : AV}
    (h : ∀ t ∈ o.looksAt ops.toArray, look env t = look env' t) (k : Fact P ty n ops bx nx env o v) : Fact P ty n ops bx nx env' o v := by
  have hq : QV P ty bx (St.get ⟨env, bx, nx⟩) o.op v → QV P ty bx (St.get ⟨env', bx, nx⟩) o.op v := QV_congr fun x hx => by
    cases x with
    | tmp t =>
      simp only [St.get]
      rw [h t (List.mem_append_left _ (List.mem_filterMap.2 ⟨.tmp t, by simpa using hx, rfl⟩))]
    | _ => rfl
  unfold Fact at *
  refine ⟨k.1, ?_⟩
  have k2 := k.2
  cases hg : o.guard with
  | none => rw [hg] at k2; exact hq k2
  | some gw =>
    obtain ⟨g, want⟩ := gw
    rw [hg] at k2
    obtain ⟨t, gv, y, h1, h2, hy, h3, h4⟩ := k2
    refine ⟨t, gv, y, h1, ?_, hy, fun e => hq (h3 e), h4⟩
    rw [← h t ?_]
    · exact h2
    · unfold Oper.looksAt
      rw [hg]
      refine List.mem_append_right _ ?_
      simp only [guardSlotL] at h1
      simp [h1]

theorem WX_facts {P : Program} {ty : TypeId → Option TI} {n : Nat} {ops : List Oper} {bx : List (Nat × Option Box)} {nx : Nat} {e0 : List (Nat × AV)} {K : St → Prop} {m : Nat} (hm : m ≤ ops.length) :
    ∀ (l : List Oper) (k : Nat) (vs0 : Nat → AV), l = (ops.take m).drop k → k ≤ m → WX true P ty n ops l ⟨EV ops vs0 e0 (fun _ => true) k, bx, nx⟩ K →
      ∃ vs : Nat → AV, (∀ i, i < k → vs i = vs0 i) ∧ (∀ i o, k ≤ i → i < m → ops[i]? = some o → Fact P ty n ops bx nx (EV ops vs e0 (fun _ => true) i) o (vs i)) ∧ K ⟨EV ops vs e0 (fun _ => true) m, bx, nx⟩
  | [], k, vs0, hl, hk, h => by
    have hkm : k = m := by
      have := congrArg List.length hl
      simp at this
      omega
    subst hkm
    exact ⟨vs0, fun _ _ => rfl, fun i o h1 h2 => by omega, h⟩
  | o :: l, k, vs0, hl, hk, h => by
    have hkm : k < m := by
      have := congrArg List.length hl
      simp at this
      omega
    have ho : ops[k]? = some o := by
      have := congrArg (fun l => l[0]?) hl
      simp [hkm] at this
      simpa using this.symm
    have hl' : l = (ops.take m).drop (k + 1) := by
      have := congrArg List.tail hl
      simpa [List.tail_drop] using this
    -- a step with an outcome
    have step : ∀ v, Fact P ty n ops bx nx (EV ops vs0 e0 (fun _ => true) k) o v → WX true P ty n ops l ((St.mk (EV ops vs0 e0 (fun _ => true) k) bx nx).set o.dst v) K →
        ∃ vs : Nat → AV, (∀ i, i < k → vs i = vs0 i) ∧ (∀ i o, k ≤ i → i < m → ops[i]? = some o → Fact P ty n ops bx nx (EV ops vs e0 (fun _ => true) i) o (vs i)) ∧ K ⟨EV ops vs e0 (fun _ => true) m, bx, nx⟩ := by
      intro v hf hw
      let vs1 : Nat → AV := fun i => if i = k then v else vs0 i
      have hEk : EV ops vs1 e0 (fun _ => true) k = EV ops vs0 e0 (fun _ => true) k := EV_congr k fun i hi => ⟨by simp only [vs1]; rw [if_neg (by omega)], rfl⟩
      have hE1 : (St.mk (EV ops vs0 e0 (fun _ => true) k) bx nx).set o.dst v = ⟨EV ops vs1 e0 (fun _ => true) (k + 1), bx, nx⟩ := by
        simp only [EV, if_true, ho, Option.bind_some, hEk]
        cases hd : o.dst with
        | none => rfl
        | some t => simp [St.set, vs1]
      rw [hE1] at hw
      obtain ⟨vs, g1, g2, g3⟩ := WX_facts hm l (k + 1) vs1 hl' (by omega) hw
      refine ⟨vs, fun i hi => by rw [g1 i (by omega)]; simp only [vs1]; rw [if_neg (by omega)], fun i o' h1 h2 h3 => ?_, g3⟩
      by_cases e : i = k
      · subst e
        rw [ho] at h3
        cases h3
        have e1 : vs i = v := by rw [g1 i (by omega)]; simp [vs1]
        have e2 : EV ops vs e0 (fun _ => true) i = EV ops vs0 e0 (fun _ => true) i := EV_congr i fun j hj => ⟨by rw [g1 j (by omega)]; simp only [vs1]; rw [if_neg (by omega)], rfl⟩
        rw [e1, e2]
        exact hf
      · exact g2 i o' (by omega) h2 h3
    simp only [WX] at h
    obtain ⟨hd, h⟩ := h
    have one : ∀ {K' : St → Prop}, W1X true P ty o ⟨EV ops vs0 e0 (fun _ => true) k, bx, nx⟩ K' → ∃ v, QV P ty bx (St.get ⟨EV ops vs0 e0 (fun _ => true) k, bx, nx⟩) o.op v ∧ K' ((St.mk (EV ops vs0 e0 (fun _ => true) k) bx nx).set o.dst v) := by
      intro K' h
      rcases h with h | ⟨h, _⟩
      · exact h
      · cases h
    cases hg : o.guard with
    | none =>
      rw [hg] at h
      obtain ⟨v, h1, h2⟩ := one h
      exact step v ⟨hd, by rw [hg]; exact h1⟩ h2
    | some gw =>
      obtain ⟨g, want⟩ := gw
      rw [hg] at h
      obtain ⟨t, gv, y, h1, h2, hy, h3, h4⟩ := h
      cases y with
      | true =>
        obtain ⟨v, q1, q2⟩ := one (h3 rfl)
        exact step v ⟨hd, by rw [hg]; exact ⟨t, gv, true, h1, h2, hy, fun _ => q1, fun e' => by cases e'⟩⟩ q2
      | false =>
        exact step (.tup []) ⟨hd, by rw [hg]; exact ⟨t, gv, false, h1, h2, hy, fun e'' => (by cases e''), fun _ => rfl⟩⟩ (h4 rfl)

end Go.Av
namespace Go.Av

def reach (ops : List Oper) : Nat → Nat → Nat → Bool
  | 0, _, _ => false
  | f + 1, j, i => match ops[j]? with
    | some o => o.after.toList.any fun e => Region.binds .any e && (e.on == i || reach ops f e.on i)
    | none => false

def drawOk (ops : List Oper) (m : Nat) : Bool :=
  (List.range ops.length).all fun j => match ops[j]? with
    | none => true
    | some oj => oj.after.toList.all (fun e => !Region.binds .any e || decide (e.on < j)) && (List.range j).all fun i => match ops[i]? with
      | none => true
      | some oi => (oi.apart ops.toArray oj || oj.after.toList.any (fun e => Region.binds .any e && e.on == i)) && (decide (j < m) || reach ops ops.length j i)

structure DrawOk (ops : List Oper) (m : Nat) : Prop where
  back : ∀ (j : Nat) (o : Oper), ops[j]? = some o → ∀ e ∈ o.after, Region.binds .any e = true → e.on < j
  edge : ∀ (j : Nat) (oj : Oper) (i : Nat) (oi : Oper), ops[j]? = some oj → i < j → ops[i]? = some oi → oi.apart ops.toArray oj = true ∨ ∃ e ∈ oj.after, Region.binds .any e = true ∧ e.on = i
  tail : ∀ (j : Nat) (oj : Oper) (i : Nat), ops[j]? = some oj → m ≤ j → i < j → reach ops ops.length j i = true

theorem drawOk_spec {ops : List Oper} {m : Nat} (h : drawOk ops m = true) : DrawOk ops m := by
  simp only [drawOk, List.all_eq_true, List.mem_range] at h
  have lt : ∀ {j o}, ops[j]? = some o → j < ops.length := fun e => (List.getElem?_eq_some_iff.1 e).1
  refine ⟨fun j o ho e he hbd => ?_, fun j oj i oi hj hi ho => ?_, fun j oj i hj hm hi => ?_⟩
  · have k := h j (lt ho)
    rw [ho] at k
    simp only [Bool.and_eq_true, List.all_eq_true, decide_eq_true_eq, Bool.or_eq_true, Bool.not_eq_true'] at k
    rcases k.1 e (by simpa using he) with k1 | k1
    · rw [hbd] at k1; cases k1
    · exact k1
  · have k := h j (lt hj)
    rw [hj] at k
    simp only [Bool.and_eq_true, List.all_eq_true, decide_eq_true_eq, List.mem_range] at k
    have k2 := k.2 i hi
    rw [ho] at k2
    simp only [Bool.and_eq_true, Bool.or_eq_true, List.any_eq_true, beq_iff_eq] at k2
    rcases k2.1 with k3 | ⟨e, he, h1, h2⟩
    · exact .inl k3
    · exact .inr ⟨e, by simpa using he, h1, h2⟩
  · have k := h j (lt hj)
    rw [hj] at k
    simp only [Bool.and_eq_true, List.all_eq_true, decide_eq_true_eq, List.mem_range] at k
    have k2 := k.2 i hi
    have : ∃ oi, ops[i]? = some oi := ⟨ops[i]'(by have := lt hj; omega), by simp⟩
    obtain ⟨oi, ho⟩ := this
    rw [ho] at k2
    simp only [Bool.and_eq_true, Bool.or_eq_true, decide_eq_true_eq] at k2
    rcases k2.2 with k3 | k3
    · omega
    · exact k3

def Closed (ops : List Oper) (S : Nat → Bool) : Prop := ∀ j o, ops[j]? = some o → S j = true → ∀ e ∈ o.after, Region.binds .any e = true → S e.on = true

theorem reach_closed {ops : List Oper} {S : Nat → Bool} (hC : Closed ops S) : ∀ f j i o, ops[j]? = some o → (∀ e ∈ o.after, Region.binds .any e = true → S e.on = true) → reach ops f j i = true → S i = true
  | 0, _, _, _, _, _, h => by cases h
  | f + 1, j, i, o, ho, hl, h => by
    simp only [reach, ho, List.any_eq_true, Bool.and_eq_true, Bool.or_eq_true, beq_iff_eq] at h
    obtain ⟨e, he, hb, h⟩ := h
    have hs := hl e (by simpa using he) hb
    rcases h with rfl | h
    · exact hs
    · cases hk : ops[e.on]? with
      | none =>
        cases f with
        | zero => cases h
        | succ f => simp [reach, hk] at h
      | some o' => exact reach_closed hC f e.on i o' hk (fun e' he' hb' => hC _ _ hk hs e' he' hb') h

def cnt (S : Nat → Bool) : Nat → Nat
  | 0 => 0
  | n + 1 => cnt S n + if S n then 0 else 1

theorem cnt_congr {S S' : Nat → Bool} : ∀ n, (∀ k, k < n → S k = S' k) → cnt S n = cnt S' n
  | 0, _ => rfl
  | n + 1, h => by simp only [cnt, cnt_congr n (fun k hk => h k (by omega)), h n (by omega)]

theorem cnt_set {S S' : Nat → Bool} {j : Nat} (h0 : S j = false) (h1 : S' j = true) (hne : ∀ k, k ≠ j → S k = S' k) : ∀ n, j < n → cnt S n = cnt S' n + 1
  | 0, h => by omega
  | n + 1, h => by
    by_cases e : j = n
    · subst e
      simp only [cnt, h0, h1, cnt_congr j (fun k hk => hne k (by omega))]
      simp
    · simp only [cnt, cnt_set h0 h1 hne n (by omega), hne n (by omega)]
      omega

theorem cnt_pos {S : Nat → Bool} : ∀ n, 0 < cnt S n → ∃ j, j < n ∧ S j = false ∧ ∀ i, i < j → S i = true
  | 0, h => by simp [cnt] at h
  | n + 1, h => by
    by_cases e : 0 < cnt S n
    · obtain ⟨j, h1, h2, h3⟩ := cnt_pos n e
      exact ⟨j, by omega, h2, h3⟩
    · have hz : cnt S n = 0 := by omega
      have all : ∀ i, i < n → S i = true := by
        clear h e
        induction n with
        | zero => intro i hi; omega
        | succ n ih =>
          intro i hi
          simp only [cnt] at hz
          by_cases e : i = n
          · subst e
            cases hS : S i with
            | true => rfl
            | false => rw [hS] at hz; simp at hz
          · exact ih (by omega) i (by omega)
      refine ⟨n, by omega, ?_, all⟩
      cases hS : S n with
      | false => rfl
      | true => simp [cnt, hz, hS] at h

theorem cnt_zero {S : Nat → Bool} : ∀ n, (∀ i, i < n → S i = true) → cnt S n = 0
  | 0, _ => rfl
  | n + 1, h => by simp [cnt, cnt_zero n (fun i hi => h i (by omega)), h n (by omega)]

theorem cnt_all {S : Nat → Bool} {n : Nat} (h : ∃ j, j < n ∧ S j = false) : 0 < cnt S n := by
  obtain ⟨j, hj, h0⟩ := h
  have := cnt_set (S := S) (S' := fun k => if k = j then true else S k) h0 (by simp) (fun k hk => by simp [hk]) n hj
  omega

section
variable {P : Program} {ty : TypeId → Option TI} {G : Gh} {Q : Exit → St → Prop}

def got (listed : Array Bool) (j : Nat) : Bool := listed.getD j false

theorem mem_ready' {ops : List Oper} {listed : Array Bool} (hs : listed.size = ops.length) {j : Nat} : j ∈ Region.ready .any ops.toArray listed ↔
    got listed j = false ∧ ∃ o, ops[j]? = some o ∧ ∀ e ∈ o.after, Region.binds .any e = true → got listed e.on = true := by
  rw [mem_ready]
  constructor
  · rintro ⟨h1, o, h2, h3⟩
    have h2' : ops[j]? = some o := by simpa using h2
    have hlt : j < ops.length := (List.getElem?_eq_some_iff.1 h2').1
    exact ⟨by rw [← h1]; simp [got, Array.getD, hs, hlt], o, h2', h3⟩
  · rintro ⟨h1, o, h2, h3⟩
    have hlt : j < ops.length := (List.getElem?_eq_some_iff.1 h2).1
    exact ⟨by rw [← h1]; simp [got, Array.getD, hs, hlt], o, by simpa using h2, h3⟩

theorem got_set {listed : Array Bool} {j : Nat} (hj : j < listed.size) (k : Nat) : got (listed.setIfInBounds j true) k = if k = j then true else got listed k := by
  unfold got
  by_cases e : k = j
  · subst e; simp [hj]
  · rw [if_neg e, getD_set_ne false (Ne.symm e)]

theorem any_tail (hty : TyOk P ty) {ops : List Oper} {m : Nat} (hD : DrawOk ops m) : ∀ (l : List Oper) (k : Nat) (st : St) (K : St → Prop) (listed : Array Bool) (φ : Nat → Option Loc) (a : Act) (w : World),
    l = ops.drop k → m ≤ k → listed.size = ops.length → (∀ i, i < ops.length → got listed i = decide (i < k)) → WX false P ty G.n ops l st K → (∀ s, K s → Q .normal s) → RelA G st φ a w →
    wpAny P .any ops.toArray (QE G Q) l.length listed a w
  | [], k, st, K, listed, φ, a, w, hl, hm, hsz, hS, h, hK, r => by
    have hk : ops.length ≤ k := by
      have := congrArg List.length hl
      simp at this
      omega
    refine ⟨?_, st, φ, hK st h, r⟩
    refine List.eq_nil_iff_forall_not_mem.2 fun j hj => ?_
    obtain ⟨h1, o, h2, _⟩ := (mem_ready' hsz).1 hj
    have hlt : j < ops.length := (List.getElem?_eq_some_iff.1 h2).1
    rw [hS j hlt] at h1
    simp at h1
    omega
  | o :: l, k, st, K, listed, φ, a, w, hl, hm, hsz, hS, h, hK, r => by
    have hk : k < ops.length := by
      have := congrArg List.length hl
      simp at this
      omega
    have ho : ops[k]? = some o := by
      have := congrArg (fun l => l[0]?) hl
      simp at this
      simpa using this.symm
    have hl' : l = ops.drop (k + 1) := by
      have := congrArg List.tail hl
      simpa [List.tail_drop] using this
    have hkr : k ∈ Region.ready .any ops.toArray listed := by
      refine (mem_ready' hsz).2 ⟨by rw [hS k hk]; simp, o, ho, fun e he hbd => ?_⟩
      have := hD.back k o ho e he hbd
      rw [hS e.on (by omega)]
      simpa using this
    have hC : Closed ops (got listed) := by
      intro j oj hj hSj e he hb
      have hlt : j < ops.length := (List.getElem?_eq_some_iff.1 hj).1
      have hb' := hD.back j oj hj e he hb
      rw [hS j hlt] at hSj
      rw [hS e.on (by omega)]
      simp at hSj ⊢
      omega
    refine ⟨fun h0 => (by rw [h0] at hkr; cases hkr), fun j hj => ?_⟩
    obtain ⟨h1, oj, h2, h3⟩ := (mem_ready' hsz).1 hj
    have hlt : j < ops.length := (List.getElem?_eq_some_iff.1 h2).1
    rw [hS j hlt] at h1
    simp at h1
    have hjk : j = k := by
      rcases Nat.lt_or_eq_of_le h1 with hgt | e
      · have := reach_closed hC _ j k oj h2 h3 (hD.tail j oj k h2 (by omega) hgt)
        rw [hS k hk] at this
        simp at this
      · exact e.symm
    subst hjk
    refine WX_op hty (by simpa using ho) h (fun s hs φ a w r => ?_) r
    refine any_tail hty hD l (j + 1) s K _ φ a w hl' (by omega) (by simpa using hsz) (fun i hi => ?_) hs hK r
    rw [got_set (by omega), hS i hi]
    by_cases e : i = j
    · subst e; simp
    · rw [if_neg e]; congr 1; simp only [eq_iff_iff]; omega

theorem any_quiet (hty : TyOk P ty) {ops : List Oper} {m : Nat} (hD : DrawOk ops m) (hm : m ≤ ops.length) {vs : Nat → AV} {e0 : List (Nat × AV)} {bx : List (Nat × Option Box)} {nx : Nat}
    (hF : ∀ i o, i < m → ops[i]? = some o → Fact P ty G.n ops bx nx (EV ops vs e0 (fun _ => true) i) o (vs i)) {K : St → Prop}
    (hT : WX false P ty G.n ops (ops.drop m) ⟨EV ops vs e0 (fun _ => true) m, bx, nx⟩ K) (hK : ∀ s, K s → Q .normal s) :
    ∀ (fuel : Nat) (listed : Array Bool) (φ : Nat → Option Loc) (a : Act) (w : World), listed.size = ops.length → cnt (got listed) ops.length = fuel → Closed ops (got listed) → (∀ i, m ≤ i → i < ops.length → got listed i = false) →
      RelA G ⟨EV ops vs e0 (got listed) m, bx, nx⟩ φ a w → wpAny P .any ops.toArray (QE G Q) fuel listed a w := by
  intro fuel
  induction fuel with
  | zero =>
    intro listed φ a w hsz hc hC hM r
    have all : ∀ i, i < ops.length → got listed i = true := by
      intro i hi
      cases hS : got listed i with
      | true => rfl
      | false => have := cnt_all (S := got listed) ⟨i, hi, hS⟩; omega
    have hml : m = ops.length := by
      rcases Nat.lt_or_eq_of_le hm with h | h
      · have := hM m (Nat.le_refl _) h
        rw [all m h] at this
        cases this
      · exact h
    have hd : ops.drop m = [] := by simp [hml]
    have he : EV ops vs e0 (got listed) m = EV ops vs e0 (fun _ => true) m := EV_congr m fun k hk => ⟨rfl, all k (by omega)⟩
    rw [he] at r
    have := any_tail (Q := Q) hty hD (ops.drop m) m _ K listed φ a w rfl (Nat.le_refl _) hsz (fun i hi => by rw [all i hi]; simp; omega) hT hK r
    rw [hd] at this
    exact this
  | succ fuel ih =>
    intro listed φ a w hsz hc hC hM r
    by_cases hall : ∀ i, i < m → got listed i = true
    · have he : EV ops vs e0 (got listed) m = EV ops vs e0 (fun _ => true) m := EV_congr m fun k hk => ⟨rfl, hall k hk⟩
      rw [he] at r
      have hS : ∀ i, i < ops.length → got listed i = decide (i < m) := by
        intro i hi
        by_cases e : i < m
        · rw [hall i e]; simp [e]
        · rw [hM i (by omega) hi]; simp [e]
      have hlen : (ops.drop m).length = fuel + 1 := by
        have key : ∀ n, m ≤ n → n ≤ ops.length → cnt (got listed) n = n - m := by
          intro n
          induction n with
          | zero => intro _ _; simp [cnt]
          | succ n ih =>
            intro h1 h2
            by_cases e : m = n + 1
            · rw [cnt_zero _ (fun i hi => hall i (by omega))]; omega
            · simp only [cnt, ih (by omega) (by omega), hM n (by omega) (by omega)]
              simp
              omega
        rw [key _ hm (Nat.le_refl _)] at hc
        simpa using hc
      have := any_tail (Q := Q) hty hD (ops.drop m) m _ K listed φ a w rfl (Nat.le_refl _) hsz hS hT hK r
      rw [hlen] at this
      exact this
    · have hex : ∃ i, i < m ∧ got listed i = false := by
        refine Classical.byContradiction fun hn => hall fun i hi => ?_
        cases hS : got listed i with
        | true => rfl
        | false => exact absurd ⟨i, hi, hS⟩ hn
      refine ⟨fun h0 => ?_, fun j hj => ?_⟩
      · obtain ⟨j, h1, h2, h3⟩ := cnt_pos (S := got listed) ops.length (by omega)
        have ho : ops[j]? = some ops[j] := by simp
        have : j ∈ Region.ready .any ops.toArray listed := (mem_ready' hsz).2 ⟨h2, _, ho, fun e he hbd => h3 _ (hD.back j _ ho e he hbd)⟩
        rw [h0] at this
        cases this
      · obtain ⟨h1, o, h2, h3⟩ := (mem_ready' hsz).1 hj
        have hlt : j < ops.length := (List.getElem?_eq_some_iff.1 h2).1
        have hjm : j < m := by
          rcases Nat.lt_or_ge j m with h | h
          · exact h
          · obtain ⟨i, hi, hSi⟩ := hex
            have := reach_closed hC _ j i o h2 h3 (hD.tail j o i h2 h (by omega))
            rw [hSi] at this
            cases this
        -- who writes what this one looks at
        have later : ∀ k, j < k → k < ops.length → got listed k = true → ∀ ok, ops[k]? = some ok → o.apart ops.toArray ok = true := by
          intro k hk hkl hSk ok hok
          rcases hD.edge k ok j o hok hk h2 with h | ⟨e, he, hb, rfl⟩
          · exact h
          · have := hC k ok hok hSk e he hb
            rw [h1] at this
            cases this
        have sees : ∀ t, t ∈ o.looksAt ops.toArray → look (EV ops vs e0 (fun _ => true) j) t = look (EV ops vs e0 (got listed) m) t := by
          intro t ht
          have e1 : EV ops vs e0 (fun _ => true) j = EV ops vs e0 (fun i => decide (i < j)) m := by
            rw [EV_stop (S := fun i => decide (i < j)) (k := j) m (by omega) (fun i h1 h2 => by simp; omega)]
            exact EV_congr j fun k hk => ⟨rfl, by simp [hk]⟩
          rw [e1]
          refine EV_agree m fun k hk hw => ?_
          have hkl : k < ops.length := by omega
          have hok : ops[k]? = some ops[k] := by simp
          rw [hok] at hw
          simp only [Option.bind_some] at hw
          rcases Nat.lt_trichotomy k j with h | h | h
          · rcases hD.edge j o k _ h2 h hok with hap | ⟨e, he, hb, rfl⟩
            · exact absurd ht ((Oper.apart_spec hap).1 t hw)
            · rw [h3 e he hb]; simpa using h
          · subst h; rw [h1]; simp
          · cases hSk : got listed k with
            | false => simp; omega
            | true => exact absurd ht ((Oper.apart_spec (later k h hkl hSk _ hok)).2.2 t hw)
        have hfact := Fact_congr sees (hF j o hjm h2)
        -- behind it
        have next : ∀ φ a w, RelA G ((St.mk (EV ops vs e0 (got listed) m) bx nx).set o.dst (vs j)) φ a w → wpAny P .any ops.toArray (QE G Q) fuel (listed.setIfInBounds j true) a w := by
          intro φ a w r
          have hg : ∀ k, got (listed.setIfInBounds j true) k = if k = j then true else got listed k := got_set (by omega)
          refine ih _ φ a w (by simpa using hsz) ?_ ?_ ?_ ?_
          · have := cnt_set (S := got listed) (S' := got (listed.setIfInBounds j true)) h1 (by rw [hg]; simp) (fun k hk => by rw [hg, if_neg hk]) _ hlt
            omega
          · intro k ok hok hSk e he hb
            rw [hg] at hSk ⊢
            by_cases e' : e.on = j
            · simp [e']
            · rw [if_neg e']
              by_cases e'' : k = j
              · subst e''
                rw [h2] at hok
                cases hok
                exact h3 e he hb
              · rw [if_neg e''] at hSk
                exact hC k ok hok hSk e he hb
          · intro i h1 h2
            rw [hg, if_neg (by omega)]
            exact hM i h1 h2
          · refine r.weak ⟨fun t v h => ?_, ?_, ?_⟩
            · have hbind : (ops[j]?).bind (·.dst) = o.dst := by rw [h2]; rfl
              cases hd : o.dst with
              | none =>
                simp only [St.set]
                rw [← h]
                refine EV_agree m fun k hk hw => ?_
                rw [hg]
                by_cases e : k = j
                · subst e; rw [hbind, hd] at hw; cases hw
                · rw [if_neg e]
              | some t' =>
                simp only [St.set, look]
                by_cases e : t' = t
                · subst e
                  simp only [if_true]
                  rw [← h]
                  refine (EV_last (by rw [hg]; simp) (by rw [hbind, hd]) m hjm fun k hk hkm hw => ?_).symm
                  rw [hg, if_neg (by omega)]
                  cases hSk : got listed k with
                  | false => rfl
                  | true =>
                    have hok : ops[k]? = some (ops[k]'(by omega)) := by simp
                    rw [hok] at hw
                    exact absurd hw ((Oper.apart_spec (later k hk (by omega) hSk _ hok)).2.1 t' hd)
                · rw [if_neg e, ← h]
                  refine EV_agree m fun k hk hw => ?_
                  rw [hg]
                  by_cases e' : k = j
                  · subst e'
                    rw [hbind, hd] at hw
                    exact absurd (Option.some.inj hw) e
                  · rw [if_neg e']
            · cases o.dst <;> exact Nat.le_refl _
            · intro id b' hb
              refine ⟨b', ?_, rfl, rfl, rfl, fun h => h⟩
              cases o.dst <;> exact hb
        have hA : ops.toArray[j]? = some o := by simpa using h2
        obtain ⟨hd, hfact⟩ := hfact
        cases hgd : o.guard with
        | none =>
          rw [hgd] at hfact
          exact OP_none hA hgd (QV_ok hty (st := ⟨EV ops vs e0 (got listed) m, bx, nx⟩) hfact hd next φ a w r)
        | some gw =>
          obtain ⟨g, want⟩ := gw
          rw [hgd] at hfact
          obtain ⟨t, gv, y, f1, f2, fy, f3, f4⟩ := hfact
          refine OP_guard hA hgd (by simpa [guardSlot, guardSlotL] using f1) f2 fy r (fun e => QV_ok hty (st := ⟨EV ops vs e0 (got listed) m, bx, nx⟩) (f3 e) hd next φ a w r) (fun e => ?_)
          have := f4 e
          refine next φ _ w ?_
          rw [this]
          exact r.put hd rep_skip

theorem T_draw (hty : TyOk P ty) (hmix : P.follows .mixedOrders = true) {id : Nat} {l : List Oper} (m : Nat) (hD : drawOk l m = true) (hm : m ≤ l.length) {st : St}
    (h : WX true P ty G.n l (l.take m) st fun s => WX false P ty G.n l (l.drop m) s (Q .normal)) : T P G (.region id l.toArray true) st Q := by
  intro φ a w r
  refine wp_region_any hmix ?_
  obtain ⟨vs, _, hF, hT⟩ := WX_facts (e0 := st.env) (bx := st.bx) (nx := st.nx) hm (l.take m) 0 (fun _ => .undef) (by simp) (by omega) (by simpa [EV] using h)
  have hz : ∀ i, got (Array.replicate l.toArray.size false) i = false := by
    intro i
    simp only [got, Array.getD]
    split <;> simp
  have hE : EV l vs st.env (got (Array.replicate l.toArray.size false)) m = st.env := by
    rw [EV_stop (k := 0) m (by omega) (fun i _ _ => hz i)]
    rfl
  refine any_quiet (Q := Q) hty (drawOk_spec hD) hm (fun i o hi ho => hF i o (by omega) hi ho) hT (fun s hs => hs) _ _ φ a _ (by simp) ?_ (fun j o _ h => by rw [hz] at h; cases h) (fun i _ _ => hz i) ?_
  · have : ∀ n, cnt (got (Array.replicate l.toArray.size false)) n = n := by
      intro n
      induction n with
      | zero => rfl
      | succ n ih => simp only [cnt, ih, hz]; simp
    rw [this]
    simp
  · rw [hE]
    exact r.ext (.drew w)
end

end Go.Av
namespace Go.Av

def Gt (env : List (Nat × AV)) (x : Operand) (v : AV) : Prop := St.get ⟨env, [], 0⟩ x = v

theorem Gt.get {env : List (Nat × AV)} {x : Operand} {v : AV} (h : Gt env x v) (bx : List (Nat × Option Box)) (nx : Nat) : St.get ⟨env, bx, nx⟩ x = v := by
  cases x <;> exact h

theorem gt_tmp {env : List (Nat × AV)} {t : Nat} {v : AV} (h : look env t = some v) : Gt env (.tmp t) v := by simp [Gt, St.get, h]
def Gts (env : List (Nat × AV)) : List Operand → List AV → Prop
  | [], [] => True
  | x :: l, v :: r => Gt env x v ∧ Gts env l r
  | _, _ => False

theorem gts_nil {env : List (Nat × AV)} : Gts env [] [] := trivial
theorem gts_cons {env : List (Nat × AV)} {x : Operand} {l : List Operand} {v : AV} {r : List AV} (h : Gt env x v) (k : Gts env l r) : Gts env (x :: l) (v :: r) := ⟨h, k⟩

theorem Gts.map {env : List (Nat × AV)} (bx : List (Nat × Option Box)) (nx : Nat) : ∀ {l : List Operand} {r : List AV}, Gts env l r → l.map (St.get ⟨env, bx, nx⟩) = r
  | [], [], _ => rfl
  | x :: l, v :: r, h => by simp [h.1.get, Gts.map bx nx h.2]
  | [], _ :: _, h => h.elim
  | _ :: _, [], h => h.elim

section
variable {P : Program} {ty : TypeId → Option TI} {n : Nat} {q : Bool} {ops l : List Oper} {env : List (Nat × AV)} {bx : List (Nat × Option Box)} {nx : Nat} {K : St → Prop}
  {d : Nat} {tp : TypeId} {pos : String} {aft : Array Edge}

theorem S_nil {st : St} (h : K st) : WX q P ty n ops [] st K := h

theorem S_gt {dst : Option Tmp} {op : Op} {j t : Nat} {st : St} (hs : guardSlotL ops j = some t) {b : Bool} (hb : look st.env t = some (.bool b)) (e : b = true)
    (h : WX q P ty n ops (⟨dst, op, tp, pos, aft, none⟩ :: l) st K) : WX q P ty n ops (⟨dst, op, tp, pos, aft, some (j, true)⟩ :: l) st K := by
  simp only [WX] at h ⊢
  subst e
  exact ⟨h.1, t, _, true, hs, hb, rfl, fun _ => h.2, fun e' => by cases e'⟩

theorem S_gtF {dst : Option Tmp} {op : Op} {j t : Nat} {st : St} (hd : slotOk n dst = true) (hs : guardSlotL ops j = some t) {b : Bool} (hb : look st.env t = some (.bool b)) (e : b = false)
    (h : WX q P ty n ops l (st.set dst (.tup [])) K) : WX q P ty n ops (⟨dst, op, tp, pos, aft, some (j, true)⟩ :: l) st K := by
  simp only [WX]
  subst e
  exact ⟨hd, t, _, false, hs, hb, rfl, fun e' => (by cases e'), fun _ => h⟩

theorem S_gskip {dst : Option Tmp} {op : Op} {j t : Nat} {want : Bool} {st : St} (hd : slotOk n dst = true) (hs : guardSlotL ops j = some t) (hb : look st.env t = some (.tup []))
    (h : WX q P ty n ops l (st.set dst (.tup [])) K) : WX q P ty n ops (⟨dst, op, tp, pos, aft, some (j, want)⟩ :: l) st K := by
  simp only [WX]
  exact ⟨hd, t, _, false, hs, hb, rfl, fun e' => (by cases e'), fun _ => h⟩

theorem S_gf {dst : Option Tmp} {op : Op} {j t : Nat} {st : St} (hs : guardSlotL ops j = some t) {b : Bool} (hb : look st.env t = some (.bool b)) (e : b = false)
    (h : WX q P ty n ops (⟨dst, op, tp, pos, aft, none⟩ :: l) st K) : WX q P ty n ops (⟨dst, op, tp, pos, aft, some (j, false)⟩ :: l) st K := by
  simp only [WX] at h ⊢
  subst e
  exact ⟨h.1, t, _, true, hs, hb, rfl, fun _ => h.2, fun e' => by cases e'⟩

theorem S_gfT {dst : Option Tmp} {op : Op} {j t : Nat} {st : St} (hd : slotOk n dst = true) (hs : guardSlotL ops j = some t) {b : Bool} (hb : look st.env t = some (.bool b)) (e : b = true)
    (h : WX q P ty n ops l (st.set dst (.tup [])) K) : WX q P ty n ops (⟨dst, op, tp, pos, aft, some (j, false)⟩ :: l) st K := by
  simp only [WX]
  subst e
  exact ⟨hd, t, _, false, hs, hb, rfl, fun e' => (by cases e'), fun _ => h⟩

theorem S_gsplit {dst : Option Tmp} {op : Op} {j t : Nat} {want : Bool} {st : St} (hs : guardSlotL ops j = some t) {b : Bool} (hb : look st.env t = some (.bool b))
    (h1 : b = true → WX q P ty n ops (⟨dst, op, tp, pos, aft, some (j, want)⟩ :: l) st K) (h2 : b = false → WX q P ty n ops (⟨dst, op, tp, pos, aft, some (j, want)⟩ :: l) st K) :
    WX q P ty n ops (⟨dst, op, tp, pos, aft, some (j, want)⟩ :: l) st K := by
  cases b with
  | true => exact h1 rfl
  | false => exact h2 rfl

theorem S_QV {dst : Option Tmp} {op : Op} {v : AV} {st : St} (hd : slotOk n dst = true) (hv : QV P ty st.bx st.get op v) (h : WX q P ty n ops l (st.set dst v) K) :
    WX q P ty n ops (⟨dst, op, tp, pos, aft, none⟩ :: l) st K := by
  simp only [WX]
  exact ⟨hd, .inl ⟨v, hv, h⟩⟩

theorem S_val {op : Op} {p : Prop} {r : AV} (hd : slotOk n (some d) = true) (hv : valStep ty bx (St.get ⟨env, bx, nx⟩) op = some (p, r)) (hp : p) (h : WX q P ty n ops l ⟨(d, r) :: env, bx, nx⟩ K) :
    WX q P ty n ops (⟨some d, op, tp, pos, aft, none⟩ :: l) ⟨env, bx, nx⟩ K :=
  S_QV hd (by unfold QV; rw [hv]; exact ⟨hp, rfl⟩) h

theorem S_mem {op : Op} {p : Prop} {r : AV} {bx' : List (Nat × Option Box)} {nx' : Nat} (hd : slotOk n (some d) = true) (hv : memStep ty bx nx (St.get ⟨env, bx, nx⟩) op = some (p, r, bx', nx')) (hp : p)
    (h : WX false P ty n ops l ⟨(d, r) :: env, bx', nx'⟩ K) : WX false P ty n ops (⟨some d, op, tp, pos, aft, none⟩ :: l) ⟨env, bx, nx⟩ K := by
  simp only [WX]
  exact ⟨hd, .inr ⟨rfl, .inl ⟨p, r, bx', nx', hv, hp, h⟩⟩⟩

theorem S_memN {op : Op} {p : Prop} {r : AV} {bx' : List (Nat × Option Box)} {nx' : Nat} (hv : memStep ty bx nx (St.get ⟨env, bx, nx⟩) op = some (p, r, bx', nx')) (hp : p)
    (h : WX false P ty n ops l ⟨env, bx', nx'⟩ K) : WX false P ty n ops (⟨none, op, tp, pos, aft, none⟩ :: l) ⟨env, bx, nx⟩ K := by
  simp only [WX]
  exact ⟨rfl, .inr ⟨rfl, .inl ⟨p, r, bx', nx', hv, hp, h⟩⟩⟩

variable {x y : Operand} {v u : AV} {k k' : IntKind} {a b : Int} {t yt : TypeId}

theorem S_move (hx : Gt env x v) (hd : slotOk n (some d) = true) (h : WX q P ty n ops l ⟨(d, v) :: env, bx, nx⟩ K) : WX q P ty n ops (⟨some d, .move x, tp, pos, aft, none⟩ :: l) ⟨env, bx, nx⟩ K :=
  S_val hd (by simp only [valStep, opVal, hx.get]) trivial h
theorem S_assign (hx : Gt env x v) (hd : slotOk n (some d) = true) (h : WX q P ty n ops l ⟨(d, v) :: env, bx, nx⟩ K) : WX q P ty n ops (⟨some d, .assign x, tp, pos, aft, none⟩ :: l) ⟨env, bx, nx⟩ K :=
  S_val hd (by simp only [valStep, opVal, hx.get]) trivial h
theorem S_pickT {c : Operand} {bb : Bool} (hc : Gt env c (.bool bb)) (e : bb = true) (hx : Gt env x v) (hd : slotOk n (some d) = true) (h : WX q P ty n ops l ⟨(d, v) :: env, bx, nx⟩ K) :
    WX q P ty n ops (⟨some d, .pick c x y, tp, pos, aft, none⟩ :: l) ⟨env, bx, nx⟩ K :=
  S_val hd (by simp only [valStep, opVal, hc.get, hx.get, e, if_true]) trivial h
theorem S_pickF {c : Operand} {bb : Bool} (hc : Gt env c (.bool bb)) (e : bb = false) (hy : Gt env y v) (hd : slotOk n (some d) = true) (h : WX q P ty n ops l ⟨(d, v) :: env, bx, nx⟩ K) :
    WX q P ty n ops (⟨some d, .pick c x y, tp, pos, aft, none⟩ :: l) ⟨env, bx, nx⟩ K :=
  S_val hd (by simp only [valStep, opVal, hc.get, hy.get, e, Bool.false_eq_true, if_false]) trivial h
theorem S_lss (hx : Gt env x (.int k a)) (hy : Gt env y (.int k b)) (hd : slotOk n (some d) = true) (h : WX q P ty n ops l ⟨(d, .bool (decide (a < b))) :: env, bx, nx⟩ K) :
    WX q P ty n ops (⟨some d, .binOp .lss t x y yt, tp, pos, aft, none⟩ :: l) ⟨env, bx, nx⟩ K :=
  S_val hd (by simp only [valStep, opVal, hx.get, hy.get, binVal, if_true, intBin]) trivial h
theorem S_leq (hx : Gt env x (.int k a)) (hy : Gt env y (.int k b)) (hd : slotOk n (some d) = true) (h : WX q P ty n ops l ⟨(d, .bool (decide (a ≤ b))) :: env, bx, nx⟩ K) :
    WX q P ty n ops (⟨some d, .binOp .leq t x y yt, tp, pos, aft, none⟩ :: l) ⟨env, bx, nx⟩ K :=
  S_val hd (by simp only [valStep, opVal, hx.get, hy.get, binVal, if_true, intBin]) trivial h
theorem S_gtr (hx : Gt env x (.int k a)) (hy : Gt env y (.int k b)) (hd : slotOk n (some d) = true) (h : WX q P ty n ops l ⟨(d, .bool (decide (b < a))) :: env, bx, nx⟩ K) :
    WX q P ty n ops (⟨some d, .binOp .gtr t x y yt, tp, pos, aft, none⟩ :: l) ⟨env, bx, nx⟩ K :=
  S_val hd (by simp only [valStep, opVal, hx.get, hy.get, binVal, if_true, intBin, gt_iff_lt]) trivial h
theorem S_geq (hx : Gt env x (.int k a)) (hy : Gt env y (.int k b)) (hd : slotOk n (some d) = true) (h : WX q P ty n ops l ⟨(d, .bool (decide (b ≤ a))) :: env, bx, nx⟩ K) :
    WX q P ty n ops (⟨some d, .binOp .geq t x y yt, tp, pos, aft, none⟩ :: l) ⟨env, bx, nx⟩ K :=
  S_val hd (by simp only [valStep, opVal, hx.get, hy.get, binVal, if_true, intBin, ge_iff_le]) trivial h
theorem S_eql (hx : Gt env x (.int k a)) (hy : Gt env y (.int k b)) (hd : slotOk n (some d) = true) (h : WX q P ty n ops l ⟨(d, .bool (decide (a = b))) :: env, bx, nx⟩ K) :
    WX q P ty n ops (⟨some d, .binOp .eql t x y yt, tp, pos, aft, none⟩ :: l) ⟨env, bx, nx⟩ K :=
  S_val hd (by simp only [valStep, opVal, hx.get, hy.get, binVal, if_true, intBin]; rfl) trivial h
theorem S_neq (hx : Gt env x (.int k a)) (hy : Gt env y (.int k b)) (hd : slotOk n (some d) = true) (h : WX q P ty n ops l ⟨(d, .bool (!decide (a = b))) :: env, bx, nx⟩ K) :
    WX q P ty n ops (⟨some d, .binOp .neq t x y yt, tp, pos, aft, none⟩ :: l) ⟨env, bx, nx⟩ K :=
  S_val hd (by simp only [valStep, opVal, hx.get, hy.get, binVal, if_true, intBin]; rfl) trivial h
theorem S_add {c : Int} (hx : Gt env x (.int k a)) (hy : Gt env y (.int k b)) (hd : slotOk n (some d) = true) (hw : k.wrap (a + b) = c) (h : WX q P ty n ops l ⟨(d, .int k c) :: env, bx, nx⟩ K) :
    WX q P ty n ops (⟨some d, .binOp .add t x y yt, tp, pos, aft, none⟩ :: l) ⟨env, bx, nx⟩ K :=
  S_val hd (by simp only [valStep, opVal, hx.get, hy.get, binVal, if_true, intBin, hw]) trivial h
theorem S_sub {c : Int} (hx : Gt env x (.int k a)) (hy : Gt env y (.int k b)) (hd : slotOk n (some d) = true) (hw : k.wrap (a - b) = c) (h : WX q P ty n ops l ⟨(d, .int k c) :: env, bx, nx⟩ K) :
    WX q P ty n ops (⟨some d, .binOp .sub t x y yt, tp, pos, aft, none⟩ :: l) ⟨env, bx, nx⟩ K :=
  S_val hd (by simp only [valStep, opVal, hx.get, hy.get, binVal, if_true, intBin, hw]) trivial h
theorem S_mul {c : Int} (hx : Gt env x (.int k a)) (hy : Gt env y (.int k b)) (hd : slotOk n (some d) = true) (hw : k.wrap (a * b) = c) (h : WX q P ty n ops l ⟨(d, .int k c) :: env, bx, nx⟩ K) :
    WX q P ty n ops (⟨some d, .binOp .mul t x y yt, tp, pos, aft, none⟩ :: l) ⟨env, bx, nx⟩ K :=
  S_val hd (by simp only [valStep, opVal, hx.get, hy.get, binVal, if_true, intBin, hw]) trivial h
theorem S_shl (hx : Gt env x (.int k a)) (hy : Gt env y (.int k' b)) (hd : slotOk n (some d) = true) (hb : 0 ≤ b) (h : WX q P ty n ops l ⟨(d, .int k (k.wrap (a * 2 ^ min b.toNat k.bits))) :: env, bx, nx⟩ K) :
    WX q P ty n ops (⟨some d, .binOp .shl t x y yt, tp, pos, aft, none⟩ :: l) ⟨env, bx, nx⟩ K :=
  S_val hd (by simp only [valStep, opVal, hx.get, hy.get, binVal]) hb h
theorem S_shr (hx : Gt env x (.int k a)) (hy : Gt env y (.int k' b)) (hd : slotOk n (some d) = true) (hb : 0 ≤ b) (h : WX q P ty n ops l ⟨(d, .int k (a.fdiv (2 ^ min b.toNat k.bits))) :: env, bx, nx⟩ K) :
    WX q P ty n ops (⟨some d, .binOp .shr t x y yt, tp, pos, aft, none⟩ :: l) ⟨env, bx, nx⟩ K :=
  S_val hd (by simp only [valStep, opVal, hx.get, hy.get, binVal]) hb h
theorem S_quo (hx : Gt env x (.int k a)) (hy : Gt env y (.int k b)) (hd : slotOk n (some d) = true) (hb : b ≠ 0) (h : WX q P ty n ops l ⟨(d, .int k (k.wrap (a.tdiv b))) :: env, bx, nx⟩ K) :
    WX q P ty n ops (⟨some d, .binOp .quo t x y yt, tp, pos, aft, none⟩ :: l) ⟨env, bx, nx⟩ K :=
  S_val hd (by simp only [valStep, opVal, hx.get, hy.get, binVal, if_true, intBin]) hb h
theorem S_rem (hx : Gt env x (.int k a)) (hy : Gt env y (.int k b)) (hd : slotOk n (some d) = true) (hb : b ≠ 0) (h : WX q P ty n ops l ⟨(d, .int k (a.tmod b)) :: env, bx, nx⟩ K) :
    WX q P ty n ops (⟨some d, .binOp .rem t x y yt, tp, pos, aft, none⟩ :: l) ⟨env, bx, nx⟩ K :=
  S_val hd (by simp only [valStep, opVal, hx.get, hy.get, binVal, if_true, intBin]) hb h
theorem S_not {bb : Bool} (hx : Gt env x (.bool bb)) (hd : slotOk n (some d) = true) (h : WX q P ty n ops l ⟨(d, .bool (!bb)) :: env, bx, nx⟩ K) :
    WX q P ty n ops (⟨some d, .unOp .not t x, tp, pos, aft, none⟩ :: l) ⟨env, bx, nx⟩ K :=
  S_val hd (by simp only [valStep, opVal, hx.get, unVal]) trivial h
theorem S_conv {src : TypeId} {s : TK} {c : Int} (hs : (ty src).map TI.k = some s) (ht : (ty t).map TI.k = some (.int k)) (hx : Gt env x (.int k' a)) (hd : slotOk n (some d) = true) (hw : k.wrap a = c)
    (h : WX q P ty n ops l ⟨(d, .int k c) :: env, bx, nx⟩ K) : WX q P ty n ops (⟨some d, .convert src t x, tp, pos, aft, none⟩ :: l) ⟨env, bx, nx⟩ K :=
  S_val hd (by simp only [valStep, opVal, hx.get, convVal, hs, ht, hw]) trivial h
theorem S_len_ls {st : Nat} {nn ee : Bool} {xs : List AV} {e : TypeId} (ht : (ty t).map TI.k = some (.slice e)) (hx : Gt env x (.ls st nn ee xs)) (hd : slotOk n (some d) = true)
    (h : WX q P ty n ops l ⟨(d, .int .i64 xs.length) :: env, bx, nx⟩ K) : WX q P ty n ops (⟨some d, .call ⟨.builtin .len, #[x], #[t]⟩, tp, pos, aft, none⟩ :: l) ⟨env, bx, nx⟩ K :=
  S_val hd (by simp only [valStep, opVal, hx.get, ht]) trivial h
theorem S_len_sl {id off len cap : Nat} {e : TypeId} (ht : (ty t).map TI.k = some (.slice e)) (hx : Gt env x (.sl id off len cap)) (hd : slotOk n (some d) = true)
    (h : WX q P ty n ops l ⟨(d, .int .i64 len) :: env, bx, nx⟩ K) : WX q P ty n ops (⟨some d, .call ⟨.builtin .len, #[x], #[t]⟩, tp, pos, aft, none⟩ :: l) ⟨env, bx, nx⟩ K :=
  S_val hd (by simp only [valStep, opVal, hx.get, ht]) trivial h
theorem S_len_str {s : ByteArray} (ht : (ty t).map TI.k = some .str) (hx : Gt env x (.str s)) (hd : slotOk n (some d) = true)
    (h : WX q P ty n ops l ⟨(d, .int .i64 s.size) :: env, bx, nx⟩ K) : WX q P ty n ops (⟨some d, .call ⟨.builtin .len, #[x], #[t]⟩, tp, pos, aft, none⟩ :: l) ⟨env, bx, nx⟩ K :=
  S_val hd (by simp only [valStep, opVal, hx.get, ht]) trivial h
theorem S_extract {i : Nat} {vs : List AV} (hx : Gt env x (.tup vs)) (hv : vs[i]? = some v) (hd : slotOk n (some d) = true)
    (h : WX q P ty n ops l ⟨(d, v) :: env, bx, nx⟩ K) : WX q P ty n ops (⟨some d, .extract x i, tp, pos, aft, none⟩ :: l) ⟨env, bx, nx⟩ K := by
  have hi := (List.getElem?_eq_some_iff.1 hv).1
  refine S_val hd (r := v) (p := i < vs.length) (by simp [valStep, opVal, hx.get, hv]) hi h
theorem S_fieldP {i : Nat} {fs : List (Nat × TypeId)} {off : Nat} {ft : TypeId} {fi : TI} {id e j : Nat} (hs : (ty t).map TI.k = some (.struct fs)) (hf : fs[i]? = some (off, ft)) (hft : ty ft = some fi) (h0 : (fi.size == 0) = false)
    (hx : Gt env x (.ptr id e j)) (hd : slotOk n (some d) = true) (h : WX q P ty n ops l ⟨(d, .ptr id e (j + off)) :: env, bx, nx⟩ K) :
    WX q P ty n ops (⟨some d, .fieldAddr t x i, tp, pos, aft, none⟩ :: l) ⟨env, bx, nx⟩ K :=
  S_val hd (by have : ¬ fi.size = 0 := by simpa using h0
               simp only [valStep, opVal, hx.get, hs, hf, hft, this, if_false]) trivial h
theorem S_idxLs {i : Operand} {e : TypeId} {ei : TI} {st : Nat} {nn ee : Bool} {xs : List AV} {ii : Int} {c : AV} (ht : (ty t).map TI.k = some (.slice e)) (he : ty e = some ei) (hx : Gt env x (.ls st nn ee xs)) (hi : Gt env i (.int k ii))
    (hr : 0 ≤ ii ∧ ii < (xs.length : Int)) (hst : st = ei.size) (hc : xs.getD ii.toNat .undef = c) (hd : slotOk n (some d) = true) (h : WX q P ty n ops l ⟨(d, .vp c.cells) :: env, bx, nx⟩ K) :
    WX q P ty n ops (⟨some d, .indexAddr t x i, tp, pos, aft, none⟩ :: l) ⟨env, bx, nx⟩ K :=
  S_val hd (p := 0 ≤ ii ∧ ii < (xs.length : Int) ∧ st = ei.size) (by simp only [valStep, opVal, hx.get, hi.get, ht, he, idx, hc]) ⟨hr.1, hr.2, hst⟩ h
theorem S_idxSl {i : Operand} {e : TypeId} {ei : TI} {id off len cap : Nat} {B : Box} {ii : Int} (ht : (ty t).map TI.k = some (.slice e)) (he : ty e = some ei) (hx : Gt env x (.sl id off len cap)) (hB : box? bx id = some B) (hi : Gt env i (.int k ii))
    (hr : 0 ≤ ii ∧ ii < (len : Int)) (hst : B.st = ei.size) (hd : slotOk n (some d) = true) (h : WX q P ty n ops l ⟨(d, .ptr id (off + ii.toNat) 0) :: env, bx, nx⟩ K) :
    WX q P ty n ops (⟨some d, .indexAddr t x i, tp, pos, aft, none⟩ :: l) ⟨env, bx, nx⟩ K :=
  S_val hd (p := 0 ≤ ii ∧ ii < (len : Int) ∧ B.st = ei.size) (by simp only [valStep, opVal, hx.get, hi.get, ht, he, idx, hB]) ⟨hr.1, hr.2, hst⟩ h

def Fits (deep : Bool) (ti : TI) (c : AV) : Prop := isAggK ti.k = false ∧ (norm deep ti.k c).1

theorem cut_fits {deep : Bool} {ti : TI} {cs : List AV} {j : Nat} {c : AV} (hf : Fits deep ti c) (hc : cs[j]? = some c) : (cut deep ti cs j).1 ∧ (cut deep ti cs j).2 = c := by
  have hj := (List.getElem?_eq_some_iff.1 hc).1
  have e : cs.getD j .undef = c := by simp [List.getD, hc]
  unfold cut
  rw [if_neg (by simp [hf.1]), e]
  exact ⟨⟨hj, hf.2⟩, norm_eq hf.2⟩

theorem S_loadP {ti : TI} {id e j : Nat} {B : Box} {w c : AV} (ht : ty t = some ti) (hx : Gt env x (.ptr id e j)) (hB : box? bx id = some B) (he : B.elems[e]? = some w) (hc : w.cells[j]? = some c) (hf : Fits false ti c)
    (hd : slotOk n (some d) = true) (h : WX q P ty n ops l ⟨(d, c) :: env, bx, nx⟩ K) : WX q P ty n ops (⟨some d, .load t x, tp, pos, aft, none⟩ :: l) ⟨env, bx, nx⟩ K := by
  have hj := (List.getElem?_eq_some_iff.1 he).1
  have e' : B.elems.getD e .undef = w := by simp [List.getD, he]
  obtain ⟨h1, h2⟩ := cut_fits hf hc
  exact S_val hd (p := e < B.elems.length ∧ (cut false ti w.cells j).1) (by simp only [valStep, opVal, hx.get, ht, hB, e', h2]) ⟨hj, h1⟩ h
theorem S_loadW {ti : TI} {id e j : Nat} {B : Box} {w : AV} (ht : ty t = some ti) (hx : Gt env x (.ptr id e j)) (hB : box? bx id = some B) (he : B.elems[e]? = some w) (hj : j = 0) (ha : isAggK ti.k = true)
    (hw : .agg w.cells = w) (hl : w.cells.length = ti.size) (hd : slotOk n (some d) = true) (h : WX q P ty n ops l ⟨(d, w) :: env, bx, nx⟩ K) :
    WX q P ty n ops (⟨some d, .load t x, tp, pos, aft, none⟩ :: l) ⟨env, bx, nx⟩ K := by
  subst hj
  have hj := (List.getElem?_eq_some_iff.1 he).1
  have e' : B.elems.getD e .undef = w := by simp [List.getD, he]
  have hcut : cut false ti w.cells 0 = (0 + ti.size ≤ w.cells.length, w) := by
    unfold cut
    rw [if_pos ha, List.drop_zero, List.take_of_length_le (by omega), hw]
  exact S_val hd (p := e < B.elems.length ∧ (cut false ti w.cells 0).1) (by simp only [valStep, opVal, hx.get, ht, hB, e']; rw [hcut]) ⟨hj, by rw [hcut]; simp [hl]⟩ h
theorem S_loadA {ti : TI} {id e j : Nat} {B : Box} {w : AV} (ht : ty t = some ti) (hx : Gt env x (.ptr id e j)) (hB : box? bx id = some B) (he : B.elems[e]? = some w) (ha : isAggK ti.k = true)
    (hl : j + ti.size ≤ w.cells.length) (hd : slotOk n (some d) = true) (h : WX q P ty n ops l ⟨(d, .agg ((w.cells.drop j).take ti.size)) :: env, bx, nx⟩ K) :
    WX q P ty n ops (⟨some d, .load t x, tp, pos, aft, none⟩ :: l) ⟨env, bx, nx⟩ K := by
  have hj := (List.getElem?_eq_some_iff.1 he).1
  have e' : B.elems.getD e .undef = w := by simp [List.getD, he]
  exact S_val hd (p := e < B.elems.length ∧ (cut false ti w.cells j).1) (by simp only [valStep, opVal, hx.get, ht, hB, e', cut, ha, if_true]) ⟨hj, by simp only [cut, ha, if_true]; exact hl⟩ h
theorem S_loadV {ti : TI} {cs : List AV} {c : AV} (ht : ty t = some ti) (hx : Gt env x (.vp cs)) (hc : cs[0]? = some c) (hf : Fits true ti c)
    (hd : slotOk n (some d) = true) (h : WX q P ty n ops l ⟨(d, c) :: env, bx, nx⟩ K) : WX q P ty n ops (⟨some d, .load t x, tp, pos, aft, none⟩ :: l) ⟨env, bx, nx⟩ K := by
  obtain ⟨h1, h2⟩ := cut_fits hf hc
  exact S_val hd (p := (cut true ti cs 0).1) (by simp only [valStep, opVal, hx.get, ht]; rw [← h2]) h1 h
theorem S_alloc {ti : TI} {z : AV} (ht : ty t = some ti) (hz : zeroE ti = z) (hk : okCells ti.size z) (hd : slotOk n (some d) = true)
    (h : WX false P ty n ops l ⟨(d, .ptr nx 0 0) :: env, (nx, some ⟨[z], ti.size, false, false⟩) :: bx, nx + 1⟩ K) : WX false P ty n ops (⟨some d, .alloc t, tp, pos, aft, none⟩ :: l) ⟨env, bx, nx⟩ K := by
  subst hz
  exact S_mem hd (by simp only [memStep, ht]) hk h
theorem S_box {ti : TI} (ht : ty t = some ti) (hx : Gt env x v) (hk : okCells ti.size v) (hd : slotOk n (some d) = true)
    (h : WX false P ty n ops l ⟨(d, .ptr nx 0 0) :: env, (nx, some ⟨[v], ti.size, false, false⟩) :: bx, nx + 1⟩ K) : WX false P ty n ops (⟨some d, .box t x, tp, pos, aft, none⟩ :: l) ⟨env, bx, nx⟩ K :=
  S_mem hd (by simp only [memStep, ht, hx.get]) hk h
theorem S_store1 {ti : TI} {id j : Nat} {w : AV} {sz : Nat} {sl ro : Bool} (ht : ty t = some ti) (hx : Gt env x (.ptr id 0 j)) (hB : box? bx id = some ⟨[w], sz, sl, ro⟩) (hj : j = 0) (hs : ti.size = sz) (hro : ro = false) (hy : Gt env y v) (hk : okCells ti.size v)
    (h : WX false P ty n ops l ⟨env, (id, some ⟨[v], sz, sl, ro⟩) :: bx, nx⟩ K) : WX false P ty n ops (⟨none, .store t x y, tp, pos, aft, none⟩ :: l) ⟨env, bx, nx⟩ K := by
  subst hj
  refine S_memN (r := .undef) (nx' := nx) (p := 0 < [w].length ∧ ro = false ∧ okCells ti.size v) ?_ ⟨by simp, hro, hk⟩ h
  simp [memStep, hx.get, hy.get, storeStep, ht, hB, hs]

theorem splice_one {cs : List AV} {j : Nat} (v : AV) (h : j < cs.length) : splice cs j [v] = cs.set j v := by
  unfold splice
  rw [List.set_eq_take_append_cons_drop, if_pos h]
  simp

inductive SetL : List AV → Nat → AV → List AV → Prop
  | zero (a : AV) (l : List AV) (v : AV) : SetL (a :: l) 0 v (v :: l)
  | succ {l l' : List AV} {k : Nat} {v : AV} (a : AV) : SetL l k v l' → SetL (a :: l) (k + 1) v (a :: l')

theorem SetL.eq {l l' : List AV} {j : Nat} {v : AV} (h : SetL l j v l') : j < l.length ∧ l' = l.set j v := by
  induction h with
  | zero => simp
  | succ a _ ih => obtain ⟨h1, h2⟩ := ih; exact ⟨by simpa using h1, by simp [h2]⟩

theorem S_storeF {ti : TI} {id j : Nat} {cs cs' : List AV} {sz : Nat} {sl ro : Bool} (ht : ty t = some ti) (hx : Gt env x (.ptr id 0 j)) (hB : box? bx id = some ⟨[.agg cs], sz, sl, ro⟩) (hs : (ti.size == sz) = false) (h1 : ti.size = 1) (hro : ro = false) (hy : Gt env y v)
    (hv : v.cells = [v]) (hk : v.cellOk = true) (hset : SetL cs j v cs') (h : WX false P ty n ops l ⟨env, (id, some ⟨[.agg cs'], sz, sl, ro⟩) :: bx, nx⟩ K) : WX false P ty n ops (⟨none, .store t x y, tp, pos, aft, none⟩ :: l) ⟨env, bx, nx⟩ K := by
  obtain ⟨hj, rfl⟩ := hset.eq
  have hne : ¬ (ti.size = sz) := by simpa using hs
  refine S_memN (r := .undef) (nx' := nx) (p := 0 < [AV.agg cs].length ∧ ro = false ∧ okCells ti.size v ∧ j + ti.size ≤ cs.length) ?_ ⟨by simp, hro, ⟨by simp [hv, h1], by simp [hv, hk]⟩, by omega⟩ h
  simp [memStep, hx.get, hy.get, storeStep, ht, hB, hne, hv, splice_one v hj]

theorem S_storeE {ti : TI} {id e j : Nat} {B : Box} (ht : ty t = some ti) (hx : Gt env x (.ptr id e j)) (hB : box? bx id = some B) (hj : j = 0) (hs : ti.size = B.st) (he : e < B.elems.length) (hro : B.ro = false) (hy : Gt env y v) (hk : okCells ti.size v)
    (h : WX false P ty n ops l ⟨env, (id, some ⟨B.elems.set e v, B.st, B.slack, B.ro⟩) :: bx, nx⟩ K) : WX false P ty n ops (⟨none, .store t x y, tp, pos, aft, none⟩ :: l) ⟨env, bx, nx⟩ K := by
  subst hj
  refine S_memN (r := .undef) (nx' := nx) (p := e < B.elems.length ∧ B.ro = false ∧ okCells ti.size v) ?_ ⟨he, hro, hk⟩ h
  simp [memStep, hx.get, hy.get, storeStep, ht, hB, hs]

theorem S_make {e : TypeId} {ei : TI} {k k' : IntKind} {ln cp : Int} {z : AV} (ht : (ty t).map TI.k = some (.slice e)) (he : ty e = some ei) (hx : Gt env x (.int k ln)) (hy : Gt env y (.int k' cp)) (hz : zeroE ei = z)
    (h1 : 0 ≤ ln) (h2 : ln ≤ cp) (h3 : (ei.bytes : Int) * cp ≤ 281474976710656) (h4 : cp ≤ 9223372036854775807) (hk : okCells ei.size z) (hp : 0 < ei.size) (hd : slotOk n (some d) = true)
    (h : WX false P ty n ops l ⟨(d, .sl nx 0 ln.toNat cp.toNat) :: env, (nx, some ⟨List.replicate cp.toNat z, ei.size, false, false⟩) :: bx, nx + 1⟩ K) :
    WX false P ty n ops (⟨some d, .makeSlice t x y, tp, pos, aft, none⟩ :: l) ⟨env, bx, nx⟩ K := by
  subst hz
  exact S_mem hd (p := 0 ≤ ln ∧ ln ≤ cp ∧ (ei.bytes : Int) * cp ≤ 281474976710656 ∧ cp ≤ 9223372036854775807 ∧ okCells ei.size (zeroE ei) ∧ 0 < ei.size)
    (by simp only [memStep, hx.get, hy.get, makeStep, ht, he]) ⟨h1, h2, h3, h4, hk, hp⟩ h

end
end Go.Av
namespace Go.Av

def PureAll : List AV → Prop
  | [] => True
  | x :: l => Pure x ∧ PureAll l

theorem PureAll.mem : ∀ {l : List AV}, PureAll l → ∀ x ∈ l, Pure x
  | [], _, _, h => by cases h
  | a :: l, h, x, hx => by
    rcases List.mem_cons.1 hx with rfl | hx
    · exact h.1
    · exact PureAll.mem h.2 x hx

section
variable {P : Program} {ty : TypeId → Option TI} {n : Nat} {q : Bool} {ops l : List Oper} {env : List (Nat × AV)} {bx : List (Nat × Option Box)} {nx : Nat} {K : St → Prop}
  {d : Nat} {tp : TypeId} {pos : String} {aft : Array Edge} {f : FuncId} {args : List Operand} {ats : Array TypeId} {xs : List AV}

theorem valStep_call {get : Operand → AV} {c : Operand} {args : Array Operand} : valStep ty bx get (.call ⟨.value c, args, ats⟩) = none := by
  simp only [valStep, opVal]

theorem S_call {r : AV} (hg : Gts env args xs) (hc : CV P f xs (· = r)) (hp : PureAll xs) (hd : slotOk n (some d) = true) (h : WX q P ty n ops l ⟨(d, r) :: env, bx, nx⟩ K) :
    WX q P ty n ops (⟨some d, .call ⟨.value (.func f), args.toArray, ats⟩, tp, pos, aft, none⟩ :: l) ⟨env, bx, nx⟩ K := by
  refine S_QV hd (v := r) ?_ h
  unfold QV
  rw [valStep_call]
  have : callOf (St.get ⟨env, bx, nx⟩) (.call ⟨.value (.func f), args.toArray, ats⟩) = some (f, xs) := by
    simp [callOf, St.get, hg.map bx nx]
  rw [this]
  exact fun _ _ => callV_pure hc hp.mem (fun _ e => e)

theorem S_callB (ids : List Nat) {bs : List (Nat × Option Box)} {R : AV → List (Nat × Option Box) → Nat → Prop} (hg : Gts env args xs) (hb : pickSlots bx ids = bs) (hc : CR P f xs bs nx R)
    (hids : ∀ r bs' nx', R r bs' nx' → ∀ id b, look bs' id = some b → id ∈ ids ∨ nx ≤ id) (hd : slotOk n (some d) = true)
    (h : ∀ r bs' nx', R r bs' nx' → WX false P ty n ops l ⟨(d, r) :: env, bs' ++ (ids.map fun i => (i, none)) ++ bx, nx'⟩ K) :
    WX false P ty n ops (⟨some d, .call ⟨.value (.func f), args.toArray, ats⟩, tp, pos, aft, none⟩ :: l) ⟨env, bx, nx⟩ K := by
  subst hb
  have : callOf (St.get ⟨env, bx, nx⟩) (.call ⟨.value (.func f), args.toArray, ats⟩) = some (f, xs) := by
    simp [callOf, St.get, hg.map bx nx]
  simp only [WX]
  exact ⟨hd, .inr ⟨rfl, .inr (.inr (.inl ⟨f, xs, ids, R, this, hc, hids, h⟩))⟩⟩

end

section
variable {P : Program} {ty : TypeId → Option TI} {G : Gh} {st : St} {Q : Exit → St → Prop} {c c' : Code}

theorem N_then {s : St} (h : T P G c s Q) : thenQ P G c Q .normal s := h
theorem N_thenR {s : St} (h : Q .ret s) : thenQ P G c Q .ret s := h
theorem N_thenE {s : St} {id : Nat} (h : Q (.exit id) s) : thenQ P G c Q (.exit id) s := h
theorem N_block {s : St} {id : Nat} (h : Q .normal s) : blockQ id Q .normal s := h
theorem N_blockR {s : St} {id : Nat} (h : Q .ret s) : blockQ id Q .ret s := h
theorem N_blockE {s : St} {id : Nat} (h : Q .normal s) : blockQ id Q (.exit id) s := by simp [blockQ, h]
theorem N_blockX {s : St} {id id' : Nat} (hne : (id' == id) = false) (h : Q (.exit id') s) : blockQ id Q (.exit id') s := by
  have : ¬ id' = id := by simpa using hne
  simp [blockQ, this, h]

theorem T_if {t : Tmp} {b : Bool} (hc : look st.env t = some (.bool b)) (h1 : b = true → T P G c st Q) (h2 : b = false → T P G c' st Q) : T P G (.cond (.tmp t) c c') st Q :=
  T_cond (by simp [St.get, hc]) h1 h2
theorem T_ifT {t : Tmp} {b : Bool} (hc : look st.env t = some (.bool b)) (e : b = true) (h1 : T P G c st Q) : T P G (.cond (.tmp t) c c') st Q :=
  T_if hc (fun _ => h1) (fun e' => by subst e; cases e')
theorem T_ifF {t : Tmp} {b : Bool} (hc : look st.env t = some (.bool b)) (e : b = false) (h2 : T P G c' st Q) : T P G (.cond (.tmp t) c c') st Q :=
  T_if hc (fun e' => by subst e; cases e') (fun _ => h2)

def KeepE (env : List (Nat × AV)) : List (Nat × AV) → Prop
  | [] => True
  | (t, v) :: l => look env t = some v ∧ KeepE env l

def KeepB (bx : List (Nat × Option Box)) : List (Nat × Option Box) → Prop
  | [] => True
  | (id, b) :: l => (∀ b', b = some b' → box? bx id = some b') ∧ KeepB bx l

theorem KeepE.look {env : List (Nat × AV)} : ∀ {l : List (Nat × AV)}, KeepE env l → ∀ t v, Av.look l t = some v → Av.look env t = some v
  | [], _, t, v, h => by cases h
  | (k, x) :: l, h, t, v, e => by
    simp only [look_cons] at e
    split at e
    · rename_i e'; subst e'; cases e; exact h.1
    · exact KeepE.look h.2 t v e

theorem KeepB.box {bx : List (Nat × Option Box)} : ∀ {l : List (Nat × Option Box)}, KeepB bx l → ∀ id b, box? l id = some b → box? bx id = some b
  | [], _, _, _, h => by cases h
  | (k, x) :: l, h, id, b, e => by
    simp only [box?, look_cons] at e
    split at e
    · rename_i e'; subst e'
      cases x with
      | none => cases e
      | some x => cases e; exact h.1 _ rfl
    · exact KeepB.box h.2 id b e

theorem weak_of {st : St} {env : List (Nat × AV)} {bx : List (Nat × Option Box)} {nx : Nat} (h1 : KeepE st.env env) (h2 : KeepB st.bx bx) (h3 : st.nx ≤ nx) : Weak st ⟨env, bx, nx⟩ :=
  ⟨fun t v h => h1.look t v h, h3, fun id b' h => ⟨b', h2.box id b' h, rfl, rfl, rfl, fun h => h⟩⟩

theorem keepE_nil {env : List (Nat × AV)} : KeepE env [] := trivial
theorem keepE_cons {env l : List (Nat × AV)} {t : Nat} {v : AV} (h : look env t = some v) (k : KeepE env l) : KeepE env ((t, v) :: l) := ⟨h, k⟩
theorem keepB_nil {bx : List (Nat × Option Box)} : KeepB bx [] := trivial
theorem keepB_cons {bx l : List (Nat × Option Box)} {id : Nat} {b : Box} (h : box? bx id = some b) (k : KeepB bx l) : KeepB bx ((id, some b) :: l) := ⟨fun _ e => by cases e; exact h, k⟩

def againQ {α : Type} (mk : α → St) (m : α → Nat) (Inv : α → Prop) (x : α) (Q : Exit → St → Prop) : Exit → St → Prop
  | .normal, s => ∃ x', Weak s (mk x') ∧ Inv x' ∧ m x' < m x
  | e, s => Q e s

theorem E_tmp {R : AV → Prop} {t : Nat} {env : List (Nat × AV)} {bx : List (Nat × Option Box)} {nx : Nat} {v : AV} (hv : look env t = some v) (hp : Pure v) (hR : R v) : retV ty [.tmp t] R .ret ⟨env, bx, nx⟩ :=
  ⟨trivial, True ∧ True, [v], by simp [resList, resOne, hv], ⟨trivial, trivial⟩, (vw_pure hp).mono fun y e => e ▸ hR⟩

end

end Go.Av
namespace Go.Av

theorem wrap_i64 {x : Int} (h1 : -9223372036854775808 ≤ x) (h2 : x ≤ 9223372036854775807) : IntKind.wrap .i64 x = x := by
  have e : (2 : Int) ^ 64 = 18446744073709551616 := by decide
  have e' : (2 : Int) ^ 63 = 9223372036854775808 := by decide
  simp only [IntKind.wrap, IntKind.bits, IntKind.signed, Bool.true_and, decide_eq_true_eq, e, e', Nat.reduceSub]
  split <;> omega

theorem wrap_u64 {x : Int} (h1 : 0 ≤ x) (h2 : x ≤ 18446744073709551615) : IntKind.wrap .u64 x = x := by
  simp only [IntKind.wrap, IntKind.bits, IntKind.signed, Bool.false_and]
  simp
  omega

inductive SetLs : List AV → Nat → List AV → List AV → Prop
  | nil (l : List AV) : SetLs l 0 [] l
  | here {l l' xs : List AV} (a x : AV) : SetLs l 0 xs l' → SetLs (a :: l) 0 (x :: xs) (x :: l')
  | skip {l l' xs : List AV} {k : Nat} (a : AV) : SetLs l k xs l' → SetLs (a :: l) (k + 1) xs (a :: l')

theorem SetLs.eq {l xs l' : List AV} {k : Nat} (h : SetLs l k xs l') : k + xs.length ≤ l.length ∧ splice l k xs = l' := by
  induction h with
  | nil l => simp [splice]
  | here a x _ ih => obtain ⟨h1, h2⟩ := ih; simp only [splice] at h2 ⊢; simp at h1 h2 ⊢; exact ⟨h1, h2⟩
  | skip a _ ih =>
    obtain ⟨h1, h2⟩ := ih
    refine ⟨by simp; omega, ?_⟩
    rw [← h2]
    simp [splice, show ∀ (k m : Nat), k + 1 + m = (k + m) + 1 from fun k m => by omega]

inductive BuildR (ty : TypeId → Option TI) (fs : List (Nat × TypeId)) : List (Nat × AV) → List AV → List AV → Prop
  | nil (cs : List AV) : BuildR ty fs [] cs cs
  | cons {i off : Nat} {ft : TypeId} {fi : TI} {x : AV} {xs cs cs' cs'' : List AV} {r : List (Nat × AV)} (hf : fs[i]? = some (off, ft)) (ht : ty ft = some fi) (hx : x.cells = xs) (hl : xs.length = fi.size) (hu : x ≠ .undef)
      (hs : SetLs cs off xs cs') (k : BuildR ty fs r cs' cs'') : BuildR ty fs ((i, x) :: r) cs cs''

theorem BuildR.fill {ty : TypeId → Option TI} {fs : List (Nat × TypeId)} {ps : List (Nat × AV)} {cs cs' : List AV} (h : BuildR ty fs ps cs cs') : ∃ p, fillS ty fs ps cs = some (p, cs') ∧ p := by
  induction h with
  | nil cs => exact ⟨True, rfl, trivial⟩
  | cons hf ht hx hl hu hs _ ih =>
    obtain ⟨p, h1, h2⟩ := ih
    obtain ⟨e1, e2⟩ := hs.eq
    subst hx
    rw [hl] at e1
    rename_i x _ cs _ _ _
    exact ⟨_, by simp only [fillS, hf, ht, e2, h1], And.intro (And.intro hl (And.intro e1 hu)) h2⟩

def GtsP (env : List (Nat × AV)) : List (Nat × Operand) → List (Nat × AV) → Prop
  | [], [] => True
  | (i, x) :: l, (j, v) :: r => i = j ∧ Gt env x v ∧ GtsP env l r
  | _, _ => False

theorem gtsP_nil {env : List (Nat × AV)} : GtsP env [] [] := trivial
theorem gtsP_cons {env : List (Nat × AV)} {i : Nat} {x : Operand} {l : List (Nat × Operand)} {v : AV} {r : List (Nat × AV)} (h : Gt env x v) (k : GtsP env l r) : GtsP env ((i, x) :: l) ((i, v) :: r) := ⟨rfl, h, k⟩

theorem GtsP.map {env : List (Nat × AV)} (bx : List (Nat × Option Box)) (nx : Nat) : ∀ {l : List (Nat × Operand)} {r : List (Nat × AV)}, GtsP env l r → (l.map fun p => (p.1, St.get ⟨env, bx, nx⟩ p.2)) = r
  | [], [], _ => rfl
  | (i, x) :: l, (j, v) :: r, h => by obtain ⟨rfl, h1, h2⟩ := h; simp [h1.get, GtsP.map bx nx h2]
  | [], _ :: _, h => h.elim
  | _ :: _, [], h => h.elim

section
variable {P : Program} {ty : TypeId → Option TI} {n : Nat} {q : Bool} {ops l : List Oper} {env : List (Nat × AV)} {bx : List (Nat × Option Box)} {nx : Nat} {K : St → Prop}
  {d : Nat} {tp : TypeId} {pos : String} {aft : Array Edge} {t : TypeId}

theorem S_build {ps : List (Nat × Operand)} {vs : List (Nat × AV)} {ti : TI} {fs : List (Nat × TypeId)} {cs : List AV} (ht : ty t = some ti) (hk : ti.k = .struct fs) (hall : (fs.all fun f => (ty f.2).isSome) = true) (hg : GtsP env ps vs)
    (hb : BuildR ty fs vs ti.zero cs) (hd : slotOk n (some d) = true) (h : WX q P ty n ops l ⟨(d, .agg cs) :: env, bx, nx⟩ K) :
    WX q P ty n ops (⟨some d, .build t ps.toArray, tp, pos, aft, none⟩ :: l) ⟨env, bx, nx⟩ K := by
  obtain ⟨p, h1, h2⟩ := hb.fill
  refine S_val hd (p := p) (r := .agg cs) ?_ h2 h
  simp only [valStep, opVal, ht, hk, hall, if_true, hg.map bx nx, h1, Option.map_some]

theorem S_gtF' {op : Op} {j t : Nat} (hd : slotOk n (some d) = true) (hs : guardSlotL ops j = some t) {b : Bool} (hb : look env t = some (.bool b)) (e : b = false)
    (h : WX q P ty n ops l ⟨(d, .tup []) :: env, bx, nx⟩ K) : WX q P ty n ops (⟨some d, op, tp, pos, aft, some (j, true)⟩ :: l) ⟨env, bx, nx⟩ K := S_gtF hd hs hb e h
theorem S_gfT' {op : Op} {j t : Nat} (hd : slotOk n (some d) = true) (hs : guardSlotL ops j = some t) {b : Bool} (hb : look env t = some (.bool b)) (e : b = true)
    (h : WX q P ty n ops l ⟨(d, .tup []) :: env, bx, nx⟩ K) : WX q P ty n ops (⟨some d, op, tp, pos, aft, some (j, false)⟩ :: l) ⟨env, bx, nx⟩ K := S_gfT hd hs hb e h

theorem S_gskip' {op : Op} {j t : Nat} {want : Bool} (hd : slotOk n (some d) = true) (hs : guardSlotL ops j = some t) (hb : look env t = some (.tup []))
    (h : WX q P ty n ops l ⟨(d, .tup []) :: env, bx, nx⟩ K) : WX q P ty n ops (⟨some d, op, tp, pos, aft, some (j, want)⟩ :: l) ⟨env, bx, nx⟩ K := S_gskip hd hs hb h
theorem S_shlW {x y : Operand} {k k' : IntKind} {a b c : Int} {yt : TypeId} (hx : Gt env x (.int k a)) (hy : Gt env y (.int k' b)) (hd : slotOk n (some d) = true) (hb : 0 ≤ b) (hw : k.wrap (a * 2 ^ min b.toNat k.bits) = c)
    (h : WX q P ty n ops l ⟨(d, .int k c) :: env, bx, nx⟩ K) : WX q P ty n ops (⟨some d, .binOp .shl t x y yt, tp, pos, aft, none⟩ :: l) ⟨env, bx, nx⟩ K := by
  subst hw
  exact S_shl hx hy hd hb h

theorem okCells_of {sz : Nat} {x : AV} (h1 : x.cells.length = sz) (h2 : x.cells.all AV.cellOk = true) : okCells sz x := ⟨h1, fun y hy => List.all_eq_true.1 h2 y hy⟩

theorem pure_aggL {cs : List AV} (h : PureAll cs) : Pure (.agg cs) := pure_agg h.mem
theorem pure_tupL {cs : List AV} (h : PureAll cs) : Pure (.tup cs) := pure_tup h.mem
end
end Go.Av
namespace Go.Av

theorem Ext.below {w w' : World} (h : Ext w w') : RowKit.Below w.heap.size w w' := ⟨h.os, h.tape, h.output, h.size, h.block⟩

theorem CV.law {P : Program} {f : FuncId} {xs : List AV} (h : CV P f xs (· = .bool true)) {W : World} {args : Array Value} {ok : Nat → Nat → Prop} (hok : ∀ b o, ok b o → b < W.heap.size) (ha : RepAll W NoLoc ok xs args.toList) :
    Calls P f args W fun e W' => e = .returned (.bool true) ∧ RowKit.Below W.heap.size W W' := by
  refine (h.2 ok W args hok ha).mono ?_
  rintro e w' ⟨v, r, rfl, rfl, hE, hr⟩
  cases hr
  exact ⟨rfl, hE.below⟩

theorem repAll_nil {w : World} {φ : Nat → Option Loc} {ok : Nat → Nat → Prop} : RepAll w φ ok [] [] := ⟨rfl, fun i x v h => by simp at h⟩
theorem repAll_cons {w : World} {φ : Nat → Option Loc} {ok : Nat → Nat → Prop} {x : AV} {xs : List AV} {v : Value} {vs : List Value} (h : Rep w φ ok x v) (k : RepAll w φ ok xs vs) : RepAll w φ ok (x :: xs) (v :: vs) := by
  refine ⟨by simp [k.1], fun i y u h1 h2 => ?_⟩
  cases i with
  | zero => simp at h1 h2; subst h1; subst h2; exact h
  | succ i => simp at h1 h2; exact k.2 i y u h1 h2

end Go.Av
namespace Go.Av

def leafF (g : TypeId → Option (List TypeId)) : Nat → List (Nat × TypeId) → Option (List TypeId)
  | _, [] => some []
  | k, (off, ft) :: r => if off = k then match g ft with
    | some a => (leafF g (k + a.length) r).map (a ++ ·)
    | none => none
    else none

def leafs (ty : TypeId → Option TI) : Nat → TypeId → Option (List TypeId)
  | 0, _ => none
  | n + 1, t => match ty t with
    | none => none
    | some ti => match ti.k with
      | .struct fs => match leafF (leafs ty n) 0 fs with
        | some l => if l.length = ti.size then some l else none
        | none => none
      | .arr _ _ => none
      | .ptr => none
      | .other => none
      | _ => some [t]

def TyN (ty : TypeId → Option TI) : Nat → TypeId → List AV → Prop
  | 0, _, _ => False
  | n + 1, t, cs => ∃ ls, leafs ty 8 t = some ls ∧ cs.length = ls.length ∧ ∀ (j : Nat) (u : TypeId) (v : AV), ls[j]? = some u → cs[j]? = some v →
    match (ty u).map TI.k with
    | some (.int k) => ∃ i, v = .int k i ∧ k.min ≤ i ∧ i ≤ k.max
    | some .bool => ∃ b, v = .bool b
    | some .str => ∃ s : ByteArray, v = .str s ∧ s.size ≤ maxLen
    | some (.slice e) => ∃ ei xs, ty e = some ei ∧ v = .ls ei.size true false xs ∧ xs.length ≤ maxLen ∧
      ∀ x ∈ xs, TyN ty n e x.cells ∧ x = (if isAggK ei.k then .agg x.cells else x.cells.getD 0 .undef)
    | _ => False

def flatT (ty : TypeId → Option TI) (t : TypeId) : Bool :=
  match leafs ty 8 t with
  | some ls => ls.all fun u => match (ty u).map TI.k with | some (.int _) | some .bool | some .str => true | _ => false
  | none => false

def suppD (ty : TypeId → Option TI) : Nat → TypeId → Bool
  | 0, t => flatT ty t
  | n + 1, t => match leafs ty 8 t with
    | some ls => ls.all fun u => match (ty u).map TI.k with
      | some (.int _) | some .bool | some .str => true
      | some (.slice e) => suppD ty n e && match ty e with | some ei => decide (0 < ei.size) && (isAggK ei.k || decide (ei.size = 1)) | none => false
      | _ => false
    | none => false

def suppN (ty : TypeId → Option TI) (t : TypeId) : Bool := suppD ty 3 t

section
variable {H : Type} {enc : TypeId × Value → H} {P : Program} {ty : TypeId → Option TI} {W : World} {sp : Nat → Bool}

theorem cellsOf_eq (hty : TyOk P ty) {t : TypeId} {ti : TI} (h : ty t = some ti) : P.cellsOf t = ti.size := by
  obtain ⟨d, f, z, T⟩ := hty.at h
  simp [Program.cellsOf, T.info, T.size]

theorem trod_leafs (hty : TyOk P ty) : ∀ (n : Nat) (t : TypeId) (ls : List TypeId) (fuel : Nat) (cs : List Value) (x : DataW H × List MemPlace), leafs ty n t = some ls → DataW.trod enc P W 0 sp true fuel t cs = some x →
    cs.length = ls.length ∧ ∀ (j : Nat) (u : TypeId) (v : Value), ls[j]? = some u → cs[j]? = some v → ∃ f y, DataW.trod enc P W 0 sp true f u [v] = some y
  | 0, t, ls, fuel, cs, x, h, _ => by cases h
  | n + 1, t, ls, fuel, cs, x, h, hx => by
    have one : ls = [t] → cs.length = 1 → cs.length = ls.length ∧ ∀ (j : Nat) (u : TypeId) (v : Value), ls[j]? = some u → cs[j]? = some v → ∃ f y, DataW.trod enc P W 0 sp true f u [v] = some y := by
      intro e hl
      subst e
      obtain ⟨v, rfl⟩ : ∃ v, cs = [v] := by
        match cs, hl with
        | [v], _ => exact ⟨v, rfl⟩
      refine ⟨rfl, fun j u w h1 h2 => ?_⟩
      cases j with
      | zero => simp at h1 h2; subst h1; subst h2; exact ⟨fuel, x, hx⟩
      | succ j => simp at h1
    simp only [leafs] at h
    cases ht : ty t with
    | none => rw [ht] at h; cases h
    | some ti =>
      rw [ht] at h
      obtain ⟨d, f, z, T⟩ := hty.at ht
      simp only at h
      cases hk : ti.k with
      | struct fs =>
        rw [hk] at h
        obtain ⟨a, hd, rfl⟩ := T.struct hk
        have hund := T.und
        rw [hd] at hund
        obtain ⟨xs, m, rfl, _, hl, hxl, hfs⟩ := DataW.trod_struct hund hx
        rw [cellsOf_eq hty ht] at hl
        simp only at h
        cases hF : leafF (leafs ty n) 0 (a.toList.map fun f => (f.offset, f.type)) with
        | none => rw [hF] at h; cases h
        | some l =>
          rw [hF] at h
          simp only at h
          split at h
          · rename_i hsz
            obtain rfl := Option.some.inj h
            refine ⟨by rw [hl, hsz], ?_⟩
            -- field by field
            have key : ∀ (fl : List Field) (k : Nat) (l : List TypeId), leafF (leafs ty n) k (fl.map fun f => (f.offset, f.type)) = some l → (∀ f ∈ fl, ∃ y, DataW.trod enc P W 0 sp true m f.type ((cs.drop f.offset).take (P.cellsOf f.type)) = some y) →
                ∀ (j : Nat) (u : TypeId) (v : Value), l[j]? = some u → cs[k + j]? = some v → ∃ f y, DataW.trod enc P W 0 sp true f u [v] = some y := by
              intro fl
              induction fl with
              | nil => intro k l h _ j u v h1; simp [leafF] at h; subst h; simp at h1
              | cons f fl ih =>
                intro k l h hall j u v h1 h2
                simp only [List.map_cons, leafF] at h
                split at h
                · rename_i hoff
                  split at h
                  · rename_i la hla
                    simp only [Option.map_eq_some_iff] at h
                    obtain ⟨r, hr, rfl⟩ := h
                    obtain ⟨y, hy⟩ := hall f (by simp)
                    obtain ⟨g1, g2⟩ := trod_leafs hty n f.type la m _ y hla hy
                    by_cases hj : j < la.length
                    · rw [List.getElem?_append_left hj] at h1
                      refine g2 j u v h1 ?_
                      have hlt : j < ((cs.drop f.offset).take (P.cellsOf f.type)).length := by omega
                      simp only [List.length_take, List.length_drop] at hlt
                      rw [List.getElem?_take_of_lt (by omega), List.getElem?_drop, hoff]
                      exact h2
                    · rw [List.getElem?_append_right (by omega)] at h1
                      refine ih (k + la.length) r hr (fun f hf => hall f (by simp [hf])) (j - la.length) u v h1 ?_
                      rw [show k + la.length + (j - la.length) = k + j by omega]
                      exact h2
                  · cases h
                · cases h
            intro j u v h1 h2
            refine key a.toList 0 _ hF (fun f hf => ?_) j u v h1 (by simpa using h2)
            obtain ⟨i, hi⟩ := List.mem_iff_getElem?.1 hf
            have h3 := hfs i f (by simpa using hi)
            have hix : i < xs.length := by
              rw [hxl]
              have := (List.getElem?_eq_some_iff.1 hi).1
              simpa using this
            exact ⟨xs[i], by rw [h3]; simp⟩
          · cases h
      | int k =>
        rw [hk] at h
        obtain rfl := Option.some.inj h
        have hund := T.und
        rw [T.int hk] at hund
        obtain ⟨i, rfl, _, _⟩ := DataW.trod_int hund hx
        exact one rfl rfl
      | bool =>
        rw [hk] at h
        obtain rfl := Option.some.inj h
        have hund := T.und
        rw [T.bool hk] at hund
        obtain ⟨i, rfl, _⟩ := DataW.trod_bool hund hx
        exact one rfl rfl
      | str =>
        rw [hk] at h
        obtain rfl := Option.some.inj h
        have hund := T.und
        rw [T.str hk] at hund
        obtain ⟨i, rfl, _, _⟩ := DataW.trod_string hund hx
        exact one rfl rfl
      | slice e =>
        rw [hk] at h
        obtain rfl := Option.some.inj h
        have hund := T.und
        rw [T.slice hk] at hund
        rcases DataW.trod_slice hund hx with ⟨rfl, _⟩ | ⟨a, len, cap, elems, rest, n', _, rfl, _⟩
        · exact one rfl rfl
        · exact one rfl rfl
      | arr n e => rw [hk] at h; cases h
      | ptr => rw [hk] at h; cases h
      | other => rw [hk] at h; cases h

theorem choose_list {α β : Type} : ∀ (cs : List β) (p : Nat → α → β → Prop), (∀ j v, cs[j]? = some v → ∃ a, p j a v) → ∃ l : List α, l.length = cs.length ∧ ∀ (j : Nat) (v : β) (a : α), cs[j]? = some v → l[j]? = some a → p j a v
  | [], p, _ => ⟨[], rfl, fun j v a h => by simp at h⟩
  | c :: cs, p, h => by
    obtain ⟨a, ha⟩ := h 0 c rfl
    obtain ⟨l, h1, h2⟩ := choose_list cs (fun j => p (j + 1)) (fun j v e => h (j + 1) v (by simpa using e))
    refine ⟨a :: l, by simp [h1], fun j v a' e1 e2 => ?_⟩
    cases j with
    | zero => simp at e1 e2; subst e1; subst e2; exact ha
    | succ j => simp at e1 e2; exact h2 j v a' e1 e2

theorem cell_block {b o : Nat} {v : Value} (h : W.cell? ⟨b, o, none⟩ = some v) : b < W.heap.size := by
  unfold World.cell? at h
  split at h
  · rename_i hb; exact (Array.getElem?_eq_some_iff.1 hb).1
  · cases h

theorem leaf_flat (hty : TyOk P ty) {u : TypeId} {f : Nat} {v : Value} {y : DataW H × List MemPlace} (h : DataW.trod enc P W 0 sp true f u [v] = some y)
    (hu : (match (ty u).map TI.k with | some (.int _) | some .bool | some .str => true | _ => false) = true) {ok : Nat → Nat → Prop} :
    ∃ a : AV, a.cells = [a] ∧ a.cellOk = true ∧ Rep W NoLoc ok a v ∧ (∀ b l c, v ≠ .slice b l c) ∧
      match (ty u).map TI.k with
      | some (.int k) => ∃ i, a = .int k i ∧ k.min ≤ i ∧ i ≤ k.max
      | some .bool => ∃ b, a = .bool b
      | some .str => ∃ s : ByteArray, a = .str s ∧ s.size ≤ maxLen
      | _ => False := by
  cases ht : ty u with
  | none => simp [ht] at hu
  | some ti =>
    obtain ⟨d, g, z, T⟩ := hty.at ht
    simp only [ht, Option.map_some] at hu ⊢
    cases hk : ti.k with
    | int k =>
      have hund := T.und
      rw [T.int hk] at hund
      obtain ⟨i, e, _, hw⟩ := DataW.trod_int hund h
      obtain rfl : v = .int k i := by simpa using e
      simp only [Lit.wf, Bool.and_eq_true, decide_eq_true_eq] at hw
      exact ⟨.int k i, rfl, rfl, .int _ _, (fun b l c e => by cases e), i, rfl, hw.1, hw.2⟩
    | bool =>
      have hund := T.und
      rw [T.bool hk] at hund
      obtain ⟨b, e, _⟩ := DataW.trod_bool hund h
      obtain rfl : v = .bool b := by simpa using e
      exact ⟨.bool b, rfl, rfl, .bool _, (fun b l c e => by cases e), b, rfl⟩
    | str =>
      have hund := T.und
      rw [T.str hk] at hund
      obtain ⟨s, e, _, hs⟩ := DataW.trod_string hund h
      obtain rfl : v = .string s := by simpa using e
      exact ⟨.str s, rfl, rfl, .str _, (fun b l c e => by cases e), s, rfl, hs⟩
    | _ => simp [hk] at hu

theorem read_flat (hty : TyOk P ty) {t : TypeId} (hf : flatT ty t = true) {fuel : Nat} {cs : List Value} {x : DataW H × List MemPlace} (h : DataW.trod enc P W 0 sp true fuel t cs = some x) {ok : Nat → Nat → Prop} :
    ∃ l : List AV, TyN ty 1 t l ∧ RepCells W NoLoc ok l cs ∧ ∀ a ∈ l, a.cells = [a] ∧ a.cellOk = true := by
  unfold flatT at hf
  cases hl : leafs ty 8 t with
  | none => rw [hl] at hf; cases hf
  | some ls =>
    rw [hl] at hf
    simp only [List.all_eq_true] at hf
    obtain ⟨h1, h2⟩ := trod_leafs hty 8 t ls fuel cs x hl h
    obtain ⟨l, g1, g2⟩ := choose_list (α := AV) cs (fun j a v => ∃ u, ls[j]? = some u ∧ a.cells = [a] ∧ a.cellOk = true ∧ Rep W NoLoc ok a v ∧ (∀ b l c, v ≠ .slice b l c) ∧
      match (ty u).map TI.k with
      | some (.int k) => ∃ i, a = .int k i ∧ k.min ≤ i ∧ i ≤ k.max
      | some .bool => ∃ b, a = .bool b
      | some .str => ∃ s : ByteArray, a = .str s ∧ s.size ≤ maxLen
      | _ => False) (fun j v e => by
        have hj : j < ls.length := by rw [← h1]; exact (List.getElem?_eq_some_iff.1 e).1
        have hu : ls[j]? = some ls[j] := by simp
        obtain ⟨f, y, hy⟩ := h2 j _ v hu e
        obtain ⟨a, k⟩ := leaf_flat hty hy (hf _ (List.getElem_mem hj)) (ok := ok)
        exact ⟨a, _, hu, k⟩)
    refine ⟨l, ⟨ls, hl, by omega, fun j u a e1 e2 => ?_⟩, ⟨g1.symm, fun j a v e1 e2 => ?_⟩, fun a ha => ?_⟩
    · have hj : j < cs.length := by rw [← g1]; exact (List.getElem?_eq_some_iff.1 e2).1
      obtain ⟨u', k1, _, _, _, _, k6⟩ := g2 j cs[j] a (by simp) e2
      rw [e1] at k1
      obtain rfl := Option.some.inj k1
      generalize (ty u).map TI.k = kk at k6 ⊢
      rcases kk with _ | kk
      · exact k6.elim
      · cases kk <;> first | exact k6 | exact k6.elim
    · obtain ⟨u', _, _, _, k4, _⟩ := g2 j v a e2 e1
      exact k4
    · obtain ⟨j, hj⟩ := List.mem_iff_getElem?.1 ha
      have hjl : j < cs.length := by rw [← g1]; exact (List.getElem?_eq_some_iff.1 hj).1
      obtain ⟨u', _, k2, k3, _⟩ := g2 j cs[j] a (by simp) hj
      exact ⟨k2, k3⟩

theorem spot_cells {base : Nat} {a : Addr} {n : Nat} {cs : List Value} (h : W.cells? base a n = some cs) (hn : 0 < n) : a.spot = none := by
  obtain ⟨_, h1, h2⟩ := World.cells?_some h
  have h3 := h2 0 hn
  have h4 : cs[0]? = some (cs[0]'(by omega)) := by simp
  rw [h4] at h3
  simp only [Addr.add, if_true] at h3
  unfold World.cell? at h3
  split at h3
  · split at h3
    · cases h3
    · rename_i h5
      cases hs : a.spot with
      | none => rfl
      | some s => simp [hs] at h5
  · cases h3

theorem read_rep (hty : TyOk P ty) : ∀ (n : Nat) {t : TypeId} (hs : suppD ty n t = true) {fuel : Nat} {cs : List Value} {x : DataW H × List MemPlace} (h : DataW.trod enc P W 0 (fun _ => true) true fuel t cs = some x),
    ∃ l : List AV, TyN ty (n + 1) t l ∧ RepCells W NoLoc (fun b _ => b < W.heap.size) l cs ∧ ∀ a ∈ l, a.cells = [a] ∧ a.cellOk = true
  | 0, t, hs, fuel, cs, x, h => read_flat hty hs h
  | n + 1, t, hs, fuel, cs, x, h => by
    unfold suppD at hs
    cases hl : leafs ty 8 t with
    | none => rw [hl] at hs; cases hs
    | some ls =>
      rw [hl] at hs
      simp only [List.all_eq_true] at hs
      obtain ⟨h1, h2⟩ := trod_leafs hty 8 t ls fuel cs x hl h
      obtain ⟨l, g1, g2⟩ := choose_list (α := AV) cs (fun j a v => ∃ u, ls[j]? = some u ∧ a.cells = [a] ∧ a.cellOk = true ∧ Rep W NoLoc (fun b _ => b < W.heap.size) a v ∧
        match (ty u).map TI.k with
        | some (.int k) => ∃ i, a = .int k i ∧ k.min ≤ i ∧ i ≤ k.max
        | some .bool => ∃ b, a = .bool b
        | some .str => ∃ s : ByteArray, a = .str s ∧ s.size ≤ maxLen
        | some (.slice e) => ∃ ei xs, ty e = some ei ∧ a = .ls ei.size true false xs ∧ xs.length ≤ maxLen ∧
          ∀ x ∈ xs, TyN ty (n + 1) e x.cells ∧ x = (if isAggK ei.k then .agg x.cells else x.cells.getD 0 .undef)
        | _ => False) (fun j v ej => by
          have hj : j < ls.length := by rw [← h1]; exact (List.getElem?_eq_some_iff.1 ej).1
          have hu : ls[j]? = some ls[j] := by simp
          obtain ⟨f, y, hy⟩ := h2 j _ v hu ej
          have hsu := hs _ (List.getElem_mem hj)
          generalize ls[j] = u at hu hy hsu
          refine (?_ : ∃ a : AV, ∃ u, ls[j]? = some u ∧ _)
          by_cases hfl : (match (ty u).map TI.k with | some (.int _) | some .bool | some .str => true | _ => false) = true
          · obtain ⟨a, k1, k2, k3, _, k5⟩ := leaf_flat hty hy hfl (ok := fun b _ => b < W.heap.size)
            refine ⟨a, u, hu, k1, k2, k3, ?_⟩
            clear hfl hsu
            generalize (ty u).map TI.k = kk at k5 ⊢
            rcases kk with _ | kk
            · exact k5.elim
            · cases kk <;> first | exact k5 | exact k5.elim
          · cases hk : (ty u).map TI.k with
            | none => simp [hk] at hsu
            | some k =>
              rw [hk] at hsu hfl
              cases k with
              | slice e =>
                simp only [Bool.and_eq_true] at hsu
                obtain ⟨he1, he2⟩ := hsu
                cases hei : ty e with
                | none => rw [hei] at he2; cases he2
                | some ei =>
                  rw [hei] at he2
                  simp only [Bool.and_eq_true, Bool.or_eq_true, decide_eq_true_eq] at he2
                  obtain ⟨hpos, hone⟩ := he2
                  cases htu : ty u with
                  | none => simp [htu] at hk
                  | some ti =>
                    obtain ⟨d, g, z, T⟩ := hty.at htu
                    have hks : ti.k = .slice e := by simpa [htu] using hk
                    have hund := T.und
                    rw [T.slice hks] at hund
                    have empty : ∀ a : Option Addr, Rep W NoLoc (fun b _ => b < W.heap.size) (.ls ei.size true false []) (.slice a 0 0) := fun a =>
                      .ls ei.size true false [] a 0 (fun _ _ => Go.undef) ⟨Nat.le_refl _, (fun h => by cases h), (fun _ h => by cases h), (fun h => by cases h), (fun h => absurd h (by omega)), (fun x _ => rfl)⟩ (fun i x h => by simp at h) (fun b o _ i j hi => by simp at hi) (fun i x j y h => by simp at h)
                    rcases DataW.trod_slice hund hy with ⟨hv, _⟩ | ⟨ad, len, cap, elems, rest, n', _, hv, _, hbase, hlc, hcm, hel, hget, hspare, _⟩
                    · obtain rfl : v = .slice none 0 0 := by simpa using hv
                      refine ⟨.ls ei.size true false [], u, hu, rfl, rfl, empty none, ?_⟩
                      simp only [hk]
                      exact ⟨ei, [], hei, rfl, by simp, fun x hx => by cases hx⟩
                    · obtain rfl : v = .slice (some ad) len cap := by simpa using hv
                      have hco := cellsOf_eq hty hei
                      rw [hco] at hget hspare
                      by_cases hcap : cap = 0
                      · subst hcap
                        obtain rfl : len = 0 := by omega
                        refine ⟨.ls ei.size true false [], u, hu, rfl, rfl, empty _, ?_⟩
                        simp only [hk]
                        exact ⟨ei, [], hei, rfl, by simp, fun x hx => by cases hx⟩
                      have hsp0 : ad.spot = none := by
                        by_cases hlen : len = 0
                        · obtain ⟨r1, r2⟩ := hspare rfl
                          have h3 := r2 0 (by omega)
                          have h4 : rest[0]? = some (rest[0]'(by omega)) := by simp
                          rw [h4, Option.bind_eq_some_iff] at h3
                          obtain ⟨ci, h5, _⟩ := h3
                          have h6 : ad.add ((len + 0) * ei.size) = ad := by rw [hlen]; simp [Addr.add]
                          rw [h6] at h5
                          exact spot_cells h5 hpos
                        · have h3 := hget 0 (by omega)
                          have h4 : elems[0]? = some (elems[0]'(by omega)) := by simp
                          rw [h4, Option.bind_eq_some_iff] at h3
                          obtain ⟨ci, h5, _⟩ := h3
                          have h6 : ad.add (0 * ei.size) = ad := by simp [Addr.add]
                          rw [h6] at h5
                          exact spot_cells h5 hpos
                      obtain ⟨b, o, s⟩ := ad
                      simp only at hsp0
                      subst hsp0
                      -- element by element
                      obtain ⟨xs, q1, q2⟩ := choose_list (α := AV) (List.range len) (fun i x _ => TyN ty (n + 1) e x.cells ∧ x = (if isAggK ei.k then .agg x.cells else x.cells.getD 0 .undef) ∧ okCells ei.size x ∧
                        ∀ (j : Nat) (y : AV), x.cells[j]? = some y → ∃ v, W.cell? ⟨b, o + i * ei.size + j, none⟩ = some v ∧ Rep W NoLoc (fun b _ => b < W.heap.size) y v) (fun i v' e' => by
                          have hi : i < len := by have := (List.getElem?_eq_some_iff.1 e').1; simpa using this
                          have h3 := hget i hi
                          have h4 : elems[i]? = some (elems[i]'(by omega)) := by simp
                          rw [h4, Option.bind_eq_some_iff] at h3
                          obtain ⟨ci, h5, h6⟩ := h3
                          obtain ⟨_, h7, h8⟩ := World.cells?_some h5
                          obtain ⟨li, t1, t2, t3⟩ := read_rep hty n he1 h6
                          have hlen : li.length = ei.size := by rw [← t2.1, h7]
                          have hx : ∃ x : AV, x.cells = li ∧ x = (if isAggK ei.k then .agg li else li.getD 0 .undef) := by
                            cases hagg : isAggK ei.k with
                            | true => exact ⟨.agg li, rfl, rfl⟩
                            | false =>
                              have h1 : ei.size = 1 := by rcases hone with h | h; · rw [hagg] at h; cases h
                                                          · exact h
                              rw [h1] at hlen
                              match li, hlen, t3 with
                              | [y], _, t3 => exact ⟨y, (t3 y (by simp)).1, rfl⟩
                          obtain ⟨x, hx1, hx2⟩ := hx
                          refine ⟨x, by rw [hx1]; exact t1, by rw [hx1]; exact hx2, ⟨by rw [hx1]; exact hlen, fun y hy => by rw [hx1] at hy; exact (t3 y hy).2⟩, fun j y hy => ?_⟩
                          rw [hx1] at hy
                          have hj : j < ei.size := by rw [← hlen]; exact (List.getElem?_eq_some_iff.1 hy).1
                          have h9 := h8 j hj
                          simp only [Addr.add_lit] at h9
                          have hc : ci[j]? = some (ci[j]'(by omega)) := by simp
                          rw [hc] at h9
                          exact ⟨_, h9, t2.2 j y _ hy hc⟩)
                      simp only [List.length_range] at q1
                      subst q1
                      have q3 : ∀ (i : Nat) (x : AV), xs[i]? = some x → _ := fun i x hx => q2 i i x (by have := (List.getElem?_eq_some_iff.1 hx).1; simp [this]) hx
                      refine ⟨.ls ei.size true false xs, u, hu, rfl, rfl, ?_, ?_⟩
                      · refine Rep.mk_ls ⟨hlc, fun h => (by cases h), fun _ h => (by cases h), fun h => (by cases h), fun _ => ⟨b, o, rfl⟩, fun x hx => (by cases hx; rfl)⟩ (fun i x hx => (q3 i x hx).2.2.1) (fun b' o' ha i x j y hx hy => ?_)
                        simp only [Option.some.injEq, Addr.mk.injEq] at ha
                        obtain ⟨rfl, rfl, _⟩ := ha
                        obtain ⟨v, r1, r2⟩ := (q3 i x hx).2.2.2 j y hy
                        exact ⟨v, r1, cell_block r1, r2⟩
                      · simp only [hk]
                        refine ⟨ei, xs, hei, rfl, by omega, fun x hx => ?_⟩
                        obtain ⟨i, hi⟩ := List.mem_iff_getElem?.1 hx
                        exact ⟨(q3 i x hi).1, (q3 i x hi).2.1⟩
              | _ => simp at hsu hfl)
      refine ⟨l, ⟨ls, hl, by omega, fun j u a e1 e2 => ?_⟩, ⟨g1.symm, fun j a v e1 e2 => ?_⟩, fun a ha => ?_⟩
      · have hj : j < cs.length := by rw [← g1]; exact (List.getElem?_eq_some_iff.1 e2).1
        obtain ⟨u', k1, _, _, _, k6⟩ := g2 j cs[j] a (by simp) e2
        rw [e1] at k1
        obtain rfl := Option.some.inj k1
        generalize (ty u).map TI.k = kk at k6 ⊢
        rcases kk with _ | kk
        · exact k6.elim
        · cases kk <;> first | exact k6 | exact k6.elim
      · obtain ⟨u', _, _, _, k4, _⟩ := g2 j v a e2 e1
        exact k4
      · obtain ⟨j, hj⟩ := List.mem_iff_getElem?.1 ha
        have hjl : j < cs.length := by rw [← g1]; exact (List.getElem?_eq_some_iff.1 hj).1
        obtain ⟨u', _, k2, k3, _⟩ := g2 j cs[j] a (by simp) hj
        exact ⟨k2, k3⟩

end
end Go.Av
