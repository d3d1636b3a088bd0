/- Regions that draw their order. -/
import Derived.Test.YtgakkecaflppfaaAv24
set_option linter.unusedSimpArgs false
namespace Go.Av

/-- An operation that makes or turns boxes, or calls. -/
def WM (P : Program) (ty : TypeId → Option TI) (o : Oper) (st : St) (K : St → Prop) : Prop :=
  (∃ p r bx' nx', memStep ty st.bx st.nx st.get o.op = some (p, r, bx', nx') ∧ p ∧ K ((St.mk st.env bx' nx').set o.dst r)) ∨
  (∃ f xs, callOf st.get o.op = some (f, xs) ∧ CallV P f st.bx xs fun r => K (st.set o.dst r)) ∨
  (∃ f xs ids R, callOf st.get o.op = some (f, xs) ∧ CR P f xs (pickSlots st.bx ids) st.nx R ∧ (∀ r bs' nx', R r bs' nx' → ∀ id b, look bs' id = some b → id ∈ ids ∨ st.nx ≤ id) ∧
    ∀ r bs' nx', R r bs' nx' → K ((St.mk st.env (bs' ++ (ids.map fun i => (i, none)) ++ st.bx) nx').set o.dst r))

def W1X (q : Bool) (P : Program) (ty : TypeId → Option TI) (o : Oper) (st : St) (K : St → Prop) : Prop :=
  (∃ v, QV P ty st.bx st.get o.op v ∧ K (st.set o.dst v)) ∨ (q = false ∧ WM P ty o st K)

/-- The operations that are left, one behind the other; quiet ones alone where q says so. -/
def WX (q : Bool) (P : Program) (ty : TypeId → Option TI) (n : Nat) (ops : List Oper) : List Oper → St → (St → Prop) → Prop
  | [], st, K => K st
  | o :: l, st, K => slotOk n o.dst = true ∧
    match o.guard with
    | none => W1X q P ty o st fun s => WX q P ty n ops l s K
    | some (j, want) => ∃ t b, guardSlotL ops j = some t ∧ look st.env t = some (.bool b) ∧
      (b = want → W1X q P ty o st fun s => WX q P ty n ops l s K) ∧ (b = !want → WX q P ty n ops l (st.set o.dst .undef) K)

section
variable {P : Program} {ty : TypeId → Option TI} {G : Gh} {Q : Exit → St → Prop}

theorem QV_ok (hty : TyOk P ty) {o : Oper} {st : St} {v : AV} (h : QV P ty st.bx st.get o.op v) (hd : slotOk G.n o.dst = true) {K' : Act → World → Prop}
    (hK : ∀ φ a w, RelA G (st.set o.dst v) φ a w → K' a w) : ∀ φ a w, RelA G st φ a w → o.wp P a w K' (QE G Q) := by
  unfold QV at h
  split at h
  · rename_i p r e
    obtain ⟨h1, rfl⟩ := h
    exact op_val hty e h1 hd hK
  · split at h
    · rename_i f xs e
      obtain ⟨Y, R, h1, h2, h3, h4⟩ := h
      unfold callOf at e
      split at e
      · rename_i fop args ats hop
        split at e
        · rename_i f' caps hf
          simp only [Option.some.injEq, Prod.mk.injEq] at e
          obtain ⟨rfl, rfl⟩ := e
          exact op_callV hop hf h1 h2 h3 hd (fun r hr => by rw [h4 r hr]; exact hK)
        · cases e
      · cases e
    · exact h.elim

theorem WM_ok (hty : TyOk P ty) {o : Oper} {st : St} {K : St → Prop} (h : WM P ty o st K) (hd : slotOk G.n o.dst = true) {K' : Act → World → Prop}
    (hK : ∀ s, K s → ∀ φ a w, RelA G s φ a w → K' a w) : ∀ φ a w, RelA G st φ a w → o.wp P a w K' (QE G Q) := by
  have call : ∀ {f xs}, callOf st.get o.op = some (f, xs) → ∃ fop args ats caps, o.op = .call ⟨.value fop, args, ats⟩ ∧ st.get fop = .fn f caps ∧ xs = argsOf st args caps := by
    intro f xs e
    unfold callOf at e
    split at e
    · rename_i fop args ats hop
      split at e
      · rename_i f' caps hf
        simp only [Option.some.injEq, Prod.mk.injEq] at e
        obtain ⟨rfl, rfl⟩ := e
        exact ⟨fop, args, ats, caps, hop, hf, rfl⟩
      · cases e
    · cases e
  rcases h with ⟨p, r, bx', nx', e, hp, hk⟩ | ⟨f, xs, e, Y, R, h1, h2, h3, h4⟩ | ⟨f, xs, ids, R, e, h1, h2, h3⟩
  · exact op_mem hty e hp hd (hK _ hk)
  · obtain ⟨fop, args, ats, caps, hop, hf, rfl⟩ := call e
    exact op_callV hop hf h1 h2 h3 hd (fun r hr => hK _ (h4 r hr))
  · obtain ⟨fop, args, ats, caps, hop, hf, rfl⟩ := call e
    exact op_callR hop hf ids h1 h2 hd (fun r bs' nx' hr => hK _ (h3 r bs' nx' hr))

theorem W1X_ok (hty : TyOk P ty) {q : Bool} {o : Oper} {st : St} {K : St → Prop} (h : W1X q P ty o st K) (hd : slotOk G.n o.dst = true) {K' : Act → World → Prop}
    (hK : ∀ s, K s → ∀ φ a w, RelA G s φ a w → K' a w) : ∀ φ a w, RelA G st φ a w → o.wp P a w K' (QE G Q) := by
  rcases h with ⟨v, h1, h2⟩ | ⟨_, h⟩
  · exact QV_ok hty h1 hd (hK _ h2)
  · exact WM_ok hty h hd hK

theorem OP_none {A : Array Oper} {i : Nat} {o : Oper} (ho : A[i]? = some o) (hg : o.guard = none) {K : Act → World → Prop} {Q' : Exit → Act → World → Prop} {a : Act} {w : World} (h : o.wp P a w K Q') : wpOp P A Q' i K a w := by
  simp only [wpOp, ho, wanted_none hg, if_true]
  exact .inl h

theorem OP_guard {A : Array Oper} {i : Nat} {o : Oper} {st : St} (ho : A[i]? = some o) {j t : Nat} {want b : Bool} (hgd : o.guard = some (j, want)) (hs : guardSlot A j = some t)
    (hb : look st.env t = some (.bool b)) {K : Act → World → Prop} {Q' : Exit → Act → World → Prop} {φ : Nat → Option Loc} {a : Act} {w : World} (r : RelA G st φ a w)
    (h1 : b = want → o.wp P a w K Q') (h2 : b = !want → K (a.put o.dst Go.undef) w) : wpOp P A Q' i K a w := by
  have hy := yielded_of hs r hb
  simp only [wpOp, ho, Region.wanted, hgd, hy]
  by_cases e : b = want
  · subst e
    simp only [beq_self_eq_true, if_true]
    exact .inl (h1 rfl)
  · have hne : ((some b : Option Bool) == some want) = false := by
      cases b <;> cases want <;> simp_all
    simp only [hne, Bool.false_eq_true, if_false]
    exact h2 (by cases b <;> cases want <;> simp_all)

/-- The step of an operation that stands at its place. -/
theorem WX_op (hty : TyOk P ty) {q : Bool} {ops : List Oper} {i : Nat} {o : Oper} {l : List Oper} {st : St} {K : St → Prop} (ho : ops.toArray[i]? = some o) (h : WX q P ty G.n ops (o :: l) st K)
    {K' : Act → World → Prop} (hK : ∀ s, WX q P ty G.n ops l s K → ∀ φ a w, RelA G s φ a w → K' a w) {φ : Nat → Option Loc} {a : Act} {w : World} (r : RelA G st φ a w) :
    wpOp P ops.toArray (QE G Q) i K' a w := by
  simp only [WX] at h
  obtain ⟨hd, h⟩ := h
  split at h
  · rename_i hg
    exact OP_none ho hg (W1X_ok hty h hd hK φ a w r)
  · rename_i j want hg
    obtain ⟨t, b, h1, h2, h3, h4⟩ := h
    refine OP_guard ho hg (by simpa [guardSlot, guardSlotL] using h1) h2 r (fun e => W1X_ok hty (h3 e) hd hK φ a w r) (fun e => hK _ (h4 e) φ _ _ (r.put_undef hd _))

theorem WX_ok (hty : TyOk P ty) {ops : List Oper} : ∀ (l : List Oper) (k : Nat) (st : St) (K : St → Prop), (∀ j, l[j]? = ops[k + j]?) → WX false P ty G.n ops l st K → (∀ s, K s → Q .normal s) →
    TO P G ops.toArray (List.range' k l.length) st Q
  | [], k, st, K, hl, h, hK => TO_nil (hK st h)
  | o :: l, k, st, K, hl, h, hK => by
    have ho : ops.toArray[k]? = some o := by have := hl 0; simp at this; simpa using this.symm
    have hl' : ∀ j, l[j]? = ops[k + 1 + j]? := fun j => by
      have := hl (j + 1)
      rw [show k + (j + 1) = k + 1 + j by omega] at this
      simpa using this
    intro φ a w r
    simp only [List.length_cons, List.range'_succ]
    rw [wpOps_cons]
    exact WX_op hty ho h (fun s hs φ a w r => WX_ok hty l (k + 1) s K hl' hs hK φ a w r) r

theorem T_regX (hty : TyOk P ty) {id : Nat} {l : List Oper} {st : St} (h : WX false P ty G.n l l st (Q .normal)) : T P G (.region id l.toArray false) st Q := by
  refine T_region ?_
  have e : List.range l.toArray.size = List.range' 0 l.length := by simp [List.range_eq_range']
  rw [e]
  exact WX_ok hty l 0 st (Q .normal) (fun j => by simp) h (fun s hs => hs)
end

/-- The slots, when those operations have been that S tells. -/
def EV (ops : List Oper) (vs : Nat → AV) (e0 : List (Nat × AV)) (S : Nat → Bool) : Nat → List (Nat × AV)
  | 0 => e0
  | k + 1 => if S k then (match (ops[k]?).bind (·.dst) with | some t => (t, vs k) :: EV ops vs e0 S k | none => EV ops vs e0 S k) else EV ops vs e0 S k

theorem EV_agree {ops : List Oper} {vs : Nat → AV} {e0 : List (Nat × AV)} {S S' : Nat → Bool} {t : Nat} : ∀ n, (∀ k, k < n → (ops[k]?).bind (·.dst) = some t → S k = S' k) → look (EV ops vs e0 S n) t = look (EV ops vs e0 S' n) t
  | 0, _ => rfl
  | n + 1, h => by
    have ih := EV_agree (ops := ops) (vs := vs) (e0 := e0) (t := t) n (fun k hk => h k (by omega))
    simp only [EV]
    cases hd : (ops[n]?).bind (·.dst) with
    | none => simp only [ite_self]; exact ih
    | some t' =>
      by_cases e : t' = t
      · subst e
        rw [h n (by omega) hd]
        cases S' n <;> simp [look, ih]
      · cases S n <;> cases S' n <;> simp [look, e, ih]

theorem EV_stop {ops : List Oper} {vs : Nat → AV} {e0 : List (Nat × AV)} {S : Nat → Bool} {k : Nat} : ∀ n, k ≤ n → (∀ i, k ≤ i → i < n → S i = false) → EV ops vs e0 S n = EV ops vs e0 S k
  | 0, h, _ => by rw [show k = 0 by omega]
  | n + 1, h, hS => by
    by_cases e : k = n + 1
    · rw [e]
    · have hn : S n = false := hS n (by omega) (by omega)
      simp only [EV, hn, Bool.false_eq_true, if_false]
      exact EV_stop n (by omega) (fun i h1 h2 => hS i h1 (by omega))

theorem EV_congr {ops : List Oper} {vs vs' : Nat → AV} {e0 : List (Nat × AV)} {S S' : Nat → Bool} : ∀ n, (∀ k, k < n → vs k = vs' k ∧ S k = S' k) → EV ops vs e0 S n = EV ops vs' e0 S' n
  | 0, _ => rfl
  | n + 1, h => by
    simp only [EV, EV_congr n (fun k hk => h k (by omega)), (h n (by omega)).1, (h n (by omega)).2]

theorem EV_last {ops : List Oper} {vs : Nat → AV} {e0 : List (Nat × AV)} {S : Nat → Bool} {j t : Nat} (hj : S j = true) (ht : (ops[j]?).bind (·.dst) = some t) :
    ∀ n, j < n → (∀ k, j < k → k < n → (ops[k]?).bind (·.dst) = some t → S k = false) → look (EV ops vs e0 S n) t = some (vs j)
  | 0, h, _ => by omega
  | n + 1, h, hk => by
    by_cases e : j = n
    · subst e
      simp [EV, hj, ht, look]
    · have ih := EV_last (vs := vs) (e0 := e0) hj ht n (by omega) (fun k h1 h2 => hk k h1 (by omega))
      simp only [EV]
      cases hd : (ops[n]?).bind (·.dst) with
      | none => simp only [ite_self]; exact ih
      | some t' =>
        by_cases e' : t' = t
        · subst e'
          rw [hk n (by omega) (by omega) hd]
          simpa using ih
        · cases S n <;> simp [look, e', ih]

/-- What is known of an operation of the quiet part. -/
def Fact (P : Program) (ty : TypeId → Option TI) (n : Nat) (ops : List Oper) (bx : List (Nat × Option Box)) (nx : Nat) (env : List (Nat × AV)) (o : Oper) (v : AV) : Prop :=
  slotOk n o.dst = true ∧ match o.guard with
    | none => QV P ty bx (St.get ⟨env, bx, nx⟩) o.op v
    | some (g, want) => ∃ t b, guardSlotL ops g = some t ∧ look env t = some (.bool b) ∧ (b = want → QV P ty bx (St.get ⟨env, bx, nx⟩) o.op v) ∧ (b = !want → v = .undef)

theorem Fact_congr {P : Program} {ty : TypeId → Option TI} {n : Nat} {ops : List Oper} {bx : List (Nat × Option Box)} {nx : Nat} {env env' : List (Nat × AV)} {o : Oper} {v : AV}
    (h : ∀ t ∈ o.looksAt ops.toArray, look env t = look env' t) (k : Fact P ty n ops bx nx env o v) : Fact P ty n ops bx nx env' o v := by
  have hq : QV P ty bx (St.get ⟨env, bx, nx⟩) o.op v → QV P ty bx (St.get ⟨env', bx, nx⟩) o.op v := QV_congr fun x hx => by
    cases x with
    | tmp t =>
      simp only [St.get]
      rw [h t (List.mem_append_left _ (List.mem_filterMap.2 ⟨.tmp t, by simpa using hx, rfl⟩))]
    | _ => rfl
  unfold Fact at *
  refine ⟨k.1, ?_⟩
  have k2 := k.2
  cases hg : o.guard with
  | none => rw [hg] at k2; exact hq k2
  | some gw =>
    obtain ⟨g, want⟩ := gw
    rw [hg] at k2
    obtain ⟨t, b, h1, h2, h3, h4⟩ := k2
    refine ⟨t, b, h1, ?_, fun e => hq (h3 e), h4⟩
    rw [← h t ?_]
    · exact h2
    · unfold Oper.looksAt
      rw [hg]
      refine List.mem_append_right _ ?_
      simp only [guardSlotL] at h1
      simp [h1]

/-- The walk in the text's order, laid out as facts. -/
theorem WX_facts {P : Program} {ty : TypeId → Option TI} {n : Nat} {ops : List Oper} {bx : List (Nat × Option Box)} {nx : Nat} {e0 : List (Nat × AV)} {K : St → Prop} {m : Nat} (hm : m ≤ ops.length) :
    ∀ (l : List Oper) (k : Nat) (vs0 : Nat → AV), l = (ops.take m).drop k → k ≤ m → WX true P ty n ops l ⟨EV ops vs0 e0 (fun _ => true) k, bx, nx⟩ K →
      ∃ vs : Nat → AV, (∀ i, i < k → vs i = vs0 i) ∧ (∀ i o, k ≤ i → i < m → ops[i]? = some o → Fact P ty n ops bx nx (EV ops vs e0 (fun _ => true) i) o (vs i)) ∧ K ⟨EV ops vs e0 (fun _ => true) m, bx, nx⟩
  | [], k, vs0, hl, hk, h => by
    have hkm : k = m := by
      have := congrArg List.length hl
      simp at this
      omega
    subst hkm
    exact ⟨vs0, fun _ _ => rfl, fun i o h1 h2 => by omega, h⟩
  | o :: l, k, vs0, hl, hk, h => by
    have hkm : k < m := by
      have := congrArg List.length hl
      simp at this
      omega
    have ho : ops[k]? = some o := by
      have := congrArg (fun l => l[0]?) hl
      simp [hkm] at this
      simpa using this.symm
    have hl' : l = (ops.take m).drop (k + 1) := by
      have := congrArg List.tail hl
      simpa [List.tail_drop] using this
    -- a step with an outcome
    have step : ∀ v, Fact P ty n ops bx nx (EV ops vs0 e0 (fun _ => true) k) o v → WX true P ty n ops l ((St.mk (EV ops vs0 e0 (fun _ => true) k) bx nx).set o.dst v) K →
        ∃ vs : Nat → AV, (∀ i, i < k → vs i = vs0 i) ∧ (∀ i o, k ≤ i → i < m → ops[i]? = some o → Fact P ty n ops bx nx (EV ops vs e0 (fun _ => true) i) o (vs i)) ∧ K ⟨EV ops vs e0 (fun _ => true) m, bx, nx⟩ := by
      intro v hf hw
      let vs1 : Nat → AV := fun i => if i = k then v else vs0 i
      have hEk : EV ops vs1 e0 (fun _ => true) k = EV ops vs0 e0 (fun _ => true) k := EV_congr k fun i hi => ⟨by simp only [vs1]; rw [if_neg (by omega)], rfl⟩
      have hE1 : (St.mk (EV ops vs0 e0 (fun _ => true) k) bx nx).set o.dst v = ⟨EV ops vs1 e0 (fun _ => true) (k + 1), bx, nx⟩ := by
        simp only [EV, if_true, ho, Option.bind_some, hEk]
        cases hd : o.dst with
        | none => rfl
        | some t => simp [St.set, vs1]
      rw [hE1] at hw
      obtain ⟨vs, g1, g2, g3⟩ := WX_facts hm l (k + 1) vs1 hl' (by omega) hw
      refine ⟨vs, fun i hi => by rw [g1 i (by omega)]; simp only [vs1]; rw [if_neg (by omega)], fun i o' h1 h2 h3 => ?_, g3⟩
      by_cases e : i = k
      · subst e
        rw [ho] at h3
        cases h3
        have e1 : vs i = v := by rw [g1 i (by omega)]; simp [vs1]
        have e2 : EV ops vs e0 (fun _ => true) i = EV ops vs0 e0 (fun _ => true) i := EV_congr i fun j hj => ⟨by rw [g1 j (by omega)]; simp only [vs1]; rw [if_neg (by omega)], rfl⟩
        rw [e1, e2]
        exact hf
      · exact g2 i o' (by omega) h2 h3
    simp only [WX] at h
    obtain ⟨hd, h⟩ := h
    have one : ∀ {K' : St → Prop}, W1X true P ty o ⟨EV ops vs0 e0 (fun _ => true) k, bx, nx⟩ K' → ∃ v, QV P ty bx (St.get ⟨EV ops vs0 e0 (fun _ => true) k, bx, nx⟩) o.op v ∧ K' ((St.mk (EV ops vs0 e0 (fun _ => true) k) bx nx).set o.dst v) := by
      intro K' h
      rcases h with h | ⟨h, _⟩
      · exact h
      · cases h
    cases hg : o.guard with
    | none =>
      rw [hg] at h
      obtain ⟨v, h1, h2⟩ := one h
      exact step v ⟨hd, by rw [hg]; exact h1⟩ h2
    | some gw =>
      obtain ⟨g, want⟩ := gw
      rw [hg] at h
      obtain ⟨t, b, h1, h2, h3, h4⟩ := h
      by_cases e : b = want
      · obtain ⟨v, q1, q2⟩ := one (h3 e)
        exact step v ⟨hd, by rw [hg]; exact ⟨t, b, h1, h2, fun _ => q1, fun e' => by subst e; cases b <;> cases e'⟩⟩ q2
      · have e' : b = !want := by cases b <;> cases want <;> simp_all
        exact step .undef ⟨hd, by rw [hg]; exact ⟨t, b, h1, h2, fun e'' => absurd e'' e, fun _ => rfl⟩⟩ (h4 e')

end Go.Av
