/- Regions that draw their order: any order that the edges allow comes to what the text's order comes to. -/
import Derived.Test.YtgakkecaflppfaaAv25
set_option linter.unusedSimpArgs false
namespace Go.Av

def reach (ops : List Oper) : Nat → Nat → Nat → Bool
  | 0, _, _ => false
  | f + 1, j, i => match ops[j]? with
    | some o => o.after.toList.any fun e => Region.binds .any e && (e.on == i || reach ops f e.on i)
    | none => false

def drawOk (ops : List Oper) (m : Nat) : Bool :=
  (List.range ops.length).all fun j => match ops[j]? with
    | none => true
    | some oj => oj.after.toList.all (fun e => decide (e.on < j)) && (List.range j).all fun i => match ops[i]? with
      | none => true
      | some oi => (oi.apart ops.toArray oj || oj.after.toList.any (fun e => Region.binds .any e && e.on == i)) && (decide (j < m) || reach ops ops.length j i)

structure DrawOk (ops : List Oper) (m : Nat) : Prop where
  back : ∀ (j : Nat) (o : Oper), ops[j]? = some o → ∀ e ∈ o.after, e.on < j
  edge : ∀ (j : Nat) (oj : Oper) (i : Nat) (oi : Oper), ops[j]? = some oj → i < j → ops[i]? = some oi → oi.apart ops.toArray oj = true ∨ ∃ e ∈ oj.after, Region.binds .any e = true ∧ e.on = i
  tail : ∀ (j : Nat) (oj : Oper) (i : Nat), ops[j]? = some oj → m ≤ j → i < j → reach ops ops.length j i = true

theorem drawOk_spec {ops : List Oper} {m : Nat} (h : drawOk ops m = true) : DrawOk ops m := by
  simp only [drawOk, List.all_eq_true, List.mem_range] at h
  have lt : ∀ {j o}, ops[j]? = some o → j < ops.length := fun e => (List.getElem?_eq_some_iff.1 e).1
  refine ⟨fun j o ho e he => ?_, fun j oj i oi hj hi ho => ?_, fun j oj i hj hm hi => ?_⟩
  · have k := h j (lt ho)
    rw [ho] at k
    simp only [Bool.and_eq_true, List.all_eq_true, decide_eq_true_eq] at k
    exact k.1 e (by simpa using he)
  · have k := h j (lt hj)
    rw [hj] at k
    simp only [Bool.and_eq_true, List.all_eq_true, decide_eq_true_eq, List.mem_range] at k
    have k2 := k.2 i hi
    rw [ho] at k2
    simp only [Bool.and_eq_true, Bool.or_eq_true, List.any_eq_true, beq_iff_eq] at k2
    rcases k2.1 with k3 | ⟨e, he, h1, h2⟩
    · exact .inl k3
    · exact .inr ⟨e, by simpa using he, h1, h2⟩
  · have k := h j (lt hj)
    rw [hj] at k
    simp only [Bool.and_eq_true, List.all_eq_true, decide_eq_true_eq, List.mem_range] at k
    have k2 := k.2 i hi
    have : ∃ oi, ops[i]? = some oi := ⟨ops[i]'(by have := lt hj; omega), by simp⟩
    obtain ⟨oi, ho⟩ := this
    rw [ho] at k2
    simp only [Bool.and_eq_true, Bool.or_eq_true, decide_eq_true_eq] at k2
    rcases k2.2 with k3 | k3
    · omega
    · exact k3

/-- Who is listed has what it waits for listed. -/
def Closed (ops : List Oper) (S : Nat → Bool) : Prop := ∀ j o, ops[j]? = some o → S j = true → ∀ e ∈ o.after, Region.binds .any e = true → S e.on = true

theorem reach_closed {ops : List Oper} {S : Nat → Bool} (hC : Closed ops S) : ∀ f j i o, ops[j]? = some o → (∀ e ∈ o.after, Region.binds .any e = true → S e.on = true) → reach ops f j i = true → S i = true
  | 0, _, _, _, _, _, h => by cases h
  | f + 1, j, i, o, ho, hl, h => by
    simp only [reach, ho, List.any_eq_true, Bool.and_eq_true, Bool.or_eq_true, beq_iff_eq] at h
    obtain ⟨e, he, hb, h⟩ := h
    have hs := hl e (by simpa using he) hb
    rcases h with rfl | h
    · exact hs
    · cases hk : ops[e.on]? with
      | none =>
        cases f with
        | zero => cases h
        | succ f => simp [reach, hk] at h
      | some o' => exact reach_closed hC f e.on i o' hk (fun e' he' hb' => hC _ _ hk hs e' he' hb') h

def cnt (S : Nat → Bool) : Nat → Nat
  | 0 => 0
  | n + 1 => cnt S n + if S n then 0 else 1

theorem cnt_congr {S S' : Nat → Bool} : ∀ n, (∀ k, k < n → S k = S' k) → cnt S n = cnt S' n
  | 0, _ => rfl
  | n + 1, h => by simp only [cnt, cnt_congr n (fun k hk => h k (by omega)), h n (by omega)]

theorem cnt_set {S S' : Nat → Bool} {j : Nat} (h0 : S j = false) (h1 : S' j = true) (hne : ∀ k, k ≠ j → S k = S' k) : ∀ n, j < n → cnt S n = cnt S' n + 1
  | 0, h => by omega
  | n + 1, h => by
    by_cases e : j = n
    · subst e
      simp only [cnt, h0, h1, cnt_congr j (fun k hk => hne k (by omega))]
      simp
    · simp only [cnt, cnt_set h0 h1 hne n (by omega), hne n (by omega)]
      omega

theorem cnt_pos {S : Nat → Bool} : ∀ n, 0 < cnt S n → ∃ j, j < n ∧ S j = false ∧ ∀ i, i < j → S i = true
  | 0, h => by simp [cnt] at h
  | n + 1, h => by
    by_cases e : 0 < cnt S n
    · obtain ⟨j, h1, h2, h3⟩ := cnt_pos n e
      exact ⟨j, by omega, h2, h3⟩
    · have hz : cnt S n = 0 := by omega
      have all : ∀ i, i < n → S i = true := by
        clear h e
        induction n with
        | zero => intro i hi; omega
        | succ n ih =>
          intro i hi
          simp only [cnt] at hz
          by_cases e : i = n
          · subst e
            cases hS : S i with
            | true => rfl
            | false => rw [hS] at hz; simp at hz
          · exact ih (by omega) i (by omega)
      refine ⟨n, by omega, ?_, all⟩
      cases hS : S n with
      | false => rfl
      | true => simp [cnt, hz, hS] at h

theorem cnt_zero {S : Nat → Bool} : ∀ n, (∀ i, i < n → S i = true) → cnt S n = 0
  | 0, _ => rfl
  | n + 1, h => by simp [cnt, cnt_zero n (fun i hi => h i (by omega)), h n (by omega)]

theorem cnt_all {S : Nat → Bool} {n : Nat} (h : ∃ j, j < n ∧ S j = false) : 0 < cnt S n := by
  obtain ⟨j, hj, h0⟩ := h
  have := cnt_set (S := S) (S' := fun k => if k = j then true else S k) h0 (by simp) (fun k hk => by simp [hk]) n hj
  omega

section
variable {P : Program} {ty : TypeId → Option TI} {G : Gh} {Q : Exit → St → Prop}

def got (listed : Array Bool) (j : Nat) : Bool := listed.getD j false

theorem mem_ready' {ops : List Oper} {listed : Array Bool} (hs : listed.size = ops.length) {j : Nat} : j ∈ Region.ready .any ops.toArray listed ↔
    got listed j = false ∧ ∃ o, ops[j]? = some o ∧ ∀ e ∈ o.after, Region.binds .any e = true → got listed e.on = true := by
  rw [mem_ready]
  constructor
  · rintro ⟨h1, o, h2, h3⟩
    have h2' : ops[j]? = some o := by simpa using h2
    have hlt : j < ops.length := (List.getElem?_eq_some_iff.1 h2').1
    exact ⟨by rw [← h1]; simp [got, Array.getD, hs, hlt], o, h2', h3⟩
  · rintro ⟨h1, o, h2, h3⟩
    have hlt : j < ops.length := (List.getElem?_eq_some_iff.1 h2).1
    exact ⟨by rw [← h1]; simp [got, Array.getD, hs, hlt], o, by simpa using h2, h3⟩

theorem got_set {listed : Array Bool} {j : Nat} (hj : j < listed.size) (k : Nat) : got (listed.setIfInBounds j true) k = if k = j then true else got listed k := by
  unfold got
  by_cases e : k = j
  · subst e; simp [hj]
  · rw [if_neg e, getD_set_ne false (Ne.symm e)]

/-- The part that comes last, in the text's order. -/
theorem any_tail (hty : TyOk P ty) {ops : List Oper} {m : Nat} (hD : DrawOk ops m) : ∀ (l : List Oper) (k : Nat) (st : St) (K : St → Prop) (listed : Array Bool) (φ : Nat → Option Loc) (a : Act) (w : World),
    l = ops.drop k → m ≤ k → listed.size = ops.length → (∀ i, i < ops.length → got listed i = decide (i < k)) → WX false P ty G.n ops l st K → (∀ s, K s → Q .normal s) → RelA G st φ a w →
    wpAny P .any ops.toArray (QE G Q) l.length listed a w
  | [], k, st, K, listed, φ, a, w, hl, hm, hsz, hS, h, hK, r => by
    have hk : ops.length ≤ k := by
      have := congrArg List.length hl
      simp at this
      omega
    refine ⟨?_, st, φ, hK st h, r⟩
    refine List.eq_nil_iff_forall_not_mem.2 fun j hj => ?_
    obtain ⟨h1, o, h2, _⟩ := (mem_ready' hsz).1 hj
    have hlt : j < ops.length := (List.getElem?_eq_some_iff.1 h2).1
    rw [hS j hlt] at h1
    simp at h1
    omega
  | o :: l, k, st, K, listed, φ, a, w, hl, hm, hsz, hS, h, hK, r => by
    have hk : k < ops.length := by
      have := congrArg List.length hl
      simp at this
      omega
    have ho : ops[k]? = some o := by
      have := congrArg (fun l => l[0]?) hl
      simp at this
      simpa using this.symm
    have hl' : l = ops.drop (k + 1) := by
      have := congrArg List.tail hl
      simpa [List.tail_drop] using this
    have hkr : k ∈ Region.ready .any ops.toArray listed := by
      refine (mem_ready' hsz).2 ⟨by rw [hS k hk]; simp, o, ho, fun e he _ => ?_⟩
      have := hD.back k o ho e he
      rw [hS e.on (by omega)]
      simpa using this
    have hC : Closed ops (got listed) := by
      intro j oj hj hSj e he hb
      have hlt : j < ops.length := (List.getElem?_eq_some_iff.1 hj).1
      have hb' := hD.back j oj hj e he
      rw [hS j hlt] at hSj
      rw [hS e.on (by omega)]
      simp at hSj ⊢
      omega
    refine ⟨fun h0 => (by rw [h0] at hkr; cases hkr), fun j hj => ?_⟩
    obtain ⟨h1, oj, h2, h3⟩ := (mem_ready' hsz).1 hj
    have hlt : j < ops.length := (List.getElem?_eq_some_iff.1 h2).1
    rw [hS j hlt] at h1
    simp at h1
    have hjk : j = k := by
      rcases Nat.lt_or_eq_of_le h1 with hgt | e
      · have := reach_closed hC _ j k oj h2 h3 (hD.tail j oj k h2 (by omega) hgt)
        rw [hS k hk] at this
        simp at this
      · exact e.symm
    subst hjk
    refine WX_op hty (by simpa using ho) h (fun s hs φ a w r => ?_) r
    refine any_tail hty hD l (j + 1) s K _ φ a w hl' (by omega) (by simpa using hsz) (fun i hi => ?_) hs hK r
    rw [got_set (by omega), hS i hi]
    by_cases e : i = j
    · subst e; simp
    · rw [if_neg e]; congr 1; simp only [eq_iff_iff]; omega

/-- The quiet part, in any order. -/
theorem any_quiet (hty : TyOk P ty) {ops : List Oper} {m : Nat} (hD : DrawOk ops m) (hm : m ≤ ops.length) {vs : Nat → AV} {e0 : List (Nat × AV)} {bx : List (Nat × Option Box)} {nx : Nat}
    (hF : ∀ i o, i < m → ops[i]? = some o → Fact P ty G.n ops bx nx (EV ops vs e0 (fun _ => true) i) o (vs i)) {K : St → Prop}
    (hT : WX false P ty G.n ops (ops.drop m) ⟨EV ops vs e0 (fun _ => true) m, bx, nx⟩ K) (hK : ∀ s, K s → Q .normal s) :
    ∀ (fuel : Nat) (listed : Array Bool) (φ : Nat → Option Loc) (a : Act) (w : World), listed.size = ops.length → cnt (got listed) ops.length = fuel → Closed ops (got listed) → (∀ i, m ≤ i → i < ops.length → got listed i = false) →
      RelA G ⟨EV ops vs e0 (got listed) m, bx, nx⟩ φ a w → wpAny P .any ops.toArray (QE G Q) fuel listed a w := by
  intro fuel
  induction fuel with
  | zero =>
    intro listed φ a w hsz hc hC hM r
    have all : ∀ i, i < ops.length → got listed i = true := by
      intro i hi
      cases hS : got listed i with
      | true => rfl
      | false => have := cnt_all (S := got listed) ⟨i, hi, hS⟩; omega
    have hml : m = ops.length := by
      rcases Nat.lt_or_eq_of_le hm with h | h
      · have := hM m (Nat.le_refl _) h
        rw [all m h] at this
        cases this
      · exact h
    have hd : ops.drop m = [] := by simp [hml]
    have he : EV ops vs e0 (got listed) m = EV ops vs e0 (fun _ => true) m := EV_congr m fun k hk => ⟨rfl, all k (by omega)⟩
    rw [he] at r
    have := any_tail (Q := Q) hty hD (ops.drop m) m _ K listed φ a w rfl (Nat.le_refl _) hsz (fun i hi => by rw [all i hi]; simp; omega) hT hK r
    rw [hd] at this
    exact this
  | succ fuel ih =>
    intro listed φ a w hsz hc hC hM r
    by_cases hall : ∀ i, i < m → got listed i = true
    · have he : EV ops vs e0 (got listed) m = EV ops vs e0 (fun _ => true) m := EV_congr m fun k hk => ⟨rfl, hall k hk⟩
      rw [he] at r
      have hS : ∀ i, i < ops.length → got listed i = decide (i < m) := by
        intro i hi
        by_cases e : i < m
        · rw [hall i e]; simp [e]
        · rw [hM i (by omega) hi]; simp [e]
      have hlen : (ops.drop m).length = fuel + 1 := by
        have key : ∀ n, m ≤ n → n ≤ ops.length → cnt (got listed) n = n - m := by
          intro n
          induction n with
          | zero => intro _ _; simp [cnt]
          | succ n ih =>
            intro h1 h2
            by_cases e : m = n + 1
            · rw [cnt_zero _ (fun i hi => hall i (by omega))]; omega
            · simp only [cnt, ih (by omega) (by omega), hM n (by omega) (by omega)]
              simp
              omega
        rw [key _ hm (Nat.le_refl _)] at hc
        simpa using hc
      have := any_tail (Q := Q) hty hD (ops.drop m) m _ K listed φ a w rfl (Nat.le_refl _) hsz hS hT hK r
      rw [hlen] at this
      exact this
    · have hex : ∃ i, i < m ∧ got listed i = false := by
        refine Classical.byContradiction fun hn => hall fun i hi => ?_
        cases hS : got listed i with
        | true => rfl
        | false => exact absurd ⟨i, hi, hS⟩ hn
      refine ⟨fun h0 => ?_, fun j hj => ?_⟩
      · obtain ⟨j, h1, h2, h3⟩ := cnt_pos (S := got listed) ops.length (by omega)
        have ho : ops[j]? = some ops[j] := by simp
        have : j ∈ Region.ready .any ops.toArray listed := (mem_ready' hsz).2 ⟨h2, _, ho, fun e he _ => h3 _ (hD.back j _ ho e he)⟩
        rw [h0] at this
        cases this
      · obtain ⟨h1, o, h2, h3⟩ := (mem_ready' hsz).1 hj
        have hlt : j < ops.length := (List.getElem?_eq_some_iff.1 h2).1
        have hjm : j < m := by
          rcases Nat.lt_or_ge j m with h | h
          · exact h
          · obtain ⟨i, hi, hSi⟩ := hex
            have := reach_closed hC _ j i o h2 h3 (hD.tail j o i h2 h (by omega))
            rw [hSi] at this
            cases this
        -- who writes what this one looks at
        have later : ∀ k, j < k → k < ops.length → got listed k = true → ∀ ok, ops[k]? = some ok → o.apart ops.toArray ok = true := by
          intro k hk hkl hSk ok hok
          rcases hD.edge k ok j o hok hk h2 with h | ⟨e, he, hb, rfl⟩
          · exact h
          · have := hC k ok hok hSk e he hb
            rw [h1] at this
            cases this
        have sees : ∀ t, t ∈ o.looksAt ops.toArray → look (EV ops vs e0 (fun _ => true) j) t = look (EV ops vs e0 (got listed) m) t := by
          intro t ht
          have e1 : EV ops vs e0 (fun _ => true) j = EV ops vs e0 (fun i => decide (i < j)) m := by
            rw [EV_stop (S := fun i => decide (i < j)) (k := j) m (by omega) (fun i h1 h2 => by simp; omega)]
            exact EV_congr j fun k hk => ⟨rfl, by simp [hk]⟩
          rw [e1]
          refine EV_agree m fun k hk hw => ?_
          have hkl : k < ops.length := by omega
          have hok : ops[k]? = some ops[k] := by simp
          rw [hok] at hw
          simp only [Option.bind_some] at hw
          rcases Nat.lt_trichotomy k j with h | h | h
          · rcases hD.edge j o k _ h2 h hok with hap | ⟨e, he, hb, rfl⟩
            · exact absurd ht ((Oper.apart_spec hap).1 t hw)
            · rw [h3 e he hb]; simpa using h
          · subst h; rw [h1]; simp
          · cases hSk : got listed k with
            | false => simp; omega
            | true => exact absurd ht ((Oper.apart_spec (later k h hkl hSk _ hok)).2.2 t hw)
        have hfact := Fact_congr sees (hF j o hjm h2)
        -- behind it
        have next : ∀ φ a w, RelA G ((St.mk (EV ops vs e0 (got listed) m) bx nx).set o.dst (vs j)) φ a w → wpAny P .any ops.toArray (QE G Q) fuel (listed.setIfInBounds j true) a w := by
          intro φ a w r
          have hg : ∀ k, got (listed.setIfInBounds j true) k = if k = j then true else got listed k := got_set (by omega)
          refine ih _ φ a w (by simpa using hsz) ?_ ?_ ?_ ?_
          · have := cnt_set (S := got listed) (S' := got (listed.setIfInBounds j true)) h1 (by rw [hg]; simp) (fun k hk => by rw [hg, if_neg hk]) _ hlt
            omega
          · intro k ok hok hSk e he hb
            rw [hg] at hSk ⊢
            by_cases e' : e.on = j
            · simp [e']
            · rw [if_neg e']
              by_cases e'' : k = j
              · subst e''
                rw [h2] at hok
                cases hok
                exact h3 e he hb
              · rw [if_neg e''] at hSk
                exact hC k ok hok hSk e he hb
          · intro i h1 h2
            rw [hg, if_neg (by omega)]
            exact hM i h1 h2
          · refine r.weak ⟨fun t v h => ?_, ?_, ?_⟩
            · have hbind : (ops[j]?).bind (·.dst) = o.dst := by rw [h2]; rfl
              cases hd : o.dst with
              | none =>
                simp only [St.set]
                rw [← h]
                refine EV_agree m fun k hk hw => ?_
                rw [hg]
                by_cases e : k = j
                · subst e; rw [hbind, hd] at hw; cases hw
                · rw [if_neg e]
              | some t' =>
                simp only [St.set, look]
                by_cases e : t' = t
                · subst e
                  simp only [if_true]
                  rw [← h]
                  refine (EV_last (by rw [hg]; simp) (by rw [hbind, hd]) m hjm fun k hk hkm hw => ?_).symm
                  rw [hg, if_neg (by omega)]
                  cases hSk : got listed k with
                  | false => rfl
                  | true =>
                    have hok : ops[k]? = some (ops[k]'(by omega)) := by simp
                    rw [hok] at hw
                    exact absurd hw ((Oper.apart_spec (later k hk (by omega) hSk _ hok)).2.1 t' hd)
                · rw [if_neg e, ← h]
                  refine EV_agree m fun k hk hw => ?_
                  rw [hg]
                  by_cases e' : k = j
                  · subst e'
                    rw [hbind, hd] at hw
                    exact absurd (Option.some.inj hw) e
                  · rw [if_neg e']
            · cases o.dst <;> exact Nat.le_refl _
            · intro id b' hb
              refine ⟨b', ?_, rfl, rfl, rfl, fun h => h⟩
              cases o.dst <;> exact hb
        have hA : ops.toArray[j]? = some o := by simpa using h2
        obtain ⟨hd, hfact⟩ := hfact
        cases hgd : o.guard with
        | none =>
          rw [hgd] at hfact
          exact OP_none hA hgd (QV_ok hty (st := ⟨EV ops vs e0 (got listed) m, bx, nx⟩) hfact hd next φ a w r)
        | some gw =>
          obtain ⟨g, want⟩ := gw
          rw [hgd] at hfact
          obtain ⟨t, b, f1, f2, f3, f4⟩ := hfact
          refine OP_guard hA hgd (by simpa [guardSlot, guardSlotL] using f1) f2 r (fun e => QV_ok hty (st := ⟨EV ops vs e0 (got listed) m, bx, nx⟩) (f3 e) hd next φ a w r) (fun e => ?_)
          have := f4 e
          refine next φ _ w ?_
          rw [this]
          exact r.put_undef hd _

theorem T_draw (hty : TyOk P ty) (hmix : P.follows .mixedOrders = true) {id : Nat} {l : List Oper} (m : Nat) (hD : drawOk l m = true) (hm : m ≤ l.length) {st : St}
    (h : WX true P ty G.n l (l.take m) st fun s => WX false P ty G.n l (l.drop m) s (Q .normal)) : T P G (.region id l.toArray true) st Q := by
  intro φ a w r
  refine wp_region_any hmix ?_
  obtain ⟨vs, _, hF, hT⟩ := WX_facts (e0 := st.env) (bx := st.bx) (nx := st.nx) hm (l.take m) 0 (fun _ => .undef) (by simp) (by omega) (by simpa [EV] using h)
  have hz : ∀ i, got (Array.replicate l.toArray.size false) i = false := by
    intro i
    simp only [got, Array.getD]
    split <;> simp
  have hE : EV l vs st.env (got (Array.replicate l.toArray.size false)) m = st.env := by
    rw [EV_stop (k := 0) m (by omega) (fun i _ _ => hz i)]
    rfl
  refine any_quiet (Q := Q) hty (drawOk_spec hD) hm (fun i o hi ho => hF i o (by omega) hi ho) hT (fun s hs => hs) _ _ φ a _ (by simp) ?_ (fun j o _ h => by rw [hz] at h; cases h) (fun i _ _ => hz i) ?_
  · have : ∀ n, cnt (got (Array.replicate l.toArray.size false)) n = n := by
      intro n
      induction n with
      | zero => rfl
      | succ n ih => simp only [cnt, ih, hz]; simp
    rw [this]
    simp
  · rw [hE]
    exact r.ext (.drew w)
end

end Go.Av
