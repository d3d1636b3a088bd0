/- A small logic for code over pictures of values and boxes: part 10. -/
import Derived.Test.YtmaginepopldnaaDoorGi
import Derived.Laws.StructEq
set_option linter.unusedSimpArgs false
set_option linter.unusedVariables false
namespace Go.Av

section
variable {P : Program} {f : FuncId} {xs : List AV} {bx : List (Nat × Option Box)} {nx : Nat}
theorem CR.frame (ids : List Nat) {R : AV → List (Nat × Option Box) → Nat → Prop} (hC : CR P f xs (pickSlots bx ids) nx R)
    (hids : ∀ r bs' nx', R r bs' nx' → ∀ id b, look bs' id = some b → id ∈ ids ∨ nx ≤ id) : CallS P f bx nx xs (fun r b n => ∃ b0, R r b0 n ∧ b = b0 ++ (ids.map fun i => (i, none)) ++ bx) := by
  refine ⟨hC.1, fun G φ w vs hrel0 hA => ?_⟩
  have hsub : ∀ id b, box? (pickSlots bx ids) id = some b → box? bx id = some b := by
    intro id b h
    simp only [box?] at h ⊢
    cases hl : look (pickSlots bx ids) id with
    | none => rw [hl] at h; cases h
    | some o => rw [hl] at h; rw [look_pick _ _ _ _ hl]; exact h
  have hpick : ∀ ids id b, look (pickSlots bx ids) id = some b → id ∈ ids := by
    intro ids
    induction ids with
    | nil => intro id b h; simp [pickSlots, look] at h
    | cons k ids ih =>
      intro id b h
      simp only [pickSlots] at h
      split at h
      · rw [look_cons] at h
        split at h
        · rename_i e; simp [e]
        · exact List.mem_cons_of_mem _ (ih id b h)
      · exact List.mem_cons_of_mem _ (ih id b h)
  let G2 : Gh := ⟨w, OK G bx φ w, fun b => ∃ id box L, box? (pickSlots bx ids) id = some box ∧ φ id = some L ∧ L.virt = false ∧ L.own b, 0, φ, nx⟩
  have hokB : ∀ b o, okB bx φ b o → okB (pickSlots bx ids) φ b o := fun b o h id box L h1 h2 => h id box L (hsub id box h1) h2
  have hcell : ∀ b o, OK G bx φ w b o → OK G2 (pickSlots bx ids) φ w b o ∧ w.cell? ⟨b, o, none⟩ = w.cell? ⟨b, o, none⟩ := fun b o h => ⟨⟨h.1, hokB b o h.2.1, fun _ => .inl h⟩, rfl⟩
  have hrel2 : Rel G2 (pickSlots bx ids) nx φ w := by
    constructor
    · rfl
    · rfl
    · rfl
    · exact Nat.le_refl _
    · exact fun _ _ _ => rfl
    · exact fun _ _ _ => rfl
    · exact fun b o h => ⟨h.1, hokB b o h.2.1⟩
    · intro id b hb
      obtain ⟨L, hL, hB, hm⟩ := hrel0.box id b (hsub id b hb)
      exact ⟨L, hL, hB.mono hcell (fun _ _ h => h) (fun _ _ _ => rfl), fun hv k hk => .inr ⟨id, b, L, hb, hL, hv, hk⟩⟩
    · exact fun id id' b b' L L' h1 h2 => hrel0.apart id id' b b' L L' (hsub id b h1) (hsub id' b' h2)
    · exact hrel0.dom
    · exact fun _ _ => rfl
    · exact Nat.le_refl _
  refine (hC.2 G2 φ w _ rfl rfl rfl hrel2 ⟨hA.1, fun i x v hx hv => (hA.2 i x v hx hv).mono hcell (fun _ _ h => h)⟩).mono ?_
  rintro e w' ⟨v, r, bs', nx', φ', rfl, hR, hrel', hrep⟩
  -- all that the caller knew of cells holds on
  have hloc : ∀ id L, φ id = some L → φ' id = some L := by
    intro id L h
    have : id < nx := by
      rcases Nat.lt_or_ge id nx with k | k
      · exact k
      · rw [hrel0.dom id k] at h; cases h
    rw [hrel'.agree id this]; exact h
  have hbx : ∀ id b, box? (bs' ++ (ids.map fun i => (i, none)) ++ bx) id = some b → box? bs' id = some b ∨ (look bs' id = none ∧ id ∉ ids ∧ box? bx id = some b) := by
    intro id b h
    rw [List.append_assoc, box?_append] at h
    cases hl : look bs' id with
    | some o => rw [hl] at h; left; simp only [box?, hl]; exact h
    | none =>
      rw [hl] at h
      simp only at h
      rw [box?_append, look_kill] at h
      by_cases hi : id ∈ ids
      · rw [if_pos hi] at h; cases h
      · rw [if_neg hi] at h; exact .inr ⟨rfl, hi, h⟩
  -- a box of the rest lies apart from what was lent and what is new
  have hrest : ∀ id b L, id ∉ ids → box? bx id = some b → φ id = some L → L.virt = false → ∀ k, L.own k → ¬ G2.wr k ∧ k < w.heap.size := by
    intro id b L h1 h2 h3 h4 kb hkb
    obtain ⟨L', hL', hB, _⟩ := hrel0.box id b h2
    obtain rfl : L = L' := by rw [h3] at hL'; exact Option.some.inj hL'
    refine ⟨?_, hB.lt h4 hkb⟩
    rintro ⟨id', b', L', g1, g2, g3, g4⟩
    have hin : id' ∈ ids := by
      simp only [box?] at g1
      cases hl : look (pickSlots bx ids) id' with
      | none => rw [hl] at g1; cases g1
      | some o => exact hpick ids id' o hl
    exact hrel0.apart id' id b' b L' L (hsub _ _ g1) h2 (fun e => h1 (e ▸ hin)) g2 h3 g3 h4 kb g4 hkb
  have hlook : ∀ id b, look bs' id = some b → id ∈ ids ∨ nx ≤ id := hids r bs' nx' hR
  have hlookb : ∀ id b, box? bs' id = some b → ∃ o, look bs' id = some o := by
    intro id b h
    simp only [box?] at h
    cases hl : look bs' id with
    | none => rw [hl] at h; cases h
    | some o => exact ⟨o, rfl⟩
  have hcell' : ∀ b o, OK G bx φ w b o → OK G (bs' ++ (ids.map fun i => (i, none)) ++ bx) φ' w' b o ∧ w'.cell? ⟨b, o, none⟩ = w.cell? ⟨b, o, none⟩ := by
    intro b o h
    refine ⟨⟨Nat.lt_of_lt_of_le h.1 hrel'.size, ?_, h.2.2⟩, hrel'.kept b o h⟩
    intro id box L h1 h2 hv he
    rcases hbx id box h1 with h3 | ⟨h3, h4, h5⟩
    · exact (hrel'.okk b o h).2 id box L h3 h2 hv he
    · obtain ⟨L', hL', _⟩ := hrel0.box id box h5
      have := hloc _ _ hL'
      rw [h2] at this
      obtain rfl := Option.some.inj this
      exact h.2.1 id box L h5 hL' hv he
  have hcellR : ∀ b o, OK G2 bs' φ' w' b o → OK G (bs' ++ (ids.map fun i => (i, none)) ++ bx) φ' w' b o ∧ w'.cell? ⟨b, o, none⟩ = w'.cell? ⟨b, o, none⟩ := by
    intro b o h
    refine ⟨⟨h.1, ?_, fun hlt => ?_⟩, rfl⟩
    · intro id box L h1 h2 hv he
      rcases hbx id box h1 with h3 | ⟨h3, h4, h5⟩
      · exact h.2.1 id box L h3 h2 hv he
      · obtain ⟨L', hL', _⟩ := hrel0.box id box h5
        have := hloc _ _ hL'
        rw [h2] at this
        obtain rfl := Option.some.inj this
        obtain ⟨g1, g2⟩ := hrest id box L h4 h5 hL' hv b he
        rcases h.2.2 g2 with k | k
        · exact k.2.1 id box L h5 hL' hv he
        · exact absurd k g1
    · rcases h.2.2 (Nat.lt_of_lt_of_le hlt hrel0.size) with k | ⟨id, box, L, k1, k2, k3, k4⟩
      · exact k.2.2 hlt
      · obtain ⟨L', hL', _, hm⟩ := hrel0.box id box (hsub _ _ k1)
        obtain rfl : L = L' := by rw [k2] at hL'; exact Option.some.inj hL'
        rcases hm k3 _ k4 with k5 | k5
        · omega
        · exact .inr k5
  have hfin : Rel G (bs' ++ (ids.map fun i => (i, none)) ++ bx) nx' φ' w' := by
    constructor
    · exact hrel'.os.trans hrel0.os
    · exact hrel'.tape.trans hrel0.tape
    · exact hrel'.output.trans hrel0.output
    · exact Nat.le_trans hrel0.size hrel'.size
    · intro b hb hw
      have hlt : b < w.heap.size := Nat.lt_of_lt_of_le hb hrel0.size
      refine (hrel'.frame b hlt ?_).trans (hrel0.frame b hb hw)
      rintro ⟨id, box, L, k1, k2, k3, k4⟩
      obtain ⟨L', hL', _, hm⟩ := hrel0.box id box (hsub _ _ k1)
      obtain rfl : L = L' := by rw [k2] at hL'; exact Option.some.inj hL'
      rcases hm k3 _ k4 with k5 | k5
      · omega
      · exact hw k5
    · intro b o hk
      exact (hrel'.kept b o (hrel0.ok_of_ok0 hk)).trans (hrel0.kept b o hk)
    · intro b o hk
      exact ⟨(hrel0.okk b o hk).1, (hcell' b o (hrel0.ok_of_ok0 hk)).1.2.1⟩
    · intro id b hb
      rcases hbx id b hb with h3 | ⟨h3, h4, h5⟩
      · obtain ⟨L, hL, hB, hm⟩ := hrel'.box id b h3
        refine ⟨L, hL, hB.mono hcellR (fun _ _ h => h) (fun _ _ _ => rfl), fun hv kb hkb => ?_⟩
        rcases hm hv kb hkb with k | ⟨id2, box2, L2, k1, k2, k3, k4⟩
        · exact .inl (Nat.le_trans hrel0.size k)
        · obtain ⟨L', hL', _, hm'⟩ := hrel0.box id2 box2 (hsub _ _ k1)
          obtain rfl : L2 = L' := by rw [k2] at hL'; exact Option.some.inj hL'
          exact hm' k3 _ k4
      · obtain ⟨L, hL, hB, hm⟩ := hrel0.box id b h5
        refine ⟨L, hloc _ _ hL, hB.mono hcell' hloc (fun hv kb hkb => ?_), hm⟩
        obtain ⟨g1, g2⟩ := hrest id b L h4 h5 hL hv kb hkb
        exact hrel'.frame kb g2 g1
    · intro i i' c c' L1 L2 h1 h2 hne h3 h4 hv1 hv2 kb q1 q2
      rcases hbx i c h1 with k1 | ⟨k1, k2, k3⟩
      · rcases hbx i' c' h2 with j1 | ⟨j1, j2, j3⟩
        · exact hrel'.apart i i' c c' L1 L2 k1 j1 hne h3 h4 hv1 hv2 kb q1 q2
        · obtain ⟨L, hL, _⟩ := hrel0.box i' c' j3
          have := hloc _ _ hL
          rw [h4] at this
          obtain rfl := Option.some.inj this
          obtain ⟨g1, g2⟩ := hrest i' c' L2 j2 j3 hL hv2 kb q2
          obtain ⟨L', hL', _, hm⟩ := hrel'.box i c k1
          obtain rfl : L1 = L' := by rw [h3] at hL'; exact Option.some.inj hL'
          rcases hm hv1 kb q1 with q | q
          · have q' : w.heap.size ≤ kb := q
            omega
          · exact g1 q
      · obtain ⟨L, hL, _⟩ := hrel0.box i c k3
        have := hloc _ _ hL
        rw [h3] at this
        obtain rfl := Option.some.inj this
        rcases hbx i' c' h2 with j1 | ⟨j1, j2, j3⟩
        · obtain ⟨g1, g2⟩ := hrest i c L1 k2 k3 hL hv1 kb q1
          obtain ⟨L', hL', _, hm⟩ := hrel'.box i' c' j1
          obtain rfl : L2 = L' := by rw [h4] at hL'; exact Option.some.inj hL'
          rcases hm hv2 kb q2 with q | q
          · have q' : w.heap.size ≤ kb := q
            omega
          · exact g1 q
        · obtain ⟨L', hL', _⟩ := hrel0.box i' c' j3
          have := hloc _ _ hL'
          rw [h4] at this
          obtain rfl := Option.some.inj this
          exact hrel0.apart i i' c c' L1 L2 k3 j3 hne hL hL' hv1 hv2 kb q1 q2
    · exact hrel'.dom
    · intro id hid
      have : id < nx := Nat.lt_of_lt_of_le hid hrel0.nxle
      rw [hrel'.agree id this]
      exact hrel0.agree id hid
    · exact Nat.le_trans hrel0.nxle hrel'.nxle
  exact ⟨v, r, bs' ++ (ids.map fun i => (i, none)) ++ bx, nx', φ', rfl, ⟨bs', hR, rfl⟩, ⟨hfin, hcell', hloc⟩, hrep.mono hcellR (fun _ _ h => h)⟩
end

section
variable {P : Program} {ty : TypeId → Option TI} {n : Nat} {l : List Oper} {K : St → Prop} {tp : TypeId} {pos : String} {aft : Array Edge} {gd : Option (Nat × Bool)} {env : List (Nat × AV)} {bx bx0 : List (Nat × Option Box)} {nx : Nat} {d : Tmp}
end

section
variable {P : Program} {ty : TypeId → Option TI}
end

def RenEL (ρ : Nat → Nat) : List AV → List AV → Prop
  | [], [] => True
  | a :: l, b :: r => RenL ρ a.cells b.cells ∧ RenEL ρ l r
  | _, _ => False
theorem renEL_nil {ρ : Nat → Nat} : RenEL ρ [] [] := trivial
theorem renEL_cons {ρ : Nat → Nat} {a b : AV} {l r : List AV} (h : RenL ρ a.cells b.cells) (k : RenEL ρ l r) : RenEL ρ (a :: l) (b :: r) := ⟨h, k⟩
theorem RenEL.get {ρ : Nat → Nat} : ∀ {l r : List AV}, RenEL ρ l r → r.length = l.length ∧ ∀ (i : Nat) (x x' : AV), l[i]? = some x → r[i]? = some x' → RenL ρ x.cells x'.cells
  | [], [], _ => ⟨rfl, fun i x x' h => by simp at h⟩
  | a :: l, b :: r, h => by
    obtain ⟨h1, h2⟩ := RenEL.get h.2
    refine ⟨by simp [h1], fun i x x' e1 e2 => ?_⟩
    cases i with
    | zero => simp at e1 e2; subst e1; subst e2; exact h.1
    | succ i => simp at e1 e2; exact h2 i x x' e1 e2
  | [], _ :: _, h => h.elim
  | _ :: _, [], h => h.elim
theorem renBs_list {ρ : Nat → Nat} {i j : Nat} {E E' : List AV} {st : Nat} {sl ro : Bool} {l r : List (Nat × Option Box)} (hj : j = ρ i) (h : RenEL ρ E E') (k : RenBs ρ l r) :
    RenBs ρ ((i, some ⟨E, st, sl, ro⟩) :: l) ((j, some ⟨E', st, sl, ro⟩) :: r) := renBs_box hj h.get.1 h.get.2 k
theorem pullB_list {ρ : Nat → Nat} {bx l : List (Nat × Option Box)} {id : Nat} {E E' : List AV} {st : Nat} {sl ro : Bool} (h : box? bx (ρ id) = some ⟨E', st, sl, ro⟩) (hr : RenEL ρ E E') (k : PullB ρ bx l) : PullB ρ bx ((id, some ⟨E, st, sl, ro⟩) :: l) :=
  pullB_box h hr.get.1 hr.get.2 k
theorem lowX_cons {N : Nat} {x : AV} {l : List AV} (h : LowL N x.cells) (k : LowX N l) : LowX N (x :: l) := fun y hy z hz => by
  rcases List.mem_cons.1 hy with rfl | hy
  · exact h.mem z hz
  · exact k y hy z hz

def Called (ids : List Nat) (x x' : AV) : Prop := ∀ w φ φ' ok v, (∀ k id, ids[k]? = some id → φ' k = φ id) → (Rep w φ' ok x v ↔ Rep w φ ok x' v)
def CalledL (ids : List Nat) : List AV → List AV → Prop
  | [], [] => True
  | x :: l, y :: r => Called ids x y ∧ CalledL ids l r
  | _, _ => False
theorem CalledL.get {ids : List Nat} : ∀ {l r : List AV}, CalledL ids l r → r.length = l.length ∧ ∀ (i : Nat) (x y : AV), l[i]? = some x → r[i]? = some y → Called ids x y
  | [], [], _ => ⟨rfl, fun i x x' h => by simp at h⟩
  | a :: l, b :: r, h => by
    obtain ⟨h1, h2⟩ := CalledL.get h.2
    refine ⟨by simp [h1], fun i x x' e1 e2 => ?_⟩
    cases i with
    | zero => simp at e1 e2; subst e1; subst e2; exact h.1
    | succ i => simp at e1 e2; exact h2 i x x' e1 e2
  | [], _ :: _, h => h.elim
  | _ :: _, [], h => h.elim
section
variable {P : Program} {ty : TypeId → Option TI} {f : FuncId} {args args' : List AV} {r r' : AV}
end

section
variable {P : Program} {ty : TypeId → Option TI} {n : Nat} {ops l : List Oper} {K : St → Prop} {tp : TypeId} {pos : String} {aft : Array Edge} {env : List (Nat × AV)} {bx : List (Nat × Option Box)} {nx : Nat} {d : Tmp} {f : FuncId} {args : List Operand} {ats : Array TypeId} {xs ys : List AV}
end

section
variable {ty : TypeId → Option TI} {rs : List ResultVar} {s : St} {xs : List AV} {r : AV}
end

section
variable {P : Program} {ty : TypeId → Option TI} {n : Nat} {l : List Oper} {K : St → Prop} {bx0 : List (Nat × Option Box)}
end

section
variable {P : Program} {f : FuncId} {xs : List AV} {bs b0 b1 : List (Nat × Option Box)} {nx : Nat}
theorem CR.freeze {id len cap st n0 : Nat} {E : List AV} {sl ro : Bool} (h : CR P f xs bs nx (Is (.sl id 0 len cap) b0 n0)) (hb : box? b0 id = some ⟨E, st, sl, ro⟩) (hl : len = E.length) (hp : PureB E)
    (hrest : ∀ i b, box? b1 i = some b → i ≠ id ∧ box? b0 i = some b) : CR P f xs bs nx (Is (.ls st true false E) b1 n0) := by
  refine ⟨h.1, fun G φ w vs e1 e2 e3 hrel hA => (h.2 G φ w vs e1 e2 e3 hrel hA).mono ?_⟩
  rintro e w' ⟨v, r, bs', nx', φ', rfl, ⟨q1, q2, q3⟩, hrel', hrep⟩
  subst q1 q2 q3
  subst hl
  have hW := hrel'.weaken (bx' := (id, some ⟨E, st, sl, true⟩) :: bs') (Nat.le_refl _) (fun i b' hi => by
    rw [box?_cons] at hi
    by_cases e1 : id = i
    · rw [if_pos e1] at hi
      obtain rfl := Option.some.inj hi
      exact ⟨⟨E, st, sl, ro⟩, by rw [← e1]; exact hb, rfl, rfl, rfl, fun _ => rfl⟩
    · rw [if_neg e1] at hi
      exact ⟨b', hi, rfl, rfl, rfl, fun h => h⟩)
  have hE : (E.drop 0).take E.length = E := by simp
  obtain ⟨y, hy, hr⟩ := vw_sl (bx := (id, some ⟨E, st, sl, true⟩) :: bs') (id := id) (off := 0) (len := E.length) (cap := cap) (b := ⟨E, st, sl, true⟩) (by rw [box?_cons, if_pos rfl]) rfl (by simp) (by
    rw [hE]
    exact fun x hx y hy => (hp x hx).1.mem y hy) G nx' φ' w' v hW.rel (hW.rep hrep)
  rw [hE] at hy
  subst hy
  have hV := hW.rel.weaken (bx' := b1) (Nat.le_refl _) (fun i b' hi => by
    obtain ⟨g1, g2⟩ := hrest i b' hi
    exact ⟨b', by rw [box?_cons, if_neg (fun h => g1 h.symm)]; exact g2, rfl, rfl, rfl, fun h => h⟩)
  exact ⟨v, _, b1, nx', φ', rfl, ⟨rfl, rfl, rfl⟩, hV.rel, hr.mono hV.cell (fun _ _ e => by cases e)⟩
end

end Go.Av
namespace Go.Av

inductive PK where
  | int (k : IntKind) | str | bool
  deriving DecidableEq

def AV.pk : AV → Option PK
  | .int k _ => some (.int k)
  | .str _ => some .str
  | .bool _ => some .bool
  | _ => none

def eqTabF (P : Program) : Nat → List Field → List PK → Bool
  | _, [], [] => true
  | i, f :: fs, k :: ks => (f.name != "_") && (f.offset == i) && (match P.underlying f.type, k with | some (.int _), .int _ => true | some .string, .str => true | some .bool, .bool => true | _, _ => false) && eqTabF P (i + 1) fs ks
  | _, _, _ => false
def eqTab (P : Program) (t : TypeId) (ks : List PK) : Bool :=
  !P.eqGuardType P.depth t && !P.stoodInHeld t && (match P.underlying t with | some (.struct fs) => eqTabF P 0 fs.toList ks | _ => false)

def cellsEq : List AV → List AV → Bool
  | .int _ a :: xs, .int _ b :: ys => decide (a = b) && cellsEq xs ys
  | .str a :: xs, .str b :: ys => (a.toList == b.toList) && cellsEq xs ys
  | .bool a :: xs, .bool b :: ys => (a == b) && cellsEq xs ys
  | [], [] => true
  | _, _ => false

section
variable {P : Program} {w : World} {φ : Nat → Option Loc} {ok : Nat → Nat → Prop}

theorem run_partPlain {t : TypeId} {d : TypeDesc} (h : P.underlying t = some d) (hd : isAggK (kOf d) = false) {xs : Array Value} {off : Nat} {v : Value} (hx : xs[off]? = some v) : (part t xs off).run P w = .ok v w := by
  have h2 : (Go.isAgg t).run P w = .ok false w := by
    cases d <;> simp_all [Go.isAgg, run_underlying h, isAggK, kOf]
  simp only [part, Sem.run_bind, h2, Result.andThen_ok, Bool.false_eq_true, if_false, hx, Sem.run_pure]

theorem eqFields_ok {xs ys : Array Value} {n : Nat} : ∀ (fs : List Field) (ks : List PK) (i : Nat) (cs ds : List AV), eqTabF P i fs ks = true → cs.map AV.pk = ks.map some → ds.map AV.pk = ks.map some →
    (∀ (j : Nat) (x : AV), cs[j]? = some x → ∃ v, xs[i + j]? = some v ∧ Rep w φ ok x v) → (∀ (j : Nat) (x : AV), ds[j]? = some x → ∃ v, ys[i + j]? = some v ∧ Rep w φ ok x v) →
    (Op.eqFields (n + 1) xs ys fs).run P w = .ok (cellsEq cs ds) w
  | [], ks, i, cs, ds, h, hc, hd, _, _ => by
    cases ks with
    | cons k ks => simp [eqTabF] at h
    | nil =>
      simp only [List.map_nil, List.map_eq_nil_iff] at hc hd
      subst hc hd
      simp [Op.eqFields, cellsEq, Sem.run_pure]
  | f :: fs, ks, i, cs, ds, h, hc, hd, hX, hY => by
    cases ks with
    | nil => simp [eqTabF] at h
    | cons k ks =>
      simp only [eqTabF, Bool.and_eq_true, bne_iff_ne, ne_eq, beq_iff_eq] at h
      obtain ⟨⟨⟨h1, h2⟩, h3⟩, h4⟩ := h
      cases cs with
      | nil => simp at hc
      | cons c cs =>
      cases ds with
      | nil => simp at hd
      | cons d ds =>
      simp only [List.map_cons, List.cons.injEq] at hc hd
      obtain ⟨v, hv, rv⟩ := hX 0 c rfl
      obtain ⟨u, hu, ru⟩ := hY 0 d rfl
      rw [Nat.add_zero, ← h2] at hv hu
      have ih := eqFields_ok (n := n) fs ks (i + 1) cs ds h4 hc.2 hd.2 (fun j x e => by have := hX (j + 1) x e; rwa [show i + (j + 1) = i + 1 + j by omega] at this) (fun j x e => by have := hY (j + 1) x e; rwa [show i + (j + 1) = i + 1 + j by omega] at this)
      have step : ∀ {D : TypeDesc}, P.underlying f.type = some D → isAggK (kOf D) = false → ∀ {b : Bool}, (Op.equalIn (n + 1) f.type v u).run P w = .ok b w → (Op.eqFields (n + 1) xs ys (f :: fs)).run P w = .ok (b && cellsEq cs ds) w := by
        intro D hD hA b hb
        simp only [Op.eqFields, ne_eq, h1, not_false_eq_true, if_true, Sem.run_bind, run_partPlain hD hA hv, run_partPlain hD hA hu, Result.andThen_ok, hb]
        cases b
        · simp [Sem.run_pure]
        · simp [ih]
      obtain ⟨hc1, _⟩ := hc
      obtain ⟨hd1, _⟩ := hd
      split at h3
      · rename_i k' k2 hD
        cases c <;> simp only [AV.pk, Option.some.injEq, PK.int.injEq, reduceCtorEq] at hc1
        cases d <;> simp only [AV.pk, Option.some.injEq, PK.int.injEq, reduceCtorEq] at hd1
        subst hc1 hd1
        cases rv; cases ru
        exact step hD rfl (run_equalIn_int w n f.type _ k' _ _ hD)
      · rename_i hD
        cases c <;> simp only [AV.pk, Option.some.injEq, reduceCtorEq] at hc1
        cases d <;> simp only [AV.pk, Option.some.injEq, reduceCtorEq] at hd1
        cases rv; cases ru
        exact step hD rfl (run_equalIn_string w n f.type _ _ hD)
      · rename_i hD
        cases c <;> simp only [AV.pk, Option.some.injEq, reduceCtorEq] at hc1
        cases d <;> simp only [AV.pk, Option.some.injEq, reduceCtorEq] at hd1
        cases rv; cases ru
        exact step hD rfl (run_equalIn_bool' w n f.type _ _ hD)
      · cases h3

theorem equal_ok {t : TypeId} {ks : List PK} {cs ds : List AV} {u v : Value} (h : eqTab P t ks = true) (hc : cs.map AV.pk = ks.map some) (hd : ds.map AV.pk = ks.map some) (hu : Rep w φ ok (.agg cs) u) (hv : Rep w φ ok (.agg ds) v)
    {op : BinOp} {X Y : Operand} :
    ((do eqGuard op t X Y u v; binOp .eql t u v).run P w = .ok (.bool (cellsEq cs ds)) w ∧ (do eqGuard op t X Y u v; binOp .neq t u v).run P w = .ok (.bool (!cellsEq cs ds)) w) := by
  simp only [eqTab, Bool.and_eq_true, Bool.not_eq_true'] at h
  obtain ⟨⟨h1, h2⟩, h3⟩ := h
  split at h3
  · rename_i fs hfs
    cases hu with | agg _ xs hxl hxr =>
    cases hv with | agg _ ys hyl hyr =>
    have ht : P.underlying t = some (.struct (P.fieldsOf t)) := by rw [hfs]; simp [Program.fieldsOf, hfs]
    have hft : P.fieldsOf t = fs := by simp [Program.fieldsOf, hfs]
    have g1 : ∀ (j : Nat) (x : AV), cs[j]? = some x → ∃ v, xs[0 + j]? = some v ∧ Rep w φ ok x v := fun j x e => by
      have hj : j < xs.size := by rw [hxl]; exact (List.getElem?_eq_some_iff.1 e).1
      exact ⟨xs[j], by rw [Nat.zero_add]; simp [hj], hxr j x _ e (by simp [hj])⟩
    have g2 : ∀ (j : Nat) (x : AV), ds[j]? = some x → ∃ v, ys[0 + j]? = some v ∧ Rep w φ ok x v := fun j x e => by
      have hj : j < ys.size := by rw [hyl]; exact (List.getElem?_eq_some_iff.1 e).1
      exact ⟨ys[j], by rw [Nat.zero_add]; simp [hj], hyr j x _ e (by simp [hj])⟩
    have e : (Op.equalIn 10000 t (.agg xs) (.agg ys)).run P w = .ok (cellsEq cs ds) w := by
      rw [run_equalIn_struct w 9999 t xs ys ht h2, hft]
      exact eqFields_ok (n := 9998) fs.toList ks 0 cs ds h3 hc hd g1 g2
    constructor
    · simp only [Sem.run_bind, run_eqGuard_agg w op t X Y xs ys h1, Result.andThen_ok, run_eql_struct, e]
    · simp only [Sem.run_bind, run_eqGuard_agg w op t X Y xs ys h1, Result.andThen_ok, run_neq_struct, e]
  · cases h3
end

section
variable {P : Program} {ty : TypeId → Option TI} {n : Nat} {q : Bool} {ops l : List Oper} {env : List (Nat × AV)} {bx : List (Nat × Option Box)} {nx : Nat} {K : St → Prop}
  {d : Nat} {tp : TypeId} {pos : String} {aft : Array Edge} {x y : Operand} {t yt : TypeId} {cs ds : List AV}

theorem S_eqAgg (ks : List PK) {b : Bool} (hx : Gt env x (.agg cs)) (hy : Gt env y (.agg ds)) (h : eqTab P t ks = true) (hc : cs.map AV.pk = ks.map some) (hd : ds.map AV.pk = ks.map some) (hb : cellsEq cs ds = b) (hs : slotOk n (some d) = true)
    (hk : WX q P ty n ops l ⟨(d, .bool b) :: env, bx, nx⟩ K) : WX q P ty n ops (⟨some d, .binOp .eql t x y yt, tp, pos, aft, none⟩ :: l) ⟨env, bx, nx⟩ K := by
  subst hb
  refine S_QV hs (v := .bool (cellsEq cs ds)) ?_ hk
  have hn : ∀ bx', valStep ty bx' (St.get ⟨env, bx, nx⟩) (.binOp .eql t x y yt) = none := fun bx' => by simp [valStep, opVal, hx.get, hy.get, binVal]
  unfold QV
  rw [hn]
  refine ⟨hn, fun w φ ok o' ρ e hr => ?_⟩
  obtain ⟨dst, op, type, pos, after, guard⟩ := o'
  simp only at e
  subst e
  have h1 := hr x (by simp [Op.operands])
  have h2 := hr y (by simp [Op.operands])
  rw [hx.get] at h1
  rw [hy.get] at h2
  refine ⟨_, ?_, .bool (cellsEq cs ds)⟩
  simp only [execOp, Sem.run_bind, (equal_ok h hc hd h1 h2).1, Result.andThen_ok, Sem.run_pure]
end

end Go.Av
