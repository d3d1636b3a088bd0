/- Pictures that follow from one another; boxes of a round dropped at its end. -/
import Derived.Test.YtgakkecaflppfaaAv35
set_option linter.unusedSimpArgs false
set_option linter.unusedVariables false
namespace Go.Av

/-- What the first picture tells, the second does. -/
def Sub (G : Gh) (st st' : St) : Prop := ∀ φ a w, RelA G st φ a w → ∃ φ', RelA G st' φ' a w

theorem Weak.sub {G : Gh} {st st' : St} (h : Weak st st') : Sub G st st' := fun φ a w r => ⟨φ, r.weak h⟩
theorem Sub.refl (G : Gh) (st : St) : Sub G st st := fun φ a w r => ⟨φ, r⟩
theorem Sub.trans {G : Gh} {s t u : St} (h : Sub G s t) (k : Sub G t u) : Sub G s u := fun φ a w r => let ⟨φ', r'⟩ := h φ a w r; k φ' a w r'

theorem T_sub {P : Program} {G : Gh} {c : Code} {st st' : St} {Q : Exit → St → Prop} (k : Sub G st st') (h : T P G c st' Q) : T P G c st Q := fun φ a w r =>
  let ⟨φ', r'⟩ := k φ a w r
  h φ' a w r'

def againS (G : Gh) {α : Type} (mk : α → St) (m : α → Nat) (Inv : α → Prop) (x : α) (Q : Exit → St → Prop) : Exit → St → Prop
  | .normal, s => ∃ x', Sub G s (mk x') ∧ Inv x' ∧ m x' < m x
  | e, s => Q e s

section
variable {P : Program} {G : Gh} {st : St} {Q : Exit → St → Prop} {c : Code}

theorem N_againS {α : Type} {mk : α → St} {m : α → Nat} {Inv : α → Prop} {x : α} {s : St} (x' : α) (h1 : Sub G s (mk x')) (h2 : Inv x') (h3 : m x' < m x) : againS G mk m Inv x Q .normal s := ⟨x', h1, h2, h3⟩
theorem N_againSR {α : Type} {mk : α → St} {m : α → Nat} {Inv : α → Prop} {x : α} {s : St} (h : Q .ret s) : againS G mk m Inv x Q .ret s := h
theorem N_againSE {α : Type} {mk : α → St} {m : α → Nat} {Inv : α → Prop} {x : α} {s : St} {id : Nat} (h : Q (.exit id) s) : againS G mk m Inv x Q (.exit id) s := h

/-- Rounds, a round's end being any picture from which the head's follows. -/
theorem T_roundsS {α : Type} (mk : α → St) (m : α → Nat) (Inv : α → Prop) (x0 : α) (hw : Sub G st (mk x0)) (h0 : Inv x0) (h : ∀ x, Inv x → T P G c (mk x) (againS G mk m Inv x Q)) : T P G (.loop c) st Q := by
  refine T_loop (fun k s => ∃ x, m x = k ∧ Inv x ∧ Sub G s (mk x)) (m x0) ⟨x0, rfl, h0, hw⟩ ?_
  rintro k s ⟨x, rfl, hi, hs⟩
  refine T_mono (T_sub hs (h x hi)) fun e s q => ?_
  cases e with
  | normal =>
    obtain ⟨x', h1, h2, h3⟩ := q
    exact ⟨m x', h3, x', rfl, h2, h1⟩
  | exit id => exact q
  | goto l => exact q
  | ret => exact q
  | panic c => exact q
  | outgrown => exact q
end

/-- It names no box from N on. -/
inductive Low (N : Nat) : AV → Prop
  | pure {x : AV} (h : Pure x) : Low N x
  | ptr (id e k : Nat) (h : id < N) : Low N (.ptr id e k)
  | sl (id off len cap : Nat) (h : id < N) : Low N (.sl id off len cap)
  | agg {cs : List AV} (h : ∀ y ∈ cs, Low N y) : Low N (.agg cs)
  | tup {cs : List AV} (h : ∀ y ∈ cs, Low N y) : Low N (.tup cs)

def cutφ (N : Nat) (φ : Nat → Option Loc) : Nat → Option Loc := fun id => if id < N then φ id else none

theorem Rep.low {N : Nat} {w : World} {φ : Nat → Option Loc} {ok : Nat → Nat → Prop} {x : AV} (r : Low N x) : ∀ {v : Value}, Rep w φ ok x v → Rep w (cutφ N φ) ok x v := by
  induction r with
  | pure h => exact fun k => (h w φ ok _ k).mono (fun _ _ h => ⟨h, rfl⟩) (fun id L e => by cases e)
  | ptr id e k hid => intro v h; cases h with | ptr _ _ _ L h1 h2 => exact .ptr _ _ _ L (by simp only [cutφ, if_pos hid]; exact h1) h2
  | sl id off len cap hid => intro v h; cases h with | sl _ _ _ _ L a c h1 h2 => exact .sl _ _ _ _ L a c (by simp only [cutφ, if_pos hid]; exact h1) h2
  | agg _ ih =>
    intro v h
    cases h with | agg _ vs h1 h2 =>
    exact .agg _ vs h1 fun i x v hx hv => ih x (List.mem_of_getElem? hx) (h2 i x v hx hv)
  | tup _ ih =>
    intro v h
    cases h with | tup _ vs h1 h2 =>
    exact .tup _ vs h1 fun i x v hx hv => ih x (List.mem_of_getElem? hx) (h2 i x v hx hv)

def LowE (N : Nat) : List (Nat × AV) → Prop
  | [] => True
  | (_, v) :: l => Low N v ∧ LowE N l
def LowB (N : Nat) : List (Nat × Option Box) → Prop
  | [] => True
  | (id, b) :: l => id < N ∧ (∀ b', b = some b' → ∀ x ∈ b'.elems, ∀ y ∈ x.cells, Low N y) ∧ LowB N l

theorem LowE.get {N : Nat} : ∀ {l : List (Nat × AV)}, LowE N l → ∀ t v, look l t = some v → Low N v
  | [], _, _, _, h => by cases h
  | (k, x) :: l, h, t, v, e => by
    simp only [look_cons] at e
    split at e
    · cases e; exact h.1
    · exact LowE.get h.2 t v e
theorem LowB.get {N : Nat} : ∀ {l : List (Nat × Option Box)}, LowB N l → ∀ id b, box? l id = some b → id < N ∧ ∀ x ∈ b.elems, ∀ y ∈ x.cells, Low N y
  | [], _, _, _, h => by cases h
  | (k, x) :: l, h, id, b, e => by
    rw [box?_cons] at e
    split at e
    · rename_i hk; subst hk; exact ⟨h.1, h.2.1 b e⟩
    · exact LowB.get h.2.2 id b e

theorem lowE_nil {N : Nat} : LowE N [] := trivial
theorem lowE_cons {N : Nat} {t : Nat} {v : AV} {l : List (Nat × AV)} (h : Low N v) (k : LowE N l) : LowE N ((t, v) :: l) := ⟨h, k⟩
theorem lowB_nil {N : Nat} : LowB N [] := trivial
theorem lowB_cons {N id : Nat} {b : Box} {l : List (Nat × Option Box)} (hid : id < N) (h : ∀ x ∈ b.elems, ∀ y ∈ x.cells, Low N y) (k : LowB N l) : LowB N ((id, some b) :: l) := ⟨hid, fun b' e => by cases e; exact h, k⟩

/-- Boxes that nothing names any more are dropped, and their numbers are free again. -/
theorem sub_drop {G : Gh} {st : St} {env : List (Nat × AV)} {bx : List (Nat × Option Box)} {N : Nat} (h1 : KeepE st.env env) (h2 : KeepB st.bx bx) (h3 : LowE N env) (h4 : LowB N bx) (h5 : G.nx0 ≤ N) : Sub G st ⟨env, bx, N⟩ := by
  intro φ a w r
  have R := r.rel
  have hok : ∀ b o, OK G st.bx φ w b o → OK G bx (cutφ N φ) w b o := by
    intro b o hk
    refine ⟨hk.1, fun id box L hb hL hv hbl => ?_, hk.2.2⟩
    have hid := (h4.get id box hb).1
    simp only [cutφ, if_pos hid] at hL
    exact hk.2.1 id box L (h2.box id box hb) hL hv hbl
  have rep : ∀ {x : AV} {u : Value}, Low N x → Rep w φ (OK G st.bx φ w) x u → Rep w (cutφ N φ) (OK G bx (cutφ N φ) w) x u := fun hx hu =>
    (Rep.low hx hu).mono (fun b o hk => ⟨hok b o hk, rfl⟩) (fun id L e => e)
  refine ⟨cutφ N φ, ⟨R.os, R.tape, R.output, R.size, R.frame, R.kept, fun b o hk => ⟨(R.okk b o hk).1, fun id box L hb hL hv hbl => ?_⟩, fun id b hb => ?_, fun id id' b b' L L' hb hb' hne hL hL' hv hv' => ?_, fun id hid => ?_, fun id hid => ?_, h5⟩, r.defers, r.sz, fun t v hv => ?_⟩
  · have hid := (h4.get id box hb).1
    simp only [cutφ, if_pos hid] at hL
    exact (R.okk b o hk).2 id box L (h2.box id box hb) hL hv hbl
  · obtain ⟨hid, hlow⟩ := h4.get id b hb
    obtain ⟨L, hL, hB, hm⟩ := R.box id b (h2.box id b hb)
    refine ⟨L, by simp only [cutφ, if_pos hid]; exact hL, ⟨hB.st, hB.slack, hB.len, hB.virt, hB.lies, fun hv i x j y hx hy => ?_⟩, hm⟩
    obtain ⟨u, e1, e2⟩ := hB.cont hv i x j y hx hy
    exact ⟨u, e1, rep (hlow x (List.mem_of_getElem? hx) y (List.mem_of_getElem? hy)) e2⟩
  · have hid := (h4.get id b hb).1
    have hid' := (h4.get id' b' hb').1
    simp only [cutφ, if_pos hid, if_pos hid'] at hL hL'
    exact R.apart id id' b b' L L' (h2.box id b hb) (h2.box id' b' hb') hne hL hL' hv hv'
  · have : ¬ id < N := by simp only at hid; omega
    simp only [cutφ, if_neg this]
  · simp only [cutφ, if_pos (show id < N by omega)]
    exact R.agree id hid
  · obtain ⟨e1, e2⟩ := r.env t v (h1.look t v hv)
    exact ⟨e1, rep (h3.get t v hv) e2⟩

end Go.Av
