/- A small logic for code over pictures of values and boxes: part 6. -/
import Derived.Test.YtmaginepopldnaaDoorGe
set_option linter.unusedSimpArgs false
set_option linter.unusedVariables false
namespace Go.Av

inductive Ren (ρ : Nat → Nat) : AV → AV → Prop
  | pure {x : AV} (h : Pure x) : Ren ρ x x
  | ptr (id e k : Nat) : Ren ρ (.ptr id e k) (.ptr (ρ id) e k)
  | sl (id off len cap : Nat) : Ren ρ (.sl id off len cap) (.sl (ρ id) off len cap)
  | agg {cs cs' : List AV} (hl : cs'.length = cs.length) (h : ∀ (i : Nat) (x x' : AV), cs[i]? = some x → cs'[i]? = some x' → Ren ρ x x') : Ren ρ (.agg cs) (.agg cs')
  | tup {cs cs' : List AV} (hl : cs'.length = cs.length) (h : ∀ (i : Nat) (x x' : AV), cs[i]? = some x → cs'[i]? = some x' → Ren ρ x x') : Ren ρ (.tup cs) (.tup cs')
  | fn (f : FuncId) {cs cs' : List AV} (hl : cs'.length = cs.length) (h : ∀ (i : Nat) (x x' : AV), cs[i]? = some x → cs'[i]? = some x' → Ren ρ x x') : Ren ρ (.fn f cs) (.fn f cs')

theorem Rep.ren {ρ : Nat → Nat} {w : World} {φ φ' : Nat → Option Loc} {ok : Nat → Nat → Prop} (hφ : ∀ id L, φ id = some L → φ' (ρ id) = some L) {x x' : AV} (r : Ren ρ x x') : ∀ {v : Value}, Rep w φ ok x v → Rep w φ' ok x' v := by
  induction r with
  | pure h => exact fun k => (h w φ ok _ k).mono (fun _ _ h => ⟨h, rfl⟩) (fun id L e => by cases e)
  | ptr id e k => intro v h; cases h with | ptr _ _ _ L h1 h2 => exact .ptr _ _ _ L (hφ _ _ h1) h2
  | sl id off len cap => intro v h; cases h with | sl _ _ _ _ L a c h1 h2 => exact .sl _ _ _ _ L a c (hφ _ _ h1) h2
  | agg hl _ ih =>
    intro v h
    cases h with | agg _ vs h1 h2 =>
    refine .agg _ vs (by omega) fun i x' v hx' hv => ?_
    rename_i cs cs' _
    have hi : i < cs.length := by rw [← hl]; exact (List.getElem?_eq_some_iff.1 hx').1
    exact ih i cs[i] x' (by simp) hx' (h2 i _ v (by simp) hv)
  | tup hl _ ih =>
    intro v h
    cases h with | tup _ vs h1 h2 =>
    refine .tup _ vs (by omega) fun i x' v hx' hv => ?_
    rename_i cs cs' _
    have hi : i < cs.length := by rw [← hl]; exact (List.getElem?_eq_some_iff.1 hx').1
    exact ih i cs[i] x' (by simp) hx' (h2 i _ v (by simp) hv)
  | fn f hl _ ih =>
    intro v h
    cases h with | fn _ _ vs h1 h2 =>
    refine .fn f _ vs (by omega) fun i x' v hx' hv => ?_
    rename_i cs cs' _
    have hi : i < cs.length := by rw [← hl]; exact (List.getElem?_eq_some_iff.1 hx').1
    exact ih i cs[i] x' (by simp) hx' (h2 i _ v (by simp) hv)

def RenL (ρ : Nat → Nat) : List AV → List AV → Prop
  | [], [] => True
  | a :: l, b :: r => Ren ρ a b ∧ RenL ρ l r
  | _, _ => False

theorem RenL.get {ρ : Nat → Nat} : ∀ {l r : List AV}, RenL ρ l r → r.length = l.length ∧ ∀ (i : Nat) (x x' : AV), l[i]? = some x → r[i]? = some x' → Ren ρ x x'
  | [], [], _ => ⟨rfl, fun i x x' h => by simp at h⟩
  | a :: l, b :: r, h => by
    obtain ⟨h1, h2⟩ := RenL.get h.2
    refine ⟨by simp [h1], fun i x x' e1 e2 => ?_⟩
    cases i with
    | zero => simp at e1 e2; subst e1; subst e2; exact h.1
    | succ i => simp at e1 e2; exact h2 i x x' e1 e2
  | [], _ :: _, h => h.elim
  | _ :: _, [], h => h.elim

theorem renL_nil {ρ : Nat → Nat} : RenL ρ [] [] := trivial
theorem renL_cons {ρ : Nat → Nat} {a b : AV} {l r : List AV} (h : Ren ρ a b) (k : RenL ρ l r) : RenL ρ (a :: l) (b :: r) := ⟨h, k⟩
theorem ren_agg {ρ : Nat → Nat} {cs cs' : List AV} (h : RenL ρ cs cs') : Ren ρ (.agg cs) (.agg cs') := .agg h.get.1 h.get.2
theorem ren_tup {ρ : Nat → Nat} {cs cs' : List AV} (h : RenL ρ cs cs') : Ren ρ (.tup cs) (.tup cs') := .tup h.get.1 h.get.2
theorem Ren.cellOk {ρ : Nat → Nat} {x x' : AV} (h : Ren ρ x x') : x'.cellOk = x.cellOk := by cases h <;> rfl

structure RenBox (ρ : Nat → Nat) (b b' : Box) : Prop where
  st : b'.st = b.st
  slack : b'.slack = b.slack
  ro : b'.ro = b.ro
  len : b'.elems.length = b.elems.length
  el : ∀ (i : Nat) (x x' : AV), b.elems[i]? = some x → b'.elems[i]? = some x' → RenL ρ x.cells x'.cells

def RenBs (ρ : Nat → Nat) : List (Nat × Option Box) → List (Nat × Option Box) → Prop
  | [], [] => True
  | (i, b) :: l, (j, b') :: r => j = ρ i ∧ (match b, b' with | none, none => True | some b, some b' => RenBox ρ b b' | _, _ => False) ∧ RenBs ρ l r
  | _, _ => False

theorem RenBs.box {ρ : Nat → Nat} (inj : ∀ a b, ρ a = ρ b → a = b) : ∀ {l r : List (Nat × Option Box)}, RenBs ρ l r → ∀ j b', box? r j = some b' → ∃ id b, j = ρ id ∧ box? l id = some b ∧ RenBox ρ b b'
  | [], [], _, j, b', h => by cases h
  | (i, b) :: l, (k, c) :: r, h, j, b', e => by
    obtain ⟨rfl, h2, h3⟩ := h
    rw [box?_cons] at e
    split at e
    · rename_i hk
      subst hk
      cases c with
      | none => cases e
      | some c =>
        cases e
        cases b with
        | none => exact h2.elim
        | some b => exact ⟨i, b, rfl, by rw [box?_cons, if_pos rfl], h2⟩
    · rename_i hk
      obtain ⟨id, b0, rfl, g2, g3⟩ := RenBs.box inj h3 j b' e
      exact ⟨id, b0, rfl, by rw [box?_cons, if_neg (fun hh => hk (by rw [hh]))]; exact g2, g3⟩
  | [], _ :: _, h, _, _, _ => h.elim
  | _ :: _, [], h, _, _, _ => h.elim

theorem renBs_nil {ρ : Nat → Nat} : RenBs ρ [] [] := trivial
theorem CR.at {P : Program} {f : FuncId} {args : List AV} {R0 R : AV → List (Nat × Option Box) → Nat → Prop} (N : Nat) (h : CR P f args [] 0 R0) (hp : PureAll args)
    (hren : ∀ r0 bs0 nx0, R0 r0 bs0 nx0 → ∃ r bs, Ren (N + ·) r0 r ∧ RenBs (N + ·) bs0 bs ∧ R r bs (N + nx0)) : CR P f args [] N R := by
  obtain ⟨hE, h⟩ := h
  refine ⟨hE, fun G φ w vs h0 h1 h2 hrel hA => ?_⟩
  subst h0
  subst h1
  have inj : ∀ a b : Nat, N + a = N + b → a = b := fun a b h => by omega
  have hrel1 : Rel ⟨G.w0, G.ok0, G.wr, G.n, NoLoc, 0⟩ [] 0 NoLoc G.w0 := by
    refine ⟨rfl, rfl, rfl, Nat.le_refl _, fun _ _ _ => rfl, fun _ _ _ => rfl, fun b o hk => ⟨(hrel.okk b o hk).1, fun id box L hb => (by cases hb)⟩, fun id b hb => (by cases hb), fun id id' b b' L L' hb => (by cases hb), fun _ _ => rfl, fun id hid => rfl, Nat.le_refl _⟩
  have hA1 : RepAll G.w0 NoLoc (OK ⟨G.w0, G.ok0, G.wr, G.n, NoLoc, 0⟩ [] NoLoc G.w0) args vs.toList := by
    refine ⟨hA.1, fun i x v e1 e2 => ?_⟩
    have hx := hp.mem x (List.mem_of_getElem? e1)
    exact (hx _ _ _ _ (hA.2 i x v e1 e2)).mono (fun b o hk => ⟨⟨hk.1, fun id box L hb => (by cases hb), hk.2.2⟩, rfl⟩) (fun id L e => e)
  refine (h ⟨G.w0, G.ok0, G.wr, G.n, NoLoc, 0⟩ NoLoc G.w0 vs rfl rfl rfl hrel1 hA1).mono ?_
  rintro e w' ⟨v, r0, bs0, nx0, φ1, rfl, hR, hrel', hr⟩
  obtain ⟨r, bs, hr1, hbs, hR'⟩ := hren r0 bs0 nx0 hR
  let φ' : Nat → Option Loc := fun id => if id < N then G.φ0 id else φ1 (id - N)
  have hφ' : ∀ id, φ' (N + id) = φ1 id := fun id => by simp only [φ']; rw [if_neg (by omega), Nat.add_sub_cancel_left]
  have hφ : ∀ id L, φ1 id = some L → φ' (N + id) = some L := fun id L e => by rw [hφ']; exact e
  have hok : ∀ b o, OK ⟨G.w0, G.ok0, G.wr, G.n, NoLoc, 0⟩ bs0 φ1 w' b o → OK G bs φ' w' b o := by
    intro b o hk
    refine ⟨hk.1, fun j box L hb hL hv hbl => ?_, hk.2.2⟩
    obtain ⟨id, b0, rfl, g2, g3⟩ := hbs.box inj j box hb
    rw [hφ'] at hL
    have := hk.2.1 id b0 L g2 hL hv hbl
    rw [g3.ro, g3.len]
    exact this
  have rep : ∀ {x x' : AV} {u : Value}, Ren (N + ·) x x' → Rep w' φ1 (OK ⟨G.w0, G.ok0, G.wr, G.n, NoLoc, 0⟩ bs0 φ1 w') x u → Rep w' φ' (OK G bs φ' w') x' u := fun hx hu =>
    (Rep.ren hφ hx hu).mono (fun b o hk => ⟨hok b o hk, rfl⟩) (fun id L e => e)
  refine ⟨v, r, bs, N + nx0, φ', rfl, hR', ?_, rep hr1 hr⟩
  refine ⟨hrel'.os, hrel'.tape, hrel'.output, hrel'.size, hrel'.frame, hrel'.kept, fun b o hk => ⟨(hrel'.okk b o hk).1, fun j box L hb hL hv hbl => ?_⟩, fun j b' hb => ?_, fun j j' b b' L L' hb hb' hne hL hL' hv hv' => ?_, fun id hid => ?_, fun id hid => ?_, ?_⟩
  · obtain ⟨id, b0, rfl, g2, g3⟩ := hbs.box inj j box hb
    rw [hφ'] at hL
    have := (hrel'.okk b o hk).2 id b0 L g2 hL hv hbl
    rw [g3.ro, g3.len]
    exact this
  · obtain ⟨id, b0, rfl, g2, g3⟩ := hbs.box inj j b' hb
    obtain ⟨L, hL, hB, hm⟩ := hrel'.box id b0 g2
    refine ⟨L, hφ _ _ hL, ⟨by rw [g3.st]; exact hB.st, by rw [g3.slack]; exact hB.slack, fun i x' hx' => ?_, fun hv => ?_, fun hv => ?_, fun hv i x' j y' hx' hy' => ?_⟩, hm⟩
    · have hi : i < b0.elems.length := by rw [← g3.len]; exact (List.getElem?_eq_some_iff.1 hx').1
      have hx : b0.elems[i]? = some b0.elems[i] := by simp
      have hc := (g3.el i _ x' hx hx').get
      have ho := hB.len i _ hx
      refine ⟨by rw [hc.1]; exact ho.1, fun y' hy' => ?_⟩
      obtain ⟨j, hj⟩ := List.mem_iff_getElem?.1 hy'
      have hjl : j < (b0.elems[i]).cells.length := by rw [← hc.1]; exact (List.getElem?_eq_some_iff.1 hj).1
      have hy : (b0.elems[i]).cells[j]? = some (b0.elems[i]).cells[j] := by simp
      rw [(hc.2 j _ y' hy hj).cellOk]
      exact ho.2 _ (List.mem_of_getElem? hy)
    · have := hB.virt hv
      have hl := g3.len
      rw [this] at hl
      exact List.length_eq_zero_iff.1 (by simpa using hl)
    · rw [g3.len]; exact hB.lies hv
    · have hi : i < b0.elems.length := by rw [← g3.len]; exact (List.getElem?_eq_some_iff.1 hx').1
      have hx : b0.elems[i]? = some b0.elems[i] := by simp
      have hc := (g3.el i _ x' hx hx').get
      have hjl : j < (b0.elems[i]).cells.length := by rw [← hc.1]; exact (List.getElem?_eq_some_iff.1 hy').1
      have hy : (b0.elems[i]).cells[j]? = some (b0.elems[i]).cells[j] := by simp
      obtain ⟨u, e1, e2⟩ := hB.cont hv i _ j _ hx hy
      exact ⟨u, e1, rep (hc.2 j _ y' hy hy') e2⟩
  · obtain ⟨id, b0, rfl, g2, g3⟩ := hbs.box inj j b hb
    obtain ⟨id', b0', rfl, g2', g3'⟩ := hbs.box inj j' b' hb'
    rw [hφ'] at hL hL'
    exact hrel'.apart id id' b0 b0' L L' g2 g2' (fun e => hne (by rw [e])) hL hL' hv hv'
  · simp only [φ']
    rw [if_neg (by omega)]
    exact hrel'.dom _ (by omega)
  · simp only [φ']
    rw [if_pos (by omega)]
  · omega

end Go.Av
namespace Go.Av

def Sub (G : Gh) (st st' : St) : Prop := ∀ φ a w, RelA G st φ a w → ∃ φ', RelA G st' φ' a w

theorem Weak.sub {G : Gh} {st st' : St} (h : Weak st st') : Sub G st st' := fun φ a w r => ⟨φ, r.weak h⟩
theorem Sub.refl (G : Gh) (st : St) : Sub G st st := fun φ a w r => ⟨φ, r⟩
theorem Sub.trans {G : Gh} {s t u : St} (h : Sub G s t) (k : Sub G t u) : Sub G s u := fun φ a w r => let ⟨φ', r'⟩ := h φ a w r; k φ' a w r'

theorem T_sub {P : Program} {G : Gh} {c : Code} {st st' : St} {Q : Exit → St → Prop} (k : Sub G st st') (h : T P G c st' Q) : T P G c st Q := fun φ a w r =>
  let ⟨φ', r'⟩ := k φ a w r
  h φ' a w r'

def againS (G : Gh) {α : Type} (mk : α → St) (m : α → Nat) (Inv : α → Prop) (x : α) (Q : Exit → St → Prop) : Exit → St → Prop
  | .normal, s => ∃ x', Sub G s (mk x') ∧ Inv x' ∧ m x' < m x
  | e, s => Q e s

section
variable {P : Program} {G : Gh} {st : St} {Q : Exit → St → Prop} {c : Code}

theorem N_againS {α : Type} {mk : α → St} {m : α → Nat} {Inv : α → Prop} {x : α} {s : St} (x' : α) (h1 : Sub G s (mk x')) (h2 : Inv x') (h3 : m x' < m x) : againS G mk m Inv x Q .normal s := ⟨x', h1, h2, h3⟩
theorem N_againSR {α : Type} {mk : α → St} {m : α → Nat} {Inv : α → Prop} {x : α} {s : St} (h : Q .ret s) : againS G mk m Inv x Q .ret s := h
theorem N_againSE {α : Type} {mk : α → St} {m : α → Nat} {Inv : α → Prop} {x : α} {s : St} {id : Nat} (h : Q (.exit id) s) : againS G mk m Inv x Q (.exit id) s := h

theorem T_roundsS {α : Type} (mk : α → St) (m : α → Nat) (Inv : α → Prop) (x0 : α) (hw : Sub G st (mk x0)) (h0 : Inv x0) (h : ∀ x, Inv x → T P G c (mk x) (againS G mk m Inv x Q)) : T P G (.loop c) st Q := by
  refine T_loop (fun k s => ∃ x, m x = k ∧ Inv x ∧ Sub G s (mk x)) (m x0) ⟨x0, rfl, h0, hw⟩ ?_
  rintro k s ⟨x, rfl, hi, hs⟩
  refine T_mono (T_sub hs (h x hi)) fun e s q => ?_
  cases e with
  | normal =>
    obtain ⟨x', h1, h2, h3⟩ := q
    exact ⟨m x', h3, x', rfl, h2, h1⟩
  | exit id => exact q
  | goto l => exact q
  | ret => exact q
  | panic c => exact q
  | outgrown => exact q
end

inductive Low (N : Nat) : AV → Prop
  | pure {x : AV} (h : Pure x) : Low N x
  | ptr (id e k : Nat) (h : id < N) : Low N (.ptr id e k)
  | sl (id off len cap : Nat) (h : id < N) : Low N (.sl id off len cap)
  | agg {cs : List AV} (h : ∀ y ∈ cs, Low N y) : Low N (.agg cs)
  | tup {cs : List AV} (h : ∀ y ∈ cs, Low N y) : Low N (.tup cs)

def cutφ (N : Nat) (φ : Nat → Option Loc) : Nat → Option Loc := fun id => if id < N then φ id else none

theorem Rep.low {N : Nat} {w : World} {φ : Nat → Option Loc} {ok : Nat → Nat → Prop} {x : AV} (r : Low N x) : ∀ {v : Value}, Rep w φ ok x v → Rep w (cutφ N φ) ok x v := by
  induction r with
  | pure h => exact fun k => (h w φ ok _ k).mono (fun _ _ h => ⟨h, rfl⟩) (fun id L e => by cases e)
  | ptr id e k hid => intro v h; cases h with | ptr _ _ _ L h1 h2 => exact .ptr _ _ _ L (by simp only [cutφ, if_pos hid]; exact h1) h2
  | sl id off len cap hid => intro v h; cases h with | sl _ _ _ _ L a c h1 h2 => exact .sl _ _ _ _ L a c (by simp only [cutφ, if_pos hid]; exact h1) h2
  | agg _ ih =>
    intro v h
    cases h with | agg _ vs h1 h2 =>
    exact .agg _ vs h1 fun i x v hx hv => ih x (List.mem_of_getElem? hx) (h2 i x v hx hv)
  | tup _ ih =>
    intro v h
    cases h with | tup _ vs h1 h2 =>
    exact .tup _ vs h1 fun i x v hx hv => ih x (List.mem_of_getElem? hx) (h2 i x v hx hv)

def LowE (N : Nat) : List (Nat × AV) → Prop
  | [] => True
  | (_, v) :: l => Low N v ∧ LowE N l
def LowB (N : Nat) : List (Nat × Option Box) → Prop
  | [] => True
  | (id, b) :: l => id < N ∧ (∀ b', b = some b' → ∀ x ∈ b'.elems, ∀ y ∈ x.cells, Low N y) ∧ LowB N l

theorem LowE.get {N : Nat} : ∀ {l : List (Nat × AV)}, LowE N l → ∀ t v, look l t = some v → Low N v
  | [], _, _, _, h => by cases h
  | (k, x) :: l, h, t, v, e => by
    simp only [look_cons] at e
    split at e
    · cases e; exact h.1
    · exact LowE.get h.2 t v e
theorem LowB.get {N : Nat} : ∀ {l : List (Nat × Option Box)}, LowB N l → ∀ id b, box? l id = some b → id < N ∧ ∀ x ∈ b.elems, ∀ y ∈ x.cells, Low N y
  | [], _, _, _, h => by cases h
  | (k, x) :: l, h, id, b, e => by
    rw [box?_cons] at e
    split at e
    · rename_i hk; subst hk; exact ⟨h.1, h.2.1 b e⟩
    · exact LowB.get h.2.2 id b e

theorem lowE_nil {N : Nat} : LowE N [] := trivial
theorem lowE_cons {N : Nat} {t : Nat} {v : AV} {l : List (Nat × AV)} (h : Low N v) (k : LowE N l) : LowE N ((t, v) :: l) := ⟨h, k⟩
end Go.Av
namespace Go.Av

theorem map_getD {α : Type} (f : α → AV) (xs : List α) (d : α) {k : Nat} (h : k < xs.length) : (xs.map f).getD ((k : Int)).toNat .undef = f (xs.getD k d) := by
  simp [List.getD, h]
end Go.Av
namespace Go.Av

end Go.Av
namespace Go.Av

def getO (env : List (Nat × AV)) : Operand → Option AV
  | .tmp t => look env t
  | .const (.int k n) => some (.int k n)
  | .const (.bool b) => some (.bool b)
  | .const (.string s) => some (.str s)
  | .const (.pointer none) => some .nilp
  | .const (.slice none 0 0) => some (.ls 0 true true [])
  | .func f => some (.fn f [])
  | _ => none

theorem gt_any {env : List (Nat × AV)} {x : Operand} {v : AV} (h : getO env x = some v) : Gt env x v := by
  unfold getO at h
  split at h
  · exact gt_tmp h
  all_goals first
    | (cases h; done)
    | (obtain rfl := Option.some.inj h; rfl)

end Go.Av
namespace Go.Av

end Go.Av
namespace Go.Av
section
variable {P : Program} {ty : TypeId → Option TI} {n : Nat} {q : Bool} {ops l : List Oper} {env : List (Nat × AV)} {bx : List (Nat × Option Box)} {nx : Nat} {K : St → Prop}
  {d : Nat} {tp : TypeId} {pos : String} {aft : Array Edge} {x : Operand}
theorem S_nilV {cs : List AV} (hx : Gt env x (.vp cs)) (hd : slotOk n (some d) = true) (h : WX q P ty n ops l ⟨(d, .vp cs) :: env, bx, nx⟩ K) : WX q P ty n ops (⟨some d, .nilCheck x, tp, pos, aft, none⟩ :: l) ⟨env, bx, nx⟩ K :=
  S_val hd (by simp only [valStep, opVal, hx.get]) trivial h
theorem S_nilP {id e k : Nat} (hx : Gt env x (.ptr id e k)) (hd : slotOk n (some d) = true) (h : WX q P ty n ops l ⟨(d, .ptr id e k) :: env, bx, nx⟩ K) : WX q P ty n ops (⟨some d, .nilCheck x, tp, pos, aft, none⟩ :: l) ⟨env, bx, nx⟩ K :=
  S_val hd (by simp only [valStep, opVal, hx.get]) trivial h
end
end Go.Av
namespace Go.Av

def KeepR (bx : List (Nat × Option Box)) : List (Nat × Option Box) → Prop
  | [] => True
  | (id, b) :: l => (∀ b', b = some b' → ∃ b0, box? bx id = some b0 ∧ b'.elems = b0.elems ∧ b'.st = b0.st ∧ b'.slack = b0.slack ∧ (b0.ro = true → b'.ro = true)) ∧ KeepR bx l

theorem KeepR.box {bx : List (Nat × Option Box)} : ∀ {l : List (Nat × Option Box)}, KeepR bx l → ∀ id b, box? l id = some b → ∃ b0, box? bx id = some b0 ∧ b.elems = b0.elems ∧ b.st = b0.st ∧ b.slack = b0.slack ∧ (b0.ro = true → b.ro = true)
  | [], _, _, _, h => by cases h
  | (k, x) :: l, h, id, b, e => by
    rw [box?_cons] at e
    split at e
    · rename_i e'; subst e'; exact h.1 b e
    · exact KeepR.box h.2 id b e

end Go.Av
