/- Functions entered and left. -/
import Derived.Test.YtgakkecaflppfaaAv21
set_option linter.unusedSimpArgs false
namespace Go.Av

def shareAll (bx : List (Nat × Option Box)) : List (Nat × Option Box) := bx.map fun p => (p.1, p.2.map fun b => { b with ro := true })

theorem box?_shareAll (bx : List (Nat × Option Box)) (id : Nat) : box? (shareAll bx) id = (box? bx id).map fun b => { b with ro := true } := by
  induction bx with
  | nil => rfl
  | cons a bx ih =>
    obtain ⟨k, b⟩ := a
    simp only [shareAll, List.map_cons, box?_cons] at ih ⊢
    split
    · rfl
    · exact ih

def argEnv : Nat → List AV → List (Nat × AV)
  | _, [] => []
  | k, a :: r => (k, a) :: argEnv (k + 1) r

theorem look_argEnv : ∀ (l : List AV) (k t : Nat) (v : AV), look (argEnv k l) t = some v → k ≤ t ∧ l[t - k]? = some v
  | [], k, t, v, h => by simp [argEnv, look] at h
  | a :: r, k, t, v, h => by
    simp only [argEnv, look_cons] at h
    split at h
    · rename_i e; subst e; simpa using h
    · rename_i e
      obtain ⟨h1, h2⟩ := look_argEnv r (k + 1) t v h
      refine ⟨by omega, ?_⟩
      rw [show t - k = (t - (k + 1)) + 1 by omega]
      simpa using h2

/-- What a result variable holds. -/
def resOne (ty : TypeId → Option TI) (st : St) : ResultVar → Option (Prop × AV)
  | .tmp t => (look st.env t).map fun v => (True, v)
  | .cell a t => match ty t, look st.env a with
    | some ti, some (.ptr id e k) => match box? st.bx id with
      | some b => some (e < b.elems.length ∧ (cut false ti (b.elems.getD e .undef).cells k).1, (cut false ti (b.elems.getD e .undef).cells k).2)
      | none => none
    | _, _ => none

def resList (ty : TypeId → Option TI) (st : St) : List ResultVar → Option (Prop × List AV)
  | [] => some (True, [])
  | r :: rs => match resOne ty st r, resList ty st rs with
    | some (p, x), some (q, xs) => some (p ∧ q, x :: xs)
    | _, _ => none

def oneOrTup : List AV → AV
  | [x] => x
  | xs => .tup xs

/-- The end of a function: its results, and what they are by value. -/
def retV (ty : TypeId → Option TI) (rs : List ResultVar) (R : AV → Prop) : Exit → St → Prop := fun e s =>
  (match e with | .normal | .ret => True | _ => False) ∧ ∃ p xs, resList ty s rs = some (p, xs) ∧ p ∧ Vw (shareAll s.bx) (oneOrTup xs) R

def retR (ty : TypeId → Option TI) (rs : List ResultVar) (R : AV → List (Nat × Option Box) → Nat → Prop) : Exit → St → Prop := fun e s =>
  (match e with | .normal | .ret => True | _ => False) ∧ ∃ p xs, resList ty s rs = some (p, xs) ∧ p ∧ R (oneOrTup xs) s.bx s.nx

/-- How a result variable is read. -/
def resFn (tmps : Array Value) : ResultVar → Sem Value
  | .tmp t => pure (tmps.getD t Go.undef)
  | .cell a t => do loadVar t (← asAddr (tmps.getD a Go.undef))

theorem results_eq (fn : Func) (tmps : Array Value) : results fn tmps = (do let vs ← fn.results.mapM (resFn tmps); pure (if h : vs.size = 1 then vs[0] else .tuple vs)) := by
  unfold results
  congr 1

section
variable {P : Program} {ty : TypeId → Option TI} {G : Gh} {st : St} {Q : Exit → St → Prop}

theorem resOne_ok (hty : TyOk P ty) {φ : Nat → Option Loc} {a : Act} {w : World} (hr : RelA G st φ a w) {r : ResultVar} {p : Prop} {x : AV} (h : resOne ty st r = some (p, x)) (hp : p) :
    ∃ v, (resFn a.tmps r).run P w = .ok v w ∧ Rep w φ (OK G st.bx φ w) x v := by
  cases r with
  | tmp t =>
    simp only [resOne] at h
    cases hl : look st.env t with
    | none => simp [hl] at h
    | some v =>
      simp only [hl, Option.map_some, Option.some.injEq, Prod.mk.injEq] at h
      obtain ⟨rfl, rfl⟩ := h
      exact ⟨_, rfl, (hr.env t v hl).2⟩
  | cell ad t =>
    simp only [resOne] at h
    split at h
    · rename_i ti id e k ht hl
      split at h
      · rename_i b hb
        simp only [Option.some.injEq, Prod.mk.injEq] at h
        obtain ⟨rfl, rfl⟩ := h
        have hu := (hr.env ad _ hl).2
        generalize hvv : a.tmps.getD ad Go.undef = u at hu
        obtain ⟨v, h1, h2⟩ := load_ok (P := P) hty hr.rel ht hb hu hp.1 hp.2
        cases hu with | ptr _ _ _ L hL hv =>
        refine ⟨v, ?_, h2⟩
        simp only [resFn, hvv]
        simpa [Instr.loadAt, Instr.sureAddr, asAddr] using h1
      · cases h
    · cases h

theorem resList_ok (hty : TyOk P ty) {φ : Nat → Option Loc} {a : Act} {w : World} (hr : RelA G st φ a w) : ∀ (rs : List ResultVar) (p : Prop) (xs : List AV), resList ty st rs = some (p, xs) → p →
    ∃ vs, (rs.mapM (resFn a.tmps)).run P w = .ok vs w ∧ RepAll w φ (OK G st.bx φ w) xs vs
  | [], p, xs, h, hp => by
    simp only [resList, Option.some.injEq, Prod.mk.injEq] at h
    obtain ⟨_, rfl⟩ := h
    exact ⟨[], rfl, rfl, fun i x v h => by simp at h⟩
  | r :: rs, p, xs, h, hp => by
    simp only [resList] at h
    split at h
    · rename_i p1 x q ys h1 h2
      simp only [Option.some.injEq, Prod.mk.injEq] at h
      obtain ⟨rfl, rfl⟩ := h
      obtain ⟨v, e1, e2⟩ := resOne_ok (P := P) hty hr h1 hp.1
      obtain ⟨vs, e3, e4⟩ := resList_ok hty hr rs q ys h2 hp.2
      refine ⟨v :: vs, ?_, by simp [e4.1], fun i a b ha hb => ?_⟩
      · simp only [List.mapM_cons, Sem.run_bind, e1, Result.andThen_ok, e3, Sem.run_pure]
      · cases i with
        | zero => simp at ha hb; subst ha; subst hb; exact e2
        | succ i => exact e4.2 i a b (by simpa using ha) (by simpa using hb)
    · cases h

theorem results_ok (hty : TyOk P ty) {φ : Nat → Option Loc} {a : Act} {w : World} (hr : RelA G st φ a w) {fn : Func} {p : Prop} {xs : List AV} (h : resList ty st fn.results.toList = some (p, xs)) (hp : p) :
    ∃ v, (results fn a.tmps).run P w = .ok v w ∧ Rep w φ (OK G st.bx φ w) (oneOrTup xs) v := by
  obtain ⟨vs, h1, h2⟩ := resList_ok (P := P) hty hr _ p xs h hp
  have hrun : (results fn a.tmps).run P w = .ok (if h : vs.toArray.size = 1 then vs.toArray[0] else .tuple vs.toArray) w := by
    rw [results_eq, Array.mapM_eq_mapM_toList]
    simp only [Sem.run_bind, Sem.run_map, h1, Result.andThen_ok, Sem.run_pure]
  refine ⟨_, hrun, ?_⟩
  cases xs with
  | nil =>
    obtain rfl : vs = [] := List.length_eq_zero_iff.1 h2.1
    simp only [oneOrTup]
    exact .tup [] #[] rfl (fun i x v h => by simp at h)
  | cons x xs =>
    cases xs with
    | nil =>
      obtain ⟨v, rfl⟩ : ∃ v, vs = [v] := by
        have := h2.1
        cases vs with
        | nil => simp at this
        | cons v vs =>
          simp at this
          have e : vs = [] := List.length_eq_zero_iff.1 (by simpa using this)
          exact ⟨v, by rw [e]⟩
      simp only [oneOrTup]
      exact h2.2 0 x v rfl rfl
    | cons y xs =>
      have hl : vs.toArray.size ≠ 1 := by
        have := h2.1
        simp at this ⊢
        omega
      rw [dif_neg hl]
      exact .tup _ _ (by simp [h2.1]) (fun i a b ha hb => h2.2 i a b ha (by simpa using hb))

theorem entry {args : List AV} {vs : Array Value} {n nx : Nat} {bs : List (Nat × Option Box)} {φ : Nat → Option Loc} {w : World} (hrel : Rel G bs nx φ w) (hG : G.n = n) (hA : RepAll w φ (OK G bs φ w) args vs.toList) (hn : args.length ≤ n) :
    RelA G ⟨argEnv 0 args, bs, nx⟩ φ { tmps := vs ++ Array.replicate (n - vs.size) Go.undef, defers := [] } w := by
  have hvl : vs.size = args.length := by have := hA.1; simpa using this
  refine ⟨hrel, rfl, by simp [hG]; omega, fun t v h => ?_⟩
  obtain ⟨_, h2⟩ := look_argEnv args 0 t v h
  rw [Nat.sub_zero] at h2
  have hlt := (List.getElem?_eq_some_iff.1 h2).1
  refine ⟨by omega, ?_⟩
  have hvt : vs[t]? = some vs[t] := Array.getElem?_eq_getElem (by omega)
  have e : (vs ++ Array.replicate (n - vs.size) Go.undef).getD t Go.undef = vs[t] := by
    rw [Array.getD_eq_getD_getElem?, Array.getElem?_append_left (by omega), hvt]
    rfl
  simp only [e]
  exact hA.2 t v _ h2 (by rw [Array.getElem?_toList]; exact hvt)

/-- A function's contract, by value. -/
theorem CV_intro (hty : TyOk P ty) {f : FuncId} {fn : Func} {c : Code} {args : List AV} {R : AV → Prop} (hf : P.funcs[f]? = some fn) (hname : (fn.name == "runtime.NumGoroutine") = false) (hb : fn.body = some c)
    (n : Nat) (hn : fn.ntmps = n) (hargs : args.length ≤ n) (rs : List ResultVar) (hrs : fn.results.toList = rs)
    (h : ∀ w0 ok0, T P ⟨w0, ok0, fun _ => False, n, NoLoc, 0⟩ c ⟨argEnv 0 args, [], 0⟩ (retV ty rs R)) : CV P f args R := by
  refine ⟨⟨fn, hf, hname, by rw [hb]; rfl⟩, fun ok0 w vs hok hA => ?_⟩
  let G : Gh := ⟨w, ok0, fun _ => False, n, NoLoc, 0⟩
  have hrel : Rel G [] 0 NoLoc w := by
    constructor
    · rfl
    · rfl
    · rfl
    · exact Nat.le_refl _
    · exact fun _ _ _ => rfl
    · exact fun _ _ _ => rfl
    · exact fun b o k => ⟨hok b o k, fun id box L h => by simp [box?, look] at h⟩
    · intro id b h; simp [box?, look] at h
    · intro id id' b b' L L' h; simp [box?, look] at h
    · exact fun _ _ => rfl
    · exact fun _ _ => rfl
    · exact Nat.le_refl _
  have hA' : RepAll w NoLoc (OK G [] NoLoc w) args vs.toList :=
    ⟨hA.1, fun i x v hx hv => (hA.2 i x v hx hv).mono (fun b o k => ⟨⟨hok b o k, fun id box L h => (by simp [box?, look] at h), fun _ => .inl k⟩, rfl⟩) (fun _ _ h => h)⟩
  refine calls_of_wp hf hb ?_
  rw [hn]
  refine wp_mono (h w ok0 NoLoc _ w (entry (G := G) hrel rfl hA' hargs)) ?_
  rintro e a' w' ⟨s, φ, ⟨he, p, xs, hl, hp, hV⟩, hr⟩
  have hend : a'.defers = [] ∧ ∃ v, (results fn a'.tmps).run P w' = .ok v w' ∧
      ∃ v1 r, Ending.returned v = .returned v1 ∧ R r ∧ Ext w w' ∧ Rep w' NoLoc (fun b o => b < w'.heap.size ∧ (b < w.heap.size → ok0 b o)) r v1 := by
    refine ⟨hr.defers, ?_⟩
    obtain ⟨v, h1, h2⟩ := results_ok (P := P) hty hr (by rw [hrs]; exact hl) hp
    refine ⟨v, h1, v, ?_⟩
    have hW := hr.rel.weaken (bx' := shareAll s.bx) (Nat.le_refl _) (fun id b' h => by
      rw [box?_shareAll] at h
      simp only [Option.map_eq_some_iff] at h
      obtain ⟨b, h1, rfl⟩ := h
      exact ⟨b, h1, rfl, rfl, rfl, fun _ => rfl⟩)
    obtain ⟨r, hR, hrep⟩ := hV G _ φ w' v hW.rel (hW.rep h2)
    refine ⟨r, rfl, hR, ⟨hr.rel.os, hr.rel.tape, hr.rel.output, hr.rel.size, fun b hb => hr.rel.frame b hb (fun h => h)⟩, hrep.mono (fun b o k => ⟨⟨k.1, fun hlt => ?_⟩, rfl⟩) (fun _ _ h => h)⟩
    rcases k.2.2 hlt with k | k
    · exact k
    · exact k.elim
  cases e with
  | normal => exact hend
  | ret => exact hend
  | exit id => exact he.elim
  | goto l => exact he.elim
  | panic c => exact he.elim
  | outgrown => exact he.elim

/-- A function's contract, with boxes that are lent. -/
theorem CR_intro (hty : TyOk P ty) {f : FuncId} {fn : Func} {c : Code} {args : List AV} {bs : List (Nat × Option Box)} {nx : Nat} {R : AV → List (Nat × Option Box) → Nat → Prop} (hf : P.funcs[f]? = some fn)
    (hname : (fn.name == "runtime.NumGoroutine") = false) (hb : fn.body = some c) (n : Nat) (hn : fn.ntmps = n) (hargs : args.length ≤ n) (rs : List ResultVar) (hrs : fn.results.toList = rs)
    (h : ∀ w0 ok0 wr φ0, T P ⟨w0, ok0, wr, n, φ0, nx⟩ c ⟨argEnv 0 args, bs, nx⟩ (retR ty rs R)) : CR P f args bs nx R := by
  refine ⟨⟨fn, hf, hname, by rw [hb]; rfl⟩, fun G φ w vs h0 h1 h2 hrel hA => ?_⟩
  subst h0; subst h1; subst h2
  have hrel' : Rel ⟨G.w0, G.ok0, G.wr, n, G.φ0, G.nx0⟩ bs G.nx0 G.φ0 G.w0 := ⟨hrel.os, hrel.tape, hrel.output, hrel.size, hrel.frame, hrel.kept, hrel.okk, hrel.box, hrel.apart, hrel.dom, hrel.agree, hrel.nxle⟩
  refine calls_of_wp hf hb ?_
  rw [hn]
  refine wp_mono (h G.w0 G.ok0 G.wr G.φ0 G.φ0 _ G.w0 (entry (G := ⟨G.w0, G.ok0, G.wr, n, G.φ0, G.nx0⟩) hrel' rfl hA hargs)) ?_
  rintro e a' w' ⟨s, φ, ⟨he, p, xs, hl, hp, hR⟩, hr⟩
  have hend : a'.defers = [] ∧ ∃ v, (results fn a'.tmps).run P w' = .ok v w' ∧
      ∃ v1 r bs' nx' φ', Ending.returned v = .returned v1 ∧ R r bs' nx' ∧ Rel G bs' nx' φ' w' ∧ Rep w' φ' (OK G bs' φ' w') r v1 := by
    refine ⟨hr.defers, ?_⟩
    obtain ⟨v, h1, h2⟩ := results_ok (P := P) hty hr (by rw [hrs]; exact hl) hp
    have hx := hr.rel
    exact ⟨v, h1, v, _, s.bx, s.nx, φ, rfl, hR, ⟨hx.os, hx.tape, hx.output, hx.size, hx.frame, hx.kept, hx.okk, hx.box, hx.apart, hx.dom, hx.agree, hx.nxle⟩, h2⟩
  cases e with
  | normal => exact hend
  | ret => exact hend
  | exit id => exact he.elim
  | goto l => exact he.elim
  | panic c => exact he.elim
  | outgrown => exact he.elim
end

end Go.Av
