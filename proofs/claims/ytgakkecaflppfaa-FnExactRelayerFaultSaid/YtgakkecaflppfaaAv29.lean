/- More steps: structs built, numbers in range, guards that say no. -/
import Derived.Test.YtgakkecaflppfaaAv28
set_option linter.unusedSimpArgs false
set_option linter.unusedVariables false
namespace Go.Av

theorem wrap_i64 {x : Int} (h1 : -9223372036854775808 ≤ x) (h2 : x ≤ 9223372036854775807) : IntKind.wrap .i64 x = x := by
  have e : (2 : Int) ^ 64 = 18446744073709551616 := by decide
  have e' : (2 : Int) ^ 63 = 9223372036854775808 := by decide
  simp only [IntKind.wrap, IntKind.bits, IntKind.signed, Bool.true_and, decide_eq_true_eq, e, e', Nat.reduceSub]
  split <;> omega

theorem wrap_u8 {x : Int} (h1 : 0 ≤ x) (h2 : x ≤ 255) : IntKind.wrap .u8 x = x := by
  simp only [IntKind.wrap, IntKind.bits, IntKind.signed, Bool.false_and]
  simp
  omega

theorem wrap_u64 {x : Int} (h1 : 0 ≤ x) (h2 : x ≤ 18446744073709551615) : IntKind.wrap .u64 x = x := by
  simp only [IntKind.wrap, IntKind.bits, IntKind.signed, Bool.false_and]
  simp
  omega

/-- Some cells of a list, turned. -/
inductive SetLs : List AV → Nat → List AV → List AV → Prop
  | nil (l : List AV) : SetLs l 0 [] l
  | here {l l' xs : List AV} (a x : AV) : SetLs l 0 xs l' → SetLs (a :: l) 0 (x :: xs) (x :: l')
  | skip {l l' xs : List AV} {k : Nat} (a : AV) : SetLs l k xs l' → SetLs (a :: l) (k + 1) xs (a :: l')

theorem SetLs.eq {l xs l' : List AV} {k : Nat} (h : SetLs l k xs l') : k + xs.length ≤ l.length ∧ splice l k xs = l' := by
  induction h with
  | nil l => simp [splice]
  | here a x _ ih => obtain ⟨h1, h2⟩ := ih; simp only [splice] at h2 ⊢; simp at h1 h2 ⊢; exact ⟨h1, h2⟩
  | skip a _ ih =>
    obtain ⟨h1, h2⟩ := ih
    refine ⟨by simp; omega, ?_⟩
    rw [← h2]
    simp [splice, show ∀ (k m : Nat), k + 1 + m = (k + m) + 1 from fun k m => by omega]

inductive BuildR (ty : TypeId → Option TI) (fs : List (Nat × TypeId)) : List (Nat × AV) → List AV → List AV → Prop
  | nil (cs : List AV) : BuildR ty fs [] cs cs
  | cons {i off : Nat} {ft : TypeId} {fi : TI} {x : AV} {xs cs cs' cs'' : List AV} {r : List (Nat × AV)} (hf : fs[i]? = some (off, ft)) (ht : ty ft = some fi) (hx : x.cells = xs) (hl : xs.length = fi.size) (hu : x ≠ .undef)
      (hs : SetLs cs off xs cs') (k : BuildR ty fs r cs' cs'') : BuildR ty fs ((i, x) :: r) cs cs''

theorem BuildR.fill {ty : TypeId → Option TI} {fs : List (Nat × TypeId)} {ps : List (Nat × AV)} {cs cs' : List AV} (h : BuildR ty fs ps cs cs') : ∃ p, fillS ty fs ps cs = some (p, cs') ∧ p := by
  induction h with
  | nil cs => exact ⟨True, rfl, trivial⟩
  | cons hf ht hx hl hu hs _ ih =>
    obtain ⟨p, h1, h2⟩ := ih
    obtain ⟨e1, e2⟩ := hs.eq
    subst hx
    rw [hl] at e1
    rename_i x _ cs _ _ _
    exact ⟨_, by simp only [fillS, hf, ht, e2, h1], And.intro (And.intro hl (And.intro e1 hu)) h2⟩

def GtsP (env : List (Nat × AV)) : List (Nat × Operand) → List (Nat × AV) → Prop
  | [], [] => True
  | (i, x) :: l, (j, v) :: r => i = j ∧ Gt env x v ∧ GtsP env l r
  | _, _ => False

theorem gtsP_nil {env : List (Nat × AV)} : GtsP env [] [] := trivial
theorem gtsP_cons {env : List (Nat × AV)} {i : Nat} {x : Operand} {l : List (Nat × Operand)} {v : AV} {r : List (Nat × AV)} (h : Gt env x v) (k : GtsP env l r) : GtsP env ((i, x) :: l) ((i, v) :: r) := ⟨rfl, h, k⟩

theorem GtsP.map {env : List (Nat × AV)} (bx : List (Nat × Option Box)) (nx : Nat) : ∀ {l : List (Nat × Operand)} {r : List (Nat × AV)}, GtsP env l r → (l.map fun p => (p.1, St.get ⟨env, bx, nx⟩ p.2)) = r
  | [], [], _ => rfl
  | (i, x) :: l, (j, v) :: r, h => by obtain ⟨rfl, h1, h2⟩ := h; simp [h1.get, GtsP.map bx nx h2]
  | [], _ :: _, h => h.elim
  | _ :: _, [], h => h.elim

section
variable {P : Program} {ty : TypeId → Option TI} {n : Nat} {q : Bool} {ops l : List Oper} {env : List (Nat × AV)} {bx : List (Nat × Option Box)} {nx : Nat} {K : St → Prop}
  {d : Nat} {tp : TypeId} {pos : String} {aft : Array Edge} {t : TypeId}

theorem S_build {ps : List (Nat × Operand)} {vs : List (Nat × AV)} {ti : TI} {fs : List (Nat × TypeId)} {cs : List AV} (ht : ty t = some ti) (hk : ti.k = .struct fs) (hall : (fs.all fun f => (ty f.2).isSome) = true) (hg : GtsP env ps vs)
    (hb : BuildR ty fs vs ti.zero cs) (hd : slotOk n (some d) = true) (h : WX q P ty n ops l ⟨(d, .agg cs) :: env, bx, nx⟩ K) :
    WX q P ty n ops (⟨some d, .build t ps.toArray, tp, pos, aft, none⟩ :: l) ⟨env, bx, nx⟩ K := by
  obtain ⟨p, h1, h2⟩ := hb.fill
  refine S_val hd (p := p) (r := .agg cs) ?_ h2 h
  simp only [valStep, opVal, ht, hk, hall, if_true, hg.map bx nx, h1, Option.map_some]

theorem S_gtF' {op : Op} {j t : Nat} (hd : slotOk n (some d) = true) (hs : guardSlotL ops j = some t) {b : Bool} (hb : look env t = some (.bool b)) (e : b = false)
    (h : WX q P ty n ops l ⟨(d, .undef) :: env, bx, nx⟩ K) : WX q P ty n ops (⟨some d, op, tp, pos, aft, some (j, true)⟩ :: l) ⟨env, bx, nx⟩ K := S_gtF hd hs hb e h
theorem S_gfT' {op : Op} {j t : Nat} (hd : slotOk n (some d) = true) (hs : guardSlotL ops j = some t) {b : Bool} (hb : look env t = some (.bool b)) (e : b = true)
    (h : WX q P ty n ops l ⟨(d, .undef) :: env, bx, nx⟩ K) : WX q P ty n ops (⟨some d, op, tp, pos, aft, some (j, false)⟩ :: l) ⟨env, bx, nx⟩ K := S_gfT hd hs hb e h

theorem S_shlW {x y : Operand} {k k' : IntKind} {a b c : Int} {yt : TypeId} (hx : Gt env x (.int k a)) (hy : Gt env y (.int k' b)) (hd : slotOk n (some d) = true) (hb : 0 ≤ b) (hw : k.wrap (a * 2 ^ min b.toNat k.bits) = c)
    (h : WX q P ty n ops l ⟨(d, .int k c) :: env, bx, nx⟩ K) : WX q P ty n ops (⟨some d, .binOp .shl t x y yt, tp, pos, aft, none⟩ :: l) ⟨env, bx, nx⟩ K := by
  subst hw
  exact S_shl hx hy hd hb h

theorem S_boolEq {x y : Operand} {a b : Bool} {yt : TypeId} (ht : (ty t).map TI.k = some .bool) (hx : Gt env x (.bool a)) (hy : Gt env y (.bool b)) (hd : slotOk n (some d) = true)
    (h : WX q P ty n ops l ⟨(d, .bool (a == b)) :: env, bx, nx⟩ K) : WX q P ty n ops (⟨some d, .binOp .eql t x y yt, tp, pos, aft, none⟩ :: l) ⟨env, bx, nx⟩ K :=
  S_val hd (by simp only [valStep, opVal, hx.get, hy.get, binVal, ht]) trivial h
theorem S_boolNe {x y : Operand} {a b : Bool} {yt : TypeId} (ht : (ty t).map TI.k = some .bool) (hx : Gt env x (.bool a)) (hy : Gt env y (.bool b)) (hd : slotOk n (some d) = true)
    (h : WX q P ty n ops l ⟨(d, .bool (!(a == b))) :: env, bx, nx⟩ K) : WX q P ty n ops (⟨some d, .binOp .neq t x y yt, tp, pos, aft, none⟩ :: l) ⟨env, bx, nx⟩ K :=
  S_val hd (by simp only [valStep, opVal, hx.get, hy.get, binVal, ht]) trivial h

theorem okCells_of {sz : Nat} {x : AV} (h1 : x.cells.length = sz) (h2 : x.cells.all AV.cellOk = true) : okCells sz x := ⟨h1, fun y hy => List.all_eq_true.1 h2 y hy⟩

theorem pure_aggL {cs : List AV} (h : PureAll cs) : Pure (.agg cs) := pure_agg h.mem
theorem pure_tupL {cs : List AV} (h : PureAll cs) : Pure (.tup cs) := pure_tup h.mem
theorem pureAll_nil : PureAll [] := trivial
theorem pureAll_cons {x : AV} {l : List AV} (h : Pure x) (k : PureAll l) : PureAll (x :: l) := ⟨h, k⟩

end
end Go.Av
