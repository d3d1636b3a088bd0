/- One step a lemma: the walk through a region. -/
import Derived.Test.YtgakkecaflppfaaAv26
set_option linter.unusedSimpArgs false
set_option linter.unusedVariables false
namespace Go.Av

/-- What an operand is. -/
def Gt (env : List (Nat × AV)) (x : Operand) (v : AV) : Prop := St.get ⟨env, [], 0⟩ x = v

theorem Gt.get {env : List (Nat × AV)} {x : Operand} {v : AV} (h : Gt env x v) (bx : List (Nat × Option Box)) (nx : Nat) : St.get ⟨env, bx, nx⟩ x = v := by
  cases x <;> exact h

theorem gt_tmp {env : List (Nat × AV)} {t : Nat} {v : AV} (h : look env t = some v) : Gt env (.tmp t) v := by simp [Gt, St.get, h]
theorem gt_int {env : List (Nat × AV)} {k : IntKind} {n : Int} : Gt env (.const (.int k n)) (.int k n) := rfl
theorem gt_bool {env : List (Nat × AV)} {b : Bool} : Gt env (.const (.bool b)) (.bool b) := rfl
theorem gt_str {env : List (Nat × AV)} {s : ByteArray} : Gt env (.const (.string s)) (.str s) := rfl
theorem gt_nilp {env : List (Nat × AV)} : Gt env (.const (.pointer none)) .nilp := rfl
theorem gt_nils {env : List (Nat × AV)} : Gt env (.const (.slice none 0 0)) (.ls 0 true true []) := rfl
theorem gt_func {env : List (Nat × AV)} {f : FuncId} : Gt env (.func f) (.fn f []) := rfl

def Gts (env : List (Nat × AV)) : List Operand → List AV → Prop
  | [], [] => True
  | x :: l, v :: r => Gt env x v ∧ Gts env l r
  | _, _ => False

theorem gts_nil {env : List (Nat × AV)} : Gts env [] [] := trivial
theorem gts_cons {env : List (Nat × AV)} {x : Operand} {l : List Operand} {v : AV} {r : List AV} (h : Gt env x v) (k : Gts env l r) : Gts env (x :: l) (v :: r) := ⟨h, k⟩

theorem Gts.map {env : List (Nat × AV)} (bx : List (Nat × Option Box)) (nx : Nat) : ∀ {l : List Operand} {r : List AV}, Gts env l r → l.map (St.get ⟨env, bx, nx⟩) = r
  | [], [], _ => rfl
  | x :: l, v :: r, h => by simp [h.1.get, Gts.map bx nx h.2]
  | [], _ :: _, h => h.elim
  | _ :: _, [], h => h.elim

section
variable {P : Program} {ty : TypeId → Option TI} {n : Nat} {q : Bool} {ops l : List Oper} {env : List (Nat × AV)} {bx : List (Nat × Option Box)} {nx : Nat} {K : St → Prop}
  {d : Nat} {tp : TypeId} {pos : String} {aft : Array Edge}

theorem S_nil {st : St} (h : K st) : WX q P ty n ops [] st K := h

theorem S_gt {dst : Option Tmp} {op : Op} {j t : Nat} {st : St} (hs : guardSlotL ops j = some t) {b : Bool} (hb : look st.env t = some (.bool b)) (e : b = true)
    (h : WX q P ty n ops (⟨dst, op, tp, pos, aft, none⟩ :: l) st K) : WX q P ty n ops (⟨dst, op, tp, pos, aft, some (j, true)⟩ :: l) st K := by
  simp only [WX] at h ⊢
  exact ⟨h.1, t, b, hs, hb, fun _ => h.2, fun e' => by subst e; cases e'⟩

theorem S_gtF {dst : Option Tmp} {op : Op} {j t : Nat} {st : St} (hd : slotOk n dst = true) (hs : guardSlotL ops j = some t) {b : Bool} (hb : look st.env t = some (.bool b)) (e : b = false)
    (h : WX q P ty n ops l (st.set dst .undef) K) : WX q P ty n ops (⟨dst, op, tp, pos, aft, some (j, true)⟩ :: l) st K := by
  simp only [WX]
  exact ⟨hd, t, b, hs, hb, fun e' => (by subst e; cases e'), fun _ => h⟩

theorem S_gf {dst : Option Tmp} {op : Op} {j t : Nat} {st : St} (hs : guardSlotL ops j = some t) {b : Bool} (hb : look st.env t = some (.bool b)) (e : b = false)
    (h : WX q P ty n ops (⟨dst, op, tp, pos, aft, none⟩ :: l) st K) : WX q P ty n ops (⟨dst, op, tp, pos, aft, some (j, false)⟩ :: l) st K := by
  simp only [WX] at h ⊢
  exact ⟨h.1, t, b, hs, hb, fun _ => h.2, fun e' => by subst e; cases e'⟩

theorem S_gfT {dst : Option Tmp} {op : Op} {j t : Nat} {st : St} (hd : slotOk n dst = true) (hs : guardSlotL ops j = some t) {b : Bool} (hb : look st.env t = some (.bool b)) (e : b = true)
    (h : WX q P ty n ops l (st.set dst .undef) K) : WX q P ty n ops (⟨dst, op, tp, pos, aft, some (j, false)⟩ :: l) st K := by
  simp only [WX]
  exact ⟨hd, t, b, hs, hb, fun e' => (by subst e; cases e'), fun _ => h⟩

/-- A guard that is not decided: both ways. -/
theorem S_gsplit {dst : Option Tmp} {op : Op} {j t : Nat} {want : Bool} {st : St} (hs : guardSlotL ops j = some t) {b : Bool} (hb : look st.env t = some (.bool b))
    (h1 : b = true → WX q P ty n ops (⟨dst, op, tp, pos, aft, some (j, want)⟩ :: l) st K) (h2 : b = false → WX q P ty n ops (⟨dst, op, tp, pos, aft, some (j, want)⟩ :: l) st K) :
    WX q P ty n ops (⟨dst, op, tp, pos, aft, some (j, want)⟩ :: l) st K := by
  cases b with
  | true => exact h1 rfl
  | false => exact h2 rfl

theorem S_QV {dst : Option Tmp} {op : Op} {v : AV} {st : St} (hd : slotOk n dst = true) (hv : QV P ty st.bx st.get op v) (h : WX q P ty n ops l (st.set dst v) K) :
    WX q P ty n ops (⟨dst, op, tp, pos, aft, none⟩ :: l) st K := by
  simp only [WX]
  exact ⟨hd, .inl ⟨v, hv, h⟩⟩

theorem S_val {op : Op} {p : Prop} {r : AV} (hd : slotOk n (some d) = true) (hv : valStep ty bx (St.get ⟨env, bx, nx⟩) op = some (p, r)) (hp : p) (h : WX q P ty n ops l ⟨(d, r) :: env, bx, nx⟩ K) :
    WX q P ty n ops (⟨some d, op, tp, pos, aft, none⟩ :: l) ⟨env, bx, nx⟩ K :=
  S_QV hd (by unfold QV; rw [hv]; exact ⟨hp, rfl⟩) h

theorem S_valN {op : Op} {p : Prop} {r : AV} (hv : valStep ty bx (St.get ⟨env, bx, nx⟩) op = some (p, r)) (hp : p) (h : WX q P ty n ops l ⟨env, bx, nx⟩ K) :
    WX q P ty n ops (⟨none, op, tp, pos, aft, none⟩ :: l) ⟨env, bx, nx⟩ K :=
  S_QV rfl (by unfold QV; rw [hv]; exact ⟨hp, rfl⟩) h

theorem S_mem {op : Op} {p : Prop} {r : AV} {bx' : List (Nat × Option Box)} {nx' : Nat} (hd : slotOk n (some d) = true) (hv : memStep ty bx nx (St.get ⟨env, bx, nx⟩) op = some (p, r, bx', nx')) (hp : p)
    (h : WX false P ty n ops l ⟨(d, r) :: env, bx', nx'⟩ K) : WX false P ty n ops (⟨some d, op, tp, pos, aft, none⟩ :: l) ⟨env, bx, nx⟩ K := by
  simp only [WX]
  exact ⟨hd, .inr ⟨rfl, .inl ⟨p, r, bx', nx', hv, hp, h⟩⟩⟩

theorem S_memN {op : Op} {p : Prop} {r : AV} {bx' : List (Nat × Option Box)} {nx' : Nat} (hv : memStep ty bx nx (St.get ⟨env, bx, nx⟩) op = some (p, r, bx', nx')) (hp : p)
    (h : WX false P ty n ops l ⟨env, bx', nx'⟩ K) : WX false P ty n ops (⟨none, op, tp, pos, aft, none⟩ :: l) ⟨env, bx, nx⟩ K := by
  simp only [WX]
  exact ⟨rfl, .inr ⟨rfl, .inl ⟨p, r, bx', nx', hv, hp, h⟩⟩⟩

variable {x y : Operand} {v u : AV} {k k' : IntKind} {a b : Int} {t yt : TypeId}

theorem S_move (hx : Gt env x v) (hd : slotOk n (some d) = true) (h : WX q P ty n ops l ⟨(d, v) :: env, bx, nx⟩ K) : WX q P ty n ops (⟨some d, .move x, tp, pos, aft, none⟩ :: l) ⟨env, bx, nx⟩ K :=
  S_val hd (by simp only [valStep, opVal, hx.get]) trivial h
theorem S_assign (hx : Gt env x v) (hd : slotOk n (some d) = true) (h : WX q P ty n ops l ⟨(d, v) :: env, bx, nx⟩ K) : WX q P ty n ops (⟨some d, .assign x, tp, pos, aft, none⟩ :: l) ⟨env, bx, nx⟩ K :=
  S_val hd (by simp only [valStep, opVal, hx.get]) trivial h
theorem S_pickT {c : Operand} {bb : Bool} (hc : Gt env c (.bool bb)) (e : bb = true) (hx : Gt env x v) (hd : slotOk n (some d) = true) (h : WX q P ty n ops l ⟨(d, v) :: env, bx, nx⟩ K) :
    WX q P ty n ops (⟨some d, .pick c x y, tp, pos, aft, none⟩ :: l) ⟨env, bx, nx⟩ K :=
  S_val hd (by simp only [valStep, opVal, hc.get, hx.get, e, if_true]) trivial h
theorem S_pickF {c : Operand} {bb : Bool} (hc : Gt env c (.bool bb)) (e : bb = false) (hy : Gt env y v) (hd : slotOk n (some d) = true) (h : WX q P ty n ops l ⟨(d, v) :: env, bx, nx⟩ K) :
    WX q P ty n ops (⟨some d, .pick c x y, tp, pos, aft, none⟩ :: l) ⟨env, bx, nx⟩ K :=
  S_val hd (by simp only [valStep, opVal, hc.get, hy.get, e, Bool.false_eq_true, if_false]) trivial h
theorem S_lss (hx : Gt env x (.int k a)) (hy : Gt env y (.int k b)) (hd : slotOk n (some d) = true) (h : WX q P ty n ops l ⟨(d, .bool (decide (a < b))) :: env, bx, nx⟩ K) :
    WX q P ty n ops (⟨some d, .binOp .lss t x y yt, tp, pos, aft, none⟩ :: l) ⟨env, bx, nx⟩ K :=
  S_val hd (by simp only [valStep, opVal, hx.get, hy.get, binVal, if_true, intBin]) trivial h
theorem S_leq (hx : Gt env x (.int k a)) (hy : Gt env y (.int k b)) (hd : slotOk n (some d) = true) (h : WX q P ty n ops l ⟨(d, .bool (decide (a ≤ b))) :: env, bx, nx⟩ K) :
    WX q P ty n ops (⟨some d, .binOp .leq t x y yt, tp, pos, aft, none⟩ :: l) ⟨env, bx, nx⟩ K :=
  S_val hd (by simp only [valStep, opVal, hx.get, hy.get, binVal, if_true, intBin]) trivial h
theorem S_gtr (hx : Gt env x (.int k a)) (hy : Gt env y (.int k b)) (hd : slotOk n (some d) = true) (h : WX q P ty n ops l ⟨(d, .bool (decide (b < a))) :: env, bx, nx⟩ K) :
    WX q P ty n ops (⟨some d, .binOp .gtr t x y yt, tp, pos, aft, none⟩ :: l) ⟨env, bx, nx⟩ K :=
  S_val hd (by simp only [valStep, opVal, hx.get, hy.get, binVal, if_true, intBin, gt_iff_lt]) trivial h
theorem S_geq (hx : Gt env x (.int k a)) (hy : Gt env y (.int k b)) (hd : slotOk n (some d) = true) (h : WX q P ty n ops l ⟨(d, .bool (decide (b ≤ a))) :: env, bx, nx⟩ K) :
    WX q P ty n ops (⟨some d, .binOp .geq t x y yt, tp, pos, aft, none⟩ :: l) ⟨env, bx, nx⟩ K :=
  S_val hd (by simp only [valStep, opVal, hx.get, hy.get, binVal, if_true, intBin, ge_iff_le]) trivial h
theorem S_eql (hx : Gt env x (.int k a)) (hy : Gt env y (.int k b)) (hd : slotOk n (some d) = true) (h : WX q P ty n ops l ⟨(d, .bool (decide (a = b))) :: env, bx, nx⟩ K) :
    WX q P ty n ops (⟨some d, .binOp .eql t x y yt, tp, pos, aft, none⟩ :: l) ⟨env, bx, nx⟩ K :=
  S_val hd (by simp only [valStep, opVal, hx.get, hy.get, binVal, if_true, intBin]; rfl) trivial h
theorem S_neq (hx : Gt env x (.int k a)) (hy : Gt env y (.int k b)) (hd : slotOk n (some d) = true) (h : WX q P ty n ops l ⟨(d, .bool (!decide (a = b))) :: env, bx, nx⟩ K) :
    WX q P ty n ops (⟨some d, .binOp .neq t x y yt, tp, pos, aft, none⟩ :: l) ⟨env, bx, nx⟩ K :=
  S_val hd (by simp only [valStep, opVal, hx.get, hy.get, binVal, if_true, intBin]; rfl) trivial h
theorem S_add {c : Int} (hx : Gt env x (.int k a)) (hy : Gt env y (.int k b)) (hd : slotOk n (some d) = true) (hw : k.wrap (a + b) = c) (h : WX q P ty n ops l ⟨(d, .int k c) :: env, bx, nx⟩ K) :
    WX q P ty n ops (⟨some d, .binOp .add t x y yt, tp, pos, aft, none⟩ :: l) ⟨env, bx, nx⟩ K :=
  S_val hd (by simp only [valStep, opVal, hx.get, hy.get, binVal, if_true, intBin, hw]) trivial h
theorem S_sub {c : Int} (hx : Gt env x (.int k a)) (hy : Gt env y (.int k b)) (hd : slotOk n (some d) = true) (hw : k.wrap (a - b) = c) (h : WX q P ty n ops l ⟨(d, .int k c) :: env, bx, nx⟩ K) :
    WX q P ty n ops (⟨some d, .binOp .sub t x y yt, tp, pos, aft, none⟩ :: l) ⟨env, bx, nx⟩ K :=
  S_val hd (by simp only [valStep, opVal, hx.get, hy.get, binVal, if_true, intBin, hw]) trivial h
theorem S_mul {c : Int} (hx : Gt env x (.int k a)) (hy : Gt env y (.int k b)) (hd : slotOk n (some d) = true) (hw : k.wrap (a * b) = c) (h : WX q P ty n ops l ⟨(d, .int k c) :: env, bx, nx⟩ K) :
    WX q P ty n ops (⟨some d, .binOp .mul t x y yt, tp, pos, aft, none⟩ :: l) ⟨env, bx, nx⟩ K :=
  S_val hd (by simp only [valStep, opVal, hx.get, hy.get, binVal, if_true, intBin, hw]) trivial h
theorem S_shl (hx : Gt env x (.int k a)) (hy : Gt env y (.int k' b)) (hd : slotOk n (some d) = true) (hb : 0 ≤ b) (h : WX q P ty n ops l ⟨(d, .int k (k.wrap (a * 2 ^ min b.toNat k.bits))) :: env, bx, nx⟩ K) :
    WX q P ty n ops (⟨some d, .binOp .shl t x y yt, tp, pos, aft, none⟩ :: l) ⟨env, bx, nx⟩ K :=
  S_val hd (by simp only [valStep, opVal, hx.get, hy.get, binVal]) hb h
theorem S_shr (hx : Gt env x (.int k a)) (hy : Gt env y (.int k' b)) (hd : slotOk n (some d) = true) (hb : 0 ≤ b) (h : WX q P ty n ops l ⟨(d, .int k (a.fdiv (2 ^ min b.toNat k.bits))) :: env, bx, nx⟩ K) :
    WX q P ty n ops (⟨some d, .binOp .shr t x y yt, tp, pos, aft, none⟩ :: l) ⟨env, bx, nx⟩ K :=
  S_val hd (by simp only [valStep, opVal, hx.get, hy.get, binVal]) hb h
theorem S_quo (hx : Gt env x (.int k a)) (hy : Gt env y (.int k b)) (hd : slotOk n (some d) = true) (hb : b ≠ 0) (h : WX q P ty n ops l ⟨(d, .int k (k.wrap (a.tdiv b))) :: env, bx, nx⟩ K) :
    WX q P ty n ops (⟨some d, .binOp .quo t x y yt, tp, pos, aft, none⟩ :: l) ⟨env, bx, nx⟩ K :=
  S_val hd (by simp only [valStep, opVal, hx.get, hy.get, binVal, if_true, intBin]) hb h
theorem S_rem (hx : Gt env x (.int k a)) (hy : Gt env y (.int k b)) (hd : slotOk n (some d) = true) (hb : b ≠ 0) (h : WX q P ty n ops l ⟨(d, .int k (a.tmod b)) :: env, bx, nx⟩ K) :
    WX q P ty n ops (⟨some d, .binOp .rem t x y yt, tp, pos, aft, none⟩ :: l) ⟨env, bx, nx⟩ K :=
  S_val hd (by simp only [valStep, opVal, hx.get, hy.get, binVal, if_true, intBin]) hb h
theorem S_not {bb : Bool} (hx : Gt env x (.bool bb)) (hd : slotOk n (some d) = true) (h : WX q P ty n ops l ⟨(d, .bool (!bb)) :: env, bx, nx⟩ K) :
    WX q P ty n ops (⟨some d, .unOp .not t x, tp, pos, aft, none⟩ :: l) ⟨env, bx, nx⟩ K :=
  S_val hd (by simp only [valStep, opVal, hx.get, unVal]) trivial h
theorem S_conv {src : TypeId} {s : TK} {c : Int} (hs : (ty src).map TI.k = some s) (ht : (ty t).map TI.k = some (.int k)) (hx : Gt env x (.int k' a)) (hd : slotOk n (some d) = true) (hw : k.wrap a = c)
    (h : WX q P ty n ops l ⟨(d, .int k c) :: env, bx, nx⟩ K) : WX q P ty n ops (⟨some d, .convert src t x, tp, pos, aft, none⟩ :: l) ⟨env, bx, nx⟩ K :=
  S_val hd (by simp only [valStep, opVal, hx.get, convVal, hs, ht, hw]) trivial h
theorem S_min (hx : Gt env x (.int k a)) (hy : Gt env y (.int k' b)) {ats : Array TypeId} (hd : slotOk n (some d) = true) (h : WX q P ty n ops l ⟨(d, .int k (if b < a then b else a)) :: env, bx, nx⟩ K) :
    WX q P ty n ops (⟨some d, .call ⟨.builtin .min, #[x, y], ats⟩, tp, pos, aft, none⟩ :: l) ⟨env, bx, nx⟩ K :=
  S_val hd (by simp only [valStep, opVal, hx.get, hy.get]) trivial h
theorem S_len_ls {st : Nat} {nn ee : Bool} {xs : List AV} {e : TypeId} (ht : (ty t).map TI.k = some (.slice e)) (hx : Gt env x (.ls st nn ee xs)) (hd : slotOk n (some d) = true)
    (h : WX q P ty n ops l ⟨(d, .int .i64 xs.length) :: env, bx, nx⟩ K) : WX q P ty n ops (⟨some d, .call ⟨.builtin .len, #[x], #[t]⟩, tp, pos, aft, none⟩ :: l) ⟨env, bx, nx⟩ K :=
  S_val hd (by simp only [valStep, opVal, hx.get, ht]) trivial h
theorem S_len_sl {id off len cap : Nat} {e : TypeId} (ht : (ty t).map TI.k = some (.slice e)) (hx : Gt env x (.sl id off len cap)) (hd : slotOk n (some d) = true)
    (h : WX q P ty n ops l ⟨(d, .int .i64 len) :: env, bx, nx⟩ K) : WX q P ty n ops (⟨some d, .call ⟨.builtin .len, #[x], #[t]⟩, tp, pos, aft, none⟩ :: l) ⟨env, bx, nx⟩ K :=
  S_val hd (by simp only [valStep, opVal, hx.get, ht]) trivial h
theorem S_len_str {s : ByteArray} (ht : (ty t).map TI.k = some .str) (hx : Gt env x (.str s)) (hd : slotOk n (some d) = true)
    (h : WX q P ty n ops l ⟨(d, .int .i64 s.size) :: env, bx, nx⟩ K) : WX q P ty n ops (⟨some d, .call ⟨.builtin .len, #[x], #[t]⟩, tp, pos, aft, none⟩ :: l) ⟨env, bx, nx⟩ K :=
  S_val hd (by simp only [valStep, opVal, hx.get, ht]) trivial h
theorem S_extract {i : Nat} {vs : List AV} (hx : Gt env x (.tup vs)) (hv : vs[i]? = some v) (hd : slotOk n (some d) = true)
    (h : WX q P ty n ops l ⟨(d, v) :: env, bx, nx⟩ K) : WX q P ty n ops (⟨some d, .extract x i, tp, pos, aft, none⟩ :: l) ⟨env, bx, nx⟩ K := by
  have hi := (List.getElem?_eq_some_iff.1 hv).1
  refine S_val hd (r := v) (p := i < vs.length) (by simp [valStep, opVal, hx.get, hv]) hi h
theorem S_fieldP {i : Nat} {fs : List (Nat × TypeId)} {off : Nat} {ft : TypeId} {fi : TI} {id e j : Nat} (hs : (ty t).map TI.k = some (.struct fs)) (hf : fs[i]? = some (off, ft)) (hft : ty ft = some fi) (h0 : (fi.size == 0) = false)
    (hx : Gt env x (.ptr id e j)) (hd : slotOk n (some d) = true) (h : WX q P ty n ops l ⟨(d, .ptr id e (j + off)) :: env, bx, nx⟩ K) :
    WX q P ty n ops (⟨some d, .fieldAddr t x i, tp, pos, aft, none⟩ :: l) ⟨env, bx, nx⟩ K :=
  S_val hd (by have : ¬ fi.size = 0 := by simpa using h0
               simp only [valStep, opVal, hx.get, hs, hf, hft, this, if_false]) trivial h
theorem S_fieldV {i : Nat} {fs : List (Nat × TypeId)} {off : Nat} {ft : TypeId} {fi : TI} {cs : List AV} (hs : (ty t).map TI.k = some (.struct fs)) (hf : fs[i]? = some (off, ft)) (hft : ty ft = some fi) (h0 : (fi.size == 0) = false)
    (hx : Gt env x (.vp cs)) (hd : slotOk n (some d) = true) (h : WX q P ty n ops l ⟨(d, .vp (cs.drop off)) :: env, bx, nx⟩ K) :
    WX q P ty n ops (⟨some d, .fieldAddr t x i, tp, pos, aft, none⟩ :: l) ⟨env, bx, nx⟩ K :=
  S_val hd (by have : ¬ fi.size = 0 := by simpa using h0
               simp only [valStep, opVal, hx.get, hs, hf, hft, this, if_false]) trivial h
theorem S_idxLs {i : Operand} {e : TypeId} {ei : TI} {st : Nat} {nn ee : Bool} {xs : List AV} {ii : Int} {c : AV} (ht : (ty t).map TI.k = some (.slice e)) (he : ty e = some ei) (hx : Gt env x (.ls st nn ee xs)) (hi : Gt env i (.int k ii))
    (hr : 0 ≤ ii ∧ ii < (xs.length : Int)) (hst : st = ei.size) (hc : xs.getD ii.toNat .undef = c) (hd : slotOk n (some d) = true) (h : WX q P ty n ops l ⟨(d, .vp c.cells) :: env, bx, nx⟩ K) :
    WX q P ty n ops (⟨some d, .indexAddr t x i, tp, pos, aft, none⟩ :: l) ⟨env, bx, nx⟩ K :=
  S_val hd (p := 0 ≤ ii ∧ ii < (xs.length : Int) ∧ st = ei.size) (by simp only [valStep, opVal, hx.get, hi.get, ht, he, idx, hc]) ⟨hr.1, hr.2, hst⟩ h
theorem S_idxSl {i : Operand} {e : TypeId} {ei : TI} {id off len cap : Nat} {B : Box} {ii : Int} (ht : (ty t).map TI.k = some (.slice e)) (he : ty e = some ei) (hx : Gt env x (.sl id off len cap)) (hB : box? bx id = some B) (hi : Gt env i (.int k ii))
    (hr : 0 ≤ ii ∧ ii < (len : Int)) (hst : B.st = ei.size) (hd : slotOk n (some d) = true) (h : WX q P ty n ops l ⟨(d, .ptr id (off + ii.toNat) 0) :: env, bx, nx⟩ K) :
    WX q P ty n ops (⟨some d, .indexAddr t x i, tp, pos, aft, none⟩ :: l) ⟨env, bx, nx⟩ K :=
  S_val hd (p := 0 ≤ ii ∧ ii < (len : Int) ∧ B.st = ei.size) (by simp only [valStep, opVal, hx.get, hi.get, ht, he, idx, hB]) ⟨hr.1, hr.2, hst⟩ h

/-- Does a cell fit its type? -/
def Fits (deep : Bool) (ti : TI) (c : AV) : Prop := isAggK ti.k = false ∧ (norm deep ti.k c).1

theorem cut_fits {deep : Bool} {ti : TI} {cs : List AV} {j : Nat} {c : AV} (hf : Fits deep ti c) (hc : cs[j]? = some c) : (cut deep ti cs j).1 ∧ (cut deep ti cs j).2 = c := by
  have hj := (List.getElem?_eq_some_iff.1 hc).1
  have e : cs.getD j .undef = c := by simp [List.getD, hc]
  unfold cut
  rw [if_neg (by simp [hf.1]), e]
  exact ⟨⟨hj, hf.2⟩, norm_eq hf.2⟩

theorem S_loadP {ti : TI} {id e j : Nat} {B : Box} {w c : AV} (ht : ty t = some ti) (hx : Gt env x (.ptr id e j)) (hB : box? bx id = some B) (he : B.elems[e]? = some w) (hc : w.cells[j]? = some c) (hf : Fits false ti c)
    (hd : slotOk n (some d) = true) (h : WX q P ty n ops l ⟨(d, c) :: env, bx, nx⟩ K) : WX q P ty n ops (⟨some d, .load t x, tp, pos, aft, none⟩ :: l) ⟨env, bx, nx⟩ K := by
  have hj := (List.getElem?_eq_some_iff.1 he).1
  have e' : B.elems.getD e .undef = w := by simp [List.getD, he]
  obtain ⟨h1, h2⟩ := cut_fits hf hc
  exact S_val hd (p := e < B.elems.length ∧ (cut false ti w.cells j).1) (by simp only [valStep, opVal, hx.get, ht, hB, e', h2]) ⟨hj, h1⟩ h
/-- A whole element that is an aggregate. -/
theorem S_loadW {ti : TI} {id e j : Nat} {B : Box} {w : AV} (ht : ty t = some ti) (hx : Gt env x (.ptr id e j)) (hB : box? bx id = some B) (he : B.elems[e]? = some w) (hj : j = 0) (ha : isAggK ti.k = true)
    (hw : .agg w.cells = w) (hl : w.cells.length = ti.size) (hd : slotOk n (some d) = true) (h : WX q P ty n ops l ⟨(d, w) :: env, bx, nx⟩ K) :
    WX q P ty n ops (⟨some d, .load t x, tp, pos, aft, none⟩ :: l) ⟨env, bx, nx⟩ K := by
  subst hj
  have hj := (List.getElem?_eq_some_iff.1 he).1
  have e' : B.elems.getD e .undef = w := by simp [List.getD, he]
  have hcut : cut false ti w.cells 0 = (0 + ti.size ≤ w.cells.length, w) := by
    unfold cut
    rw [if_pos ha, List.drop_zero, List.take_of_length_le (by omega), hw]
  exact S_val hd (p := e < B.elems.length ∧ (cut false ti w.cells 0).1) (by simp only [valStep, opVal, hx.get, ht, hB, e']; rw [hcut]) ⟨hj, by rw [hcut]; simp [hl]⟩ h
theorem S_loadA {ti : TI} {id e j : Nat} {B : Box} {w : AV} (ht : ty t = some ti) (hx : Gt env x (.ptr id e j)) (hB : box? bx id = some B) (he : B.elems[e]? = some w) (ha : isAggK ti.k = true)
    (hl : j + ti.size ≤ w.cells.length) (hd : slotOk n (some d) = true) (h : WX q P ty n ops l ⟨(d, .agg ((w.cells.drop j).take ti.size)) :: env, bx, nx⟩ K) :
    WX q P ty n ops (⟨some d, .load t x, tp, pos, aft, none⟩ :: l) ⟨env, bx, nx⟩ K := by
  have hj := (List.getElem?_eq_some_iff.1 he).1
  have e' : B.elems.getD e .undef = w := by simp [List.getD, he]
  exact S_val hd (p := e < B.elems.length ∧ (cut false ti w.cells j).1) (by simp only [valStep, opVal, hx.get, ht, hB, e', cut, ha, if_true]) ⟨hj, by simp only [cut, ha, if_true]; exact hl⟩ h
theorem S_loadV {ti : TI} {cs : List AV} {c : AV} (ht : ty t = some ti) (hx : Gt env x (.vp cs)) (hc : cs[0]? = some c) (hf : Fits true ti c)
    (hd : slotOk n (some d) = true) (h : WX q P ty n ops l ⟨(d, c) :: env, bx, nx⟩ K) : WX q P ty n ops (⟨some d, .load t x, tp, pos, aft, none⟩ :: l) ⟨env, bx, nx⟩ K := by
  obtain ⟨h1, h2⟩ := cut_fits hf hc
  exact S_val hd (p := (cut true ti cs 0).1) (by simp only [valStep, opVal, hx.get, ht]; rw [← h2]) h1 h
theorem S_loadVA {ti : TI} {cs : List AV} (ht : ty t = some ti) (hx : Gt env x (.vp cs)) (ha : isAggK ti.k = true) (hl : cs.length = ti.size)
    (hd : slotOk n (some d) = true) (h : WX q P ty n ops l ⟨(d, .agg cs) :: env, bx, nx⟩ K) : WX q P ty n ops (⟨some d, .load t x, tp, pos, aft, none⟩ :: l) ⟨env, bx, nx⟩ K := by
  have hcut : cut true ti cs 0 = (0 + ti.size ≤ cs.length, .agg cs) := by
    unfold cut
    rw [if_pos ha, List.drop_zero, List.take_of_length_le (by omega)]
  exact S_val hd (p := (cut true ti cs 0).1) (by simp only [valStep, opVal, hx.get, ht]; rw [hcut]) (by rw [hcut]; simp [hl]) h
theorem S_alloc {ti : TI} {z : AV} (ht : ty t = some ti) (hz : zeroE ti = z) (hk : okCells ti.size z) (hd : slotOk n (some d) = true)
    (h : WX false P ty n ops l ⟨(d, .ptr nx 0 0) :: env, (nx, some ⟨[z], ti.size, false, false⟩) :: bx, nx + 1⟩ K) : WX false P ty n ops (⟨some d, .alloc t, tp, pos, aft, none⟩ :: l) ⟨env, bx, nx⟩ K := by
  subst hz
  exact S_mem hd (by simp only [memStep, ht]) hk h
theorem S_box {ti : TI} (ht : ty t = some ti) (hx : Gt env x v) (hk : okCells ti.size v) (hd : slotOk n (some d) = true)
    (h : WX false P ty n ops l ⟨(d, .ptr nx 0 0) :: env, (nx, some ⟨[v], ti.size, false, false⟩) :: bx, nx + 1⟩ K) : WX false P ty n ops (⟨some d, .box t x, tp, pos, aft, none⟩ :: l) ⟨env, bx, nx⟩ K :=
  S_mem hd (by simp only [memStep, ht, hx.get]) hk h
/-- The whole of a variable of its own. -/
theorem S_store1 {ti : TI} {id j : Nat} {w : AV} {sz : Nat} {sl ro : Bool} (ht : ty t = some ti) (hx : Gt env x (.ptr id 0 j)) (hB : box? bx id = some ⟨[w], sz, sl, ro⟩) (hj : j = 0) (hs : ti.size = sz) (hro : ro = false) (hy : Gt env y v) (hk : okCells ti.size v)
    (h : WX false P ty n ops l ⟨env, (id, some ⟨[v], sz, sl, ro⟩) :: bx, nx⟩ K) : WX false P ty n ops (⟨none, .store t x y, tp, pos, aft, none⟩ :: l) ⟨env, bx, nx⟩ K := by
  subst hj
  refine S_memN (r := .undef) (nx' := nx) (p := 0 < [w].length ∧ ro = false ∧ okCells ti.size v) ?_ ⟨by simp, hro, hk⟩ h
  simp [memStep, hx.get, hy.get, storeStep, ht, hB, hs]

theorem splice_one {cs : List AV} {j : Nat} (v : AV) (h : j < cs.length) : splice cs j [v] = cs.set j v := by
  unfold splice
  rw [List.set_eq_take_append_cons_drop, if_pos h]
  simp

/-- One cell of a list, turned. -/
inductive SetL : List AV → Nat → AV → List AV → Prop
  | zero (a : AV) (l : List AV) (v : AV) : SetL (a :: l) 0 v (v :: l)
  | succ {l l' : List AV} {k : Nat} {v : AV} (a : AV) : SetL l k v l' → SetL (a :: l) (k + 1) v (a :: l')

theorem SetL.eq {l l' : List AV} {j : Nat} {v : AV} (h : SetL l j v l') : j < l.length ∧ l' = l.set j v := by
  induction h with
  | zero => simp
  | succ a _ ih => obtain ⟨h1, h2⟩ := ih; exact ⟨by simpa using h1, by simp [h2]⟩

/-- One field of a variable of its own. -/
theorem S_storeF {ti : TI} {id j : Nat} {cs cs' : List AV} {sz : Nat} {sl ro : Bool} (ht : ty t = some ti) (hx : Gt env x (.ptr id 0 j)) (hB : box? bx id = some ⟨[.agg cs], sz, sl, ro⟩) (hs : (ti.size == sz) = false) (h1 : ti.size = 1) (hro : ro = false) (hy : Gt env y v)
    (hv : v.cells = [v]) (hk : v.cellOk = true) (hset : SetL cs j v cs') (h : WX false P ty n ops l ⟨env, (id, some ⟨[.agg cs'], sz, sl, ro⟩) :: bx, nx⟩ K) : WX false P ty n ops (⟨none, .store t x y, tp, pos, aft, none⟩ :: l) ⟨env, bx, nx⟩ K := by
  obtain ⟨hj, rfl⟩ := hset.eq
  have hne : ¬ (ti.size = sz) := by simpa using hs
  refine S_memN (r := .undef) (nx' := nx) (p := 0 < [AV.agg cs].length ∧ ro = false ∧ okCells ti.size v ∧ j + ti.size ≤ cs.length) ?_ ⟨by simp, hro, ⟨by simp [hv, h1], by simp [hv, hk]⟩, by omega⟩ h
  simp [memStep, hx.get, hy.get, storeStep, ht, hB, hne, hv, splice_one v hj]

/-- One element of a row. -/
theorem S_storeE {ti : TI} {id e j : Nat} {B : Box} (ht : ty t = some ti) (hx : Gt env x (.ptr id e j)) (hB : box? bx id = some B) (hj : j = 0) (hs : ti.size = B.st) (he : e < B.elems.length) (hro : B.ro = false) (hy : Gt env y v) (hk : okCells ti.size v)
    (h : WX false P ty n ops l ⟨env, (id, some ⟨B.elems.set e v, B.st, B.slack, B.ro⟩) :: bx, nx⟩ K) : WX false P ty n ops (⟨none, .store t x y, tp, pos, aft, none⟩ :: l) ⟨env, bx, nx⟩ K := by
  subst hj
  refine S_memN (r := .undef) (nx' := nx) (p := e < B.elems.length ∧ B.ro = false ∧ okCells ti.size v) ?_ ⟨he, hro, hk⟩ h
  simp [memStep, hx.get, hy.get, storeStep, ht, hB, hs]

theorem S_make {e : TypeId} {ei : TI} {k k' : IntKind} {ln cp : Int} {z : AV} (ht : (ty t).map TI.k = some (.slice e)) (he : ty e = some ei) (hx : Gt env x (.int k ln)) (hy : Gt env y (.int k' cp)) (hz : zeroE ei = z)
    (h1 : 0 ≤ ln) (h2 : ln ≤ cp) (h3 : (ei.bytes : Int) * cp ≤ 281474976710656) (h4 : cp ≤ 9223372036854775807) (hk : okCells ei.size z) (hp : 0 < ei.size) (hd : slotOk n (some d) = true)
    (h : WX false P ty n ops l ⟨(d, .sl nx 0 ln.toNat cp.toNat) :: env, (nx, some ⟨List.replicate cp.toNat z, ei.size, false, false⟩) :: bx, nx + 1⟩ K) :
    WX false P ty n ops (⟨some d, .makeSlice t x y, tp, pos, aft, none⟩ :: l) ⟨env, bx, nx⟩ K := by
  subst hz
  exact S_mem hd (p := 0 ≤ ln ∧ ln ≤ cp ∧ (ei.bytes : Int) * cp ≤ 281474976710656 ∧ cp ≤ 9223372036854775807 ∧ okCells ei.size (zeroE ei) ∧ 0 < ei.size)
    (by simp only [memStep, hx.get, hy.get, makeStep, ht, he]) ⟨h1, h2, h3, h4, hk, hp⟩ h

end
end Go.Av
