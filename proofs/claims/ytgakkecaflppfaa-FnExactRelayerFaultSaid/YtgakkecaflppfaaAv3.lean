/- The types that a proof needs, as a table; the values of operations that only compute or read. -/
import Derived.Test.YtgakkecaflppfaaAv2
import Derived.Laws.Entries
import Derived.Laws.Slices
namespace Go.Av

inductive TK where
  | bool | int (k : IntKind) | str | slice (e : TypeId) | ptr | arr (n : Nat) (e : TypeId) | struct (fs : List (Nat × TypeId)) | other
  deriving Inhabited

structure TI where
  size : Nat
  bytes : Nat
  zero : List AV
  k : TK
  deriving Inhabited

def ofVal : Value → AV
  | .int k n => .int k n
  | .bool b => .bool b
  | .string s => .str s
  | .pointer none => .nilp
  | .slice none 0 0 => .ls 0 true true []
  | _ => .undef

def kOf : TypeDesc → TK
  | .bool => .bool
  | .int k => .int k
  | .string => .str
  | .slice e => .slice e
  | .pointer _ => .ptr
  | .array n e => .arr n e
  | .struct fs => .struct (fs.toList.map fun f => (f.offset, f.type))
  | _ => .other

/-- What the program's own table says of a type. -/
def tiOf (P : Program) (t : TypeId) : Option TI :=
  match P.underlying t, P.info? t with
  | some d, some i => match i.zero with
    | some z => if z.cells.size = i.size then some ⟨i.size, i.bytes, z.cells.toList.map ofVal, kOf d⟩ else none
    | none => none
  | _, _ => none

def TyOk (P : Program) (ty : TypeId → Option TI) : Prop := ∀ t i, ty t = some i → tiOf P t = some i

structure TyAt (P : Program) (t : TypeId) (i : TI) (d : TypeDesc) (f : TypeInfo) (z : Value) : Prop where
  und : P.underlying t = some d
  info : P.info? t = some f
  zero : f.zero = some z
  size : f.size = i.size
  bytes : f.bytes = i.bytes
  cells : z.cells.size = i.size
  zer : i.zero = z.cells.toList.map ofVal
  kind : i.k = kOf d

theorem TyOk.at {P : Program} {ty : TypeId → Option TI} (h : TyOk P ty) {t : TypeId} {i : TI} (e : ty t = some i) : ∃ d f z, TyAt P t i d f z := by
  have k := h t i e
  unfold tiOf at k
  split at k
  · rename_i d f hd hf
    split at k
    · rename_i z hz
      split at k
      · rename_i hs
        obtain rfl := Option.some.inj k
        exact ⟨d, f, z, hd, hf, hz, rfl, rfl, hs, rfl, rfl⟩
      · cases k
    · cases k
  · cases k

theorem TyAt.slice {P : Program} {t : TypeId} {i : TI} {d : TypeDesc} {f : TypeInfo} {z : Value} (h : TyAt P t i d f z) {e : TypeId} (k : i.k = .slice e) : d = .slice e := by
  rw [h.kind] at k; cases d <;> simp_all [kOf]
theorem TyAt.int {P : Program} {t : TypeId} {i : TI} {d : TypeDesc} {f : TypeInfo} {z : Value} (h : TyAt P t i d f z) {e : IntKind} (k : i.k = .int e) : d = .int e := by
  rw [h.kind] at k; cases d <;> simp_all [kOf]
theorem TyAt.str {P : Program} {t : TypeId} {i : TI} {d : TypeDesc} {f : TypeInfo} {z : Value} (h : TyAt P t i d f z) (k : i.k = .str) : d = .string := by
  rw [h.kind] at k; cases d <;> simp_all [kOf]
theorem TyAt.bool {P : Program} {t : TypeId} {i : TI} {d : TypeDesc} {f : TypeInfo} {z : Value} (h : TyAt P t i d f z) (k : i.k = .bool) : d = .bool := by
  rw [h.kind] at k; cases d <;> simp_all [kOf]
theorem TyAt.arr {P : Program} {t : TypeId} {i : TI} {d : TypeDesc} {f : TypeInfo} {z : Value} (h : TyAt P t i d f z) {n e : Nat} (k : i.k = .arr n e) : d = .array n e := by
  rw [h.kind] at k; cases d <;> simp_all [kOf]
theorem TyAt.struct {P : Program} {t : TypeId} {i : TI} {d : TypeDesc} {f : TypeInfo} {z : Value} (h : TyAt P t i d f z) {fs : List (Nat × TypeId)} (k : i.k = .struct fs) :
    ∃ a, d = .struct a ∧ fs = a.toList.map fun f => (f.offset, f.type) := by
  rw [h.kind] at k; cases d <;> simp_all [kOf]

theorem TyAt.run_sizeOf {P : Program} {t : TypeId} {i : TI} {d : TypeDesc} {f : TypeInfo} {z : Value} (h : TyAt P t i d f z) (w : World) : (sizeOf t).run P w = .ok i.size w := by
  simp [sizeOf, typeInfo, h.info, h.size]
theorem TyAt.run_zero {P : Program} {t : TypeId} {i : TI} {d : TypeDesc} {f : TypeInfo} {z : Value} (h : TyAt P t i d f z) (w : World) : (zeroValue t).run P w = .ok z w := by
  simp [zeroValue, typeInfo, h.info, h.zero]
theorem TyAt.run_info {P : Program} {t : TypeId} {i : TI} {d : TypeDesc} {f : TypeInfo} {z : Value} (h : TyAt P t i d f z) (w : World) : (typeInfo t).run P w = .ok f w := by
  simp [typeInfo, h.info]
theorem TyAt.run_und {P : Program} {t : TypeId} {i : TI} {d : TypeDesc} {f : TypeInfo} {z : Value} (h : TyAt P t i d f z) (w : World) : (underlying t).run P w = .ok d w :=
  run_underlying h.und w

def isAggK : TK → Bool
  | .arr .. | .struct .. => true
  | _ => false

theorem TyAt.run_isAgg {P : Program} {t : TypeId} {i : TI} {d : TypeDesc} {f : TypeInfo} {z : Value} (h : TyAt P t i d f z) (w : World) : (Go.isAgg t).run P w = .ok (isAggK i.k) w := by
  rw [h.kind]
  cases d <;> simp [Go.isAgg, run_underlying h.und, isAggK, kOf]

/-- Constants are told as they are. -/
theorem rep_ofVal (w : World) (φ : Nat → Option Loc) (ok : Nat → Nat → Prop) (v : Value) : Rep w φ ok (ofVal v) v := by
  unfold ofVal
  split
  · exact .int _ _
  · exact .bool _
  · exact .str _
  · exact .nilp
  · refine .ls 0 true true [] none 0 (fun _ _ => Go.undef) ⟨Nat.le_refl _, fun _ => rfl, fun _ _ => rfl, (fun h => by cases h), fun h => absurd h (by omega)⟩ ?_ ?_ ?_
    · intro i x h; simp at h
    · intro b o h; cases h
    · intro i x j y h; simp at h
  · exact .undef _

theorem ofVal_cells_one (v : Value) : (ofVal v).cells = [ofVal v] := by
  unfold ofVal; split <;> rfl

theorem rep_zero {P : Program} {t : TypeId} {i : TI} {d : TypeDesc} {f : TypeInfo} {z : Value} (h : TyAt P t i d f z) (w : World) (φ : Nat → Option Loc) (ok : Nat → Nat → Prop) :
    RepCells w φ ok i.zero z.cells.toList := by
  rw [h.zer]
  refine ⟨by simp, fun j x v hx hv => ?_⟩
  rw [List.getElem?_map, hv] at hx
  simp at hx
  subst hx
  exact rep_ofVal w φ ok v

/-! what is read, told by its type -/
def AV.toI : AV → Int
  | .int _ n => n
  | _ => 0
def AV.toB : AV → Bool
  | .bool b => b
  | _ => false
def AV.toS : AV → ByteArray
  | .str s => s
  | _ => .empty
def AV.lsSt : AV → Nat
  | .ls st _ _ _ => st
  | _ => 0
def AV.lsNil : AV → Bool
  | .ls _ n _ _ => n
  | _ => false
def AV.lsEx : AV → Bool
  | .ls _ _ e _ => e
  | _ => false
def AV.lsXs : AV → List AV
  | .ls _ _ _ xs => xs
  | _ => []

def norm (deep : Bool) (k : TK) (x : AV) : Prop × AV :=
  match k with
  | .int k => (x = .int k x.toI, .int k x.toI)
  | .bool => (x = .bool x.toB, .bool x.toB)
  | .str => (x = .str x.toS, .str x.toS)
  | .slice _ => if deep then (x = .ls x.lsSt x.lsNil x.lsEx x.lsXs, .ls x.lsSt x.lsNil x.lsEx x.lsXs) else (True, x)
  | _ => (True, x)

theorem norm_eq {deep : Bool} {k : TK} {x : AV} (h : (norm deep k x).1) : (norm deep k x).2 = x := by
  unfold norm at *
  cases k <;> simp only at h ⊢ <;> first | exact h.symm | rfl | skip
  split at h <;> rename_i hd <;> simp only [hd] <;> first | exact h.symm | rfl

/-- A variable of a type out of the cells at hand. -/
def cut (deep : Bool) (ti : TI) (cs : List AV) (k : Nat) : Prop × AV :=
  if isAggK ti.k then (k + ti.size ≤ cs.length, .agg ((cs.drop k).take ti.size))
  else (k < cs.length ∧ (norm deep ti.k (cs.getD k .undef)).1, (norm deep ti.k (cs.getD k .undef)).2)

theorem bigmap_get (f : Nat → Value) (n i : Nat) (v : Value) (h : (((List.range n).map f).toArray)[i]? = some v) : i < n ∧ v = f i := by
  by_cases hi : i < n
  · simp [hi] at h; exact ⟨hi, h.symm⟩
  · simp [hi] at h

/-- Reading a variable whose cells are told. -/
theorem loadVar_ok {P : Program} {t : TypeId} {ti : TI} {d : TypeDesc} {f : TypeInfo} {z : Value} (ht : TyAt P t ti d f z) {w : World} {φ : Nat → Option Loc} {ok : Nat → Nat → Prop}
    {b o : Nat} {cs : List AV} {k : Nat} {deep : Bool}
    (hc : ∀ (j : Nat) (x : AV), cs[j]? = some x → ∃ v, w.cell? ⟨b, o + j, none⟩ = some v ∧ Rep w φ ok x v)
    (hp : (cut deep ti cs k).1) :
    ∃ v, (loadVar t ⟨b, o + k, none⟩).run P w = .ok v w ∧ Rep w φ ok (cut deep ti cs k).2 v := by
  unfold cut at *
  cases ha : isAggK ti.k with
  | true =>
    simp only [ha, if_true] at hp ⊢
    have hx : ∀ j, j < ti.size → ∃ v, w.cell? ⟨b, o + k + j, none⟩ = some v := by
      intro j hj
      obtain ⟨v, hv, _⟩ := hc (k + j) cs[k + j] (List.getElem?_eq_getElem (by omega))
      exact ⟨v, by rw [Nat.add_assoc]; exact hv⟩
    refine ⟨.agg (((List.range ti.size).map fun j => (w.cell? ⟨b, o + k + j, none⟩).getD Go.undef).toArray), ?_, ?_⟩
    · simp only [loadVar, Sem.run_bind, ht.run_isAgg, Result.andThen_ok, ha, if_true, ht.run_sizeOf]
      rw [run_loadCells w ⟨b, o + k, none⟩ ti.size (fun j => (w.cell? ⟨b, o + k + j, none⟩).getD Go.undef) (fun j hj => by
        obtain ⟨v, hv⟩ := hx j hj
        rw [Addr.add_lit, hv]; rfl)]
      rfl
    · refine .agg _ _ (by simp; omega) (fun i x v hx' hv => ?_)
      obtain ⟨hi, rfl⟩ := bigmap_get _ _ _ _ hv
      rw [List.getElem?_take_of_lt hi, List.getElem?_drop] at hx'
      obtain ⟨v, hv', hr⟩ := hc (k + i) x hx'
      rw [← Nat.add_assoc] at hv'
      simp only [hv', Option.getD_some]
      exact hr
  | false =>
    simp only [ha] at hp ⊢
    obtain ⟨hk, hn⟩ := hp
    obtain ⟨v, hv, hr⟩ := hc k cs[k] (List.getElem?_eq_getElem hk)
    refine ⟨v, ?_, ?_⟩
    · simp only [loadVar, Sem.run_bind, ht.run_isAgg, Result.andThen_ok, ha]
      simp [hv]
    · rw [if_neg (by simp), norm_eq hn]
      simpa [List.getD, List.getElem?_eq_getElem hk] using hr

end Go.Av
