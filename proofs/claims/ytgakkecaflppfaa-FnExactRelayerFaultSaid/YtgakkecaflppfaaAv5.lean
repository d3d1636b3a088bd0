/- The values of operations that only compute or read: they are what the machine makes. -/
import Derived.Test.YtgakkecaflppfaaAv4
namespace Go.Av

theorem RepCells.length {w : World} {φ : Nat → Option Loc} {ok : Nat → Nat → Prop} {cs : List AV} {vs : List Value} (h : RepCells w φ ok cs vs) : vs.length = cs.length := h.1

theorem splice_length {α : Type} (cs : List α) (off : Nat) (xs : List α) (h : off + xs.length ≤ cs.length) : (splice cs off xs).length = cs.length := by
  simp [splice]; omega

theorem splice_get {α : Type} (cs : List α) (off : Nat) (xs : List α) (h : off + xs.length ≤ cs.length) (i : Nat) :
    (splice cs off xs)[i]? = if i < off then cs[i]? else if i < off + xs.length then xs[i - off]? else cs[i]? := by
  unfold splice
  rw [List.append_assoc, List.getElem?_append]
  have h1 : (cs.take off).length = off := by simp; omega
  rw [h1]
  split
  · rename_i hi; rw [List.getElem?_take_of_lt hi]
  · rename_i hi
    rw [List.getElem?_append]
    split
    · rename_i hj; rw [if_pos (by omega)]
    · rename_i hj
      rw [if_neg (by omega), List.getElem?_drop]
      congr 1; omega

theorem splice_rep {w : World} {φ : Nat → Option Loc} {ok : Nat → Nat → Prop} {cs xs : List AV} {vs us : List Value} {off : Nat}
    (h : RepCells w φ ok cs vs) (k : RepCells w φ ok xs us) (hb : off + xs.length ≤ cs.length) : RepCells w φ ok (splice cs off xs) (splice vs off us) := by
  have hb' : off + us.length ≤ vs.length := by rw [k.1, h.1]; exact hb
  refine ⟨by rw [splice_length _ _ _ hb, splice_length _ _ _ hb', h.1], fun i x v hx hv => ?_⟩
  rw [splice_get _ _ _ hb] at hx
  rw [splice_get _ _ _ hb', k.1] at hv
  split at hx
  · rename_i hi; rw [if_pos hi] at hv; exact h.2 i x v hx hv
  · rename_i hi
    rw [if_neg hi] at hv
    split at hx
    · rename_i hj; rw [if_pos hj] at hv; exact k.2 _ x v hx hv
    · rename_i hj; rw [if_neg hj] at hv; exact h.2 i x v hx hv

theorem zipIdx_put (off : Nat) : ∀ (us : List Value) (k : Nat) (arr : Array Value), off + k + us.length ≤ arr.size →
    ((us.zipIdx k).foldl (fun cs (p : Value × Nat) => cs.setIfInBounds (off + p.2) p.1) arr).toList = splice arr.toList (off + k) us
  | [], k, arr, h => by simp [splice]
  | u :: us, k, arr, h => by
    simp only [List.zipIdx_cons, List.foldl_cons]
    rw [zipIdx_put off us (k + 1) _ (by simp at h ⊢; omega)]
    apply List.ext_getElem?
    intro i
    simp only [List.length_cons] at h
    rw [splice_get _ _ _ (by simp; omega), splice_get _ _ _ (by simp; omega)]
    simp only [Array.toList_setIfInBounds, List.length_cons]
    by_cases h1 : i < off + k
    · rw [if_pos (by omega), if_pos h1, List.getElem?_set_ne (by omega)]
    · by_cases h2 : i = off + k
      · subst h2
        rw [if_pos (by omega), if_neg (by omega), if_pos (by omega), Nat.sub_self, List.getElem?_set_self (by simp; omega)]
        simp
      · rw [if_neg (by omega), if_neg h1]
        by_cases h3 : i < off + (k + 1) + us.length
        · rw [if_pos h3, if_pos (by omega), show i - (off + k) = (i - (off + (k + 1))) + 1 by omega]
          simp
        · rw [if_neg h3, if_neg (by omega), List.getElem?_set_ne (by omega)]

theorem putCells (cells us : Array Value) (off : Nat) (h : off + us.size ≤ cells.size) :
    (us.zipIdx.foldl (fun cs (p : Value × Nat) => cs.setIfInBounds (off + p.2) p.1) cells).toList = splice cells.toList off us.toList := by
  have := zipIdx_put off us.toList 0 cells (by simpa using h)
  rw [Nat.add_zero] at this
  rw [← this, ← Array.foldl_toList]
  simp

theorem fill_step (place : Nat → Option (Nat × Nat)) (cells : Array Value) (i : Nat) (v : Value) (rest : List (Nat × Value)) (off size : Nat)
    (hp : place i = some (off, size)) (h1 : v.cells.size = size) (h2 : off + size ≤ cells.size) :
    ∃ cells' : Array Value, cells'.toList = splice cells.toList off v.cells.toList ∧ Instr.fill place cells ((i, v) :: rest) = Instr.fill place cells' rest := by
  refine ⟨_, putCells cells v.cells off (by omega), ?_⟩
  simp only [Instr.fill, hp]
  have : ¬ (v.cells.size ≠ size ∨ off + v.cells.size > cells.size) := by omega
  rw [if_neg (by simpa using this)]

theorem fillS_ok {P : Program} {ty : TypeId → Option TI} (hty : TyOk P ty) {w : World} {φ : Nat → Option Loc} {ok : Nat → Nat → Prop} (fs : List (Nat × TypeId))
    (place : Nat → Option (Nat × Nat)) (hplace : ∀ i off ft fi, fs[i]? = some (off, ft) → ty ft = some fi → place i = some (off, fi.size)) :
    ∀ (parts : List (Nat × AV)) (us : List (Nat × Value)) (cs cs' : List AV) (cells : Array Value) (p : Prop), RepCells w φ ok cs cells.toList →
      us.length = parts.length → (∀ (j : Nat) (x : Nat × AV) (u : Nat × Value), parts[j]? = some x → us[j]? = some u → x.1 = u.1 ∧ Rep w φ ok x.2 u.2) →
      fillS ty fs parts cs = some (p, cs') → p → ∃ cells', Instr.fill place cells us = some cells' ∧ RepCells w φ ok cs' cells'.toList
  | [], us, cs, cs', cells, p, h, hl, hr, he, hp => by
    obtain rfl : us = [] := List.length_eq_zero_iff.1 hl
    simp only [fillS, Option.some.injEq, Prod.mk.injEq] at he
    obtain ⟨_, rfl⟩ := he
    exact ⟨cells, rfl, h⟩
  | (i, x) :: r, us, cs, cs', cells, p, h, hl, hr, he, hp => by
    cases us with
    | nil => simp at hl
    | cons u us =>
      obtain ⟨i', v⟩ := u
      obtain ⟨rfl, hx⟩ := hr 0 (i, x) (i', v) rfl rfl
      simp only [fillS] at he
      split at he
      · rename_i off ft hfs
        split at he
        · rename_i fi hfi
          split at he
          · rename_i q cs2 hq
            simp only [Option.some.injEq, Prod.mk.injEq] at he
            obtain ⟨rfl, rfl⟩ := he
            obtain ⟨⟨h1, h2, h3⟩, hq'⟩ := hp
            have hc := hx.cells h3
            have hv : v.cells.size = fi.size := by rw [← h1, ← hc.1]; simp
            have hcl : cells.size = cs.length := by rw [← h.1]; simp
            obtain ⟨cells2, e2, e3⟩ := fill_step place cells i v us off fi.size (hplace i off ft fi hfs hfi) hv (by omega)
            rw [e3]
            exact fillS_ok hty fs place hplace r us _ _ cells2 q (by rw [e2]; exact splice_rep h hc (by rw [h1]; exact h2)) (by simpa using hl)
              (fun j a b ha hb => hr (j + 1) a b (by simpa using ha) (by simpa using hb)) hq hq'
          · cases he
        · cases he
      · cases he

theorem fillL_ok {w : World} {φ : Nat → Option Loc} {ok : Nat → Nat → Prop} (size : Nat) :
    ∀ (parts : List (Nat × AV)) (us : List (Nat × Value)) (cs : List AV) (cells : Array Value), RepCells w φ ok cs cells.toList →
      us.length = parts.length → (∀ (j : Nat) (x : Nat × AV) (u : Nat × Value), parts[j]? = some x → us[j]? = some u → x.1 = u.1 ∧ Rep w φ ok x.2 u.2) →
      (fillL size parts cs).1 → ∃ cells', Instr.fill (fun i => some (i * size, size)) cells us = some cells' ∧ RepCells w φ ok (fillL size parts cs).2 cells'.toList
  | [], us, cs, cells, h, hl, hr, hp => by
    obtain rfl : us = [] := List.length_eq_zero_iff.1 hl
    exact ⟨cells, rfl, h⟩
  | (i, x) :: r, us, cs, cells, h, hl, hr, hp => by
    cases us with
    | nil => simp at hl
    | cons u us =>
      obtain ⟨i', v⟩ := u
      obtain ⟨rfl, hx⟩ := hr 0 (i, x) (i', v) rfl rfl
      simp only [fillL] at hp ⊢
      obtain ⟨⟨h1, h2, h3⟩, hq'⟩ := hp
      have hc := hx.cells h3
      have hv : v.cells.size = size := by rw [← h1, ← hc.1]; simp
      have hcl : cells.size = cs.length := by rw [← h.1]; simp
      obtain ⟨cells2, e2, e3⟩ := fill_step (fun i => some (i * size, size)) cells i v us (i * size) size rfl hv (by omega)
      rw [e3]
      exact fillL_ok size r us _ cells2 (by rw [e2]; exact splice_rep h hc (by rw [h1]; exact h2)) (by simpa using hl)
        (fun j a b ha hb => hr (j + 1) a b (by simpa using ha) (by simpa using hb)) hq'

theorem zeros_length (s : Nat) (z : List AV) (h : z.length = s) : ∀ n, (zeros s z n).length = n * s
  | 0 => by simp [zeros]
  | n + 1 => by simp [zeros, zeros_length s z h n, h, Nat.succ_mul, Nat.add_comm]

theorem zeros_get (s : Nat) (z : List AV) (h : z.length = s) (hs : 0 < s) : ∀ n i, i < n * s → (zeros s z n)[i]? = z[i % s]?
  | 0, i, hi => by simp at hi
  | n + 1, i, hi => by
    simp only [zeros]
    rw [List.getElem?_append]
    have : (z.take s).length = s := by simp [h]
    rw [this]
    split
    · rename_i hlt; rw [List.getElem?_take_of_lt hlt, Nat.mod_eq_of_lt hlt]
    · rename_i hge
      rw [zeros_get s z h hs n (i - s) (by rw [Nat.succ_mul] at hi; omega), Nat.mod_eq_sub_mod (by omega : s ≤ i)]

theorem zeros_rep {w : World} {φ : Nat → Option Loc} {ok : Nat → Nat → Prop} {z : List AV} {zs : Array Value} (h : RepCells w φ ok z zs.toList) {s : Nat} (hs : z.length = s) (hpos : 0 < s) (n : Nat) :
    RepCells w φ ok (zeros s z n) ((Array.range (n * s)).map (zs[· % zs.size]!)).toList := by
  have hz : zs.size = s := by have := h.1; simpa [hs] using this
  refine ⟨by simp [zeros_length s z hs], fun i x v hx hv => ?_⟩
  have hi : i < n * s := by
    have := (List.getElem?_eq_some_iff.1 hx).1
    rwa [zeros_length s z hs] at this
  rw [zeros_get s z hs hpos n i hi] at hx
  have hm : i % s < s := Nat.mod_lt _ hpos
  have hv' : zs[i % s]? = some v := by
    have h2 : i % zs.size < zs.size := by rw [hz]; exact hm
    have e : (zs[i % zs.size]! : Value) = zs[i % zs.size] := by simp [h2]
    simp only [Array.toList_map, Array.toList_range, List.getElem?_map, List.getElem?_range hi, Option.map_some, Option.some.injEq] at hv
    rw [e] at hv
    rw [← hv]
    have : zs[i % s]? = some zs[i % s] := Array.getElem?_eq_getElem (by omega)
    rw [this]; congr 1; simp [hz]
  exact h.2 _ x v hx (by simpa using hv')

theorem chunk_length (agg : Bool) (s : Nat) : ∀ n l, (chunk agg s n l).length = n
  | 0, l => rfl
  | n + 1, l => by simp [chunk, chunk_length agg s n]

theorem chunk_get (agg : Bool) (s : Nat) : ∀ n (l : List AV) i, i < n → (chunk agg s n l)[i]? = some (if agg then .agg ((l.drop (i * s)).take s) else l.getD (i * s) .undef)
  | 0, l, i, h => by omega
  | n + 1, l, i, h => by
    simp only [chunk]
    cases i with
    | zero => cases agg <;> simp
    | succ i =>
      rw [List.getElem?_cons_succ, chunk_get agg s n _ i (by omega)]
      cases agg
      · simp only [Bool.false_eq_true, if_false, List.getD, List.getElem?_drop, Nat.succ_mul, Nat.add_comm s]
      · simp only [if_true, List.drop_drop, Nat.succ_mul, Nat.add_comm s]

theorem AV.cells_flat {x : AV} (h : x.flat = true) : x.cells = [x] := by
  cases x <;> simp_all [AV.flat, AV.cells]

theorem Rep.not_agg {w : World} {φ : Nat → Option Loc} {ok : Nat → Nat → Prop} {x : AV} {v : Value} (h : Rep w φ ok x v) (hv : v.oneCell' = true) : x.flat = true := by
  cases h <;> simp_all [AV.flat, Value.oneCell']

end Go.Av
