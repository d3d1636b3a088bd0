/- Appends to literals and to nil; rows cleared. -/
import Derived.Test.YtgakkecaflppfaaAv16
set_option linter.unusedSimpArgs false
namespace Go.Av

section
variable {P : Program} {ty : TypeId → Option TI} {G : Gh} {bx : List (Nat × Option Box)} {nx : Nat} {φ : Nat → Option Loc} {w : World}

theorem LsOk.cap_eq {n e : Bool} {k : Nat} {a : Option Addr} {c : Nat} (h : LsOk n e k a c) (hne : e = true) : c = k := h.2.1 hne

theorem append_new (hrel : Rel G bx nx φ w) {t xt : TypeId} (ty' : TypeId) {e : TypeId} {ei : TI} {d : TypeDesc} {f : TypeInfo} {z : Value} (hu : P.underlying t = some (.slice e)) (T : TyAt P e ei d f z)
    {st : Nat} {nil ex : Bool} {us0 : Value} (hs : Rep w φ (OK G bx φ w) (.ls st nil ex []) us0) (hne : nil = true ∧ ex = true) {u : Value} {ys : List AV} {us : List Value}
    (hys : ∀ (i : Nat) (x : AV), ys[i]? = some x → okCells ei.size x) (hul : us.length = ys.length * ei.size) (hsrc : AppSrc P ei z w xt u ys.length us) (hus : RepCells w φ (OK G bx φ w) (flatC ys) us)
    (hbytes : ys.length * ei.bytes ≤ 140737488355328) (hpos : 0 < ei.bytes) :
    ∃ v w' φ', (Builtin.append_ #[t, xt] ty' #[us0, u]).run P w = .ok v w' ∧
      Rep w' φ' (OK G ((nx, some ⟨ys, ei.size, true, false⟩) :: bx) φ' w') (.sl nx 0 ys.length ys.length) v ∧
      Adv G bx φ w ((nx, some ⟨ys, ei.size, true, false⟩) :: bx) (nx + 1) φ' w' := by
  obtain ⟨a, c, rfl⟩ := hs.ls_val
  obtain ⟨_, hl, _⟩ := hs.ls_cells
  have hc := hl.cap_eq hne.2
  simp only [List.length_nil] at hc ⊢
  subst hc
  have hspot : ∀ x, a = some x → x.spot = none := by
    intro x hx
    rw [hl.2.2.1 hne.1 hne.2] at hx
    cases hx
  by_cases hy0 : ys = []
  · subst hy0
    have hu0 : us = [] := List.length_eq_zero_iff.1 (by simpa using hul)
    subst hu0
    have hrun : (Builtin.append_ #[t, xt] ty' #[.slice a 0 0, u]).run P w = .ok (.slice a 0 0) w := by
      rw [run_append_fits t xt ty' hu T hsrc (by simp) hul]
      cases a <;> simp [storeCells]
    have hA := (hrel.add_box (.refl w) (L := ⟨0, 0, ei.size, 0, true, true⟩) (b := ⟨[], ei.size, true, false⟩) (fun h => (by cases h)) rfl rfl (fun i x h => (by simp at h)) (fun _ => rfl) (fun h => (by cases h)) (fun h => (by cases h)))
    refine ⟨_, w, _, hrun, ?_, hA⟩
    exact .sl nx 0 0 0 ⟨0, 0, ei.size, 0, true, true⟩ a 0 (by simp [upd]) ⟨Nat.le_refl _, Nat.le_refl _, fun h => (by cases h), hspot, fun h => absurd rfl h⟩
  · have hypos : 0 < ys.length := List.length_pos_iff.2 hy0
    have g2 : (Builtin.firstCells ei.size 0 (.slice a 0 0)).run P w.drew = .ok ([] : List Value).toArray w.drew := by
      cases a <;> simp [Builtin.firstCells, loadCells, loadCellsFrom]
    have h63 : ((0 + ys.length : Nat) : Int) ≤ 9223372036854775807 := by
      have : ys.length * 1 ≤ ys.length * ei.bytes := Nat.mul_le_mul_left _ hpos
      omega
    have hrun := run_append_grows t xt ty' hu T (base := a) (len := 0) (cap := 0) hsrc (by omega) hul (by rw [Nat.zero_add]; exact hbytes) h63 hpos g2
    have hgr := grown_ge w (0 + ys.length) 0 e
    have hA := new_row hrel (.drew w) rfl (st := ei.size) (E := ys) (us := us) (rest := Builtin.zeroCells z.cells (grownCap w (0 + ys.length) 0 e - (0 + ys.length))) e
      (c := grownCap w (0 + ys.length) 0 e) true hus hys (by omega) (by
        simp only [Array.size_append, List.size_toArray, hul]
        simp only [Builtin.zeroCells, Array.size_map, Array.size_range, T.cells, ← Nat.add_mul]
        congr 1
        omega)
    refine ⟨.slice (some ⟨w.heap.size, 0, none⟩) ys.length (grownCap w (0 + ys.length) 0 e), _, _, ?_, ?_, hA⟩
    · rw [hrun]
      simp
    · exact rep_new_row nx (Nat.le_refl _) (by omega) (fun h => (by cases h)) rfl

/-- A list of a new row, by value. -/
theorem rep_ls_new {w1 : World} (hrel : Rel G bx nx φ w) (hE : Ext w w1) (hsz : w1.heap.size = w.heap.size) {st : Nat} {E : List AV} {us : List Value} {rest : Array Value} (T : TypeId) {c : Nat} {ex : Bool}
    (hc : RepCells w φ (OK G bx φ w) (flatC E) us) (hlen : ∀ (i : Nat) (x : AV), E[i]? = some x → okCells st x) (hec : E.length ≤ c) (hex : ex = true → c = E.length) :
    Rep (w1.alloc (.cells (us.toArray ++ rest) T)) φ (OK G bx φ (w1.alloc (.cells (us.toArray ++ rest) T))) (.ls st false ex E) (.slice (some ⟨w.heap.size, 0, none⟩) E.length c) := by
  have hE2 : Ext w (w1.alloc (.cells (us.toArray ++ rest) T)) := hE.trans (.alloc w1 _)
  refine Rep.mk_ls ⟨hec, hex, fun h => (by cases h), fun _ => (by nofun), fun _ => ⟨_, _, rfl⟩⟩ hlen ?_
  intro b o hbo i x j y hx hy
  simp only [Option.some.injEq, Addr.mk.injEq] at hbo
  obtain ⟨rfl, rfl, _⟩ := hbo
  have hf := flatC_get E (fun i x h => (hlen i x h).1) i x j y hx hy
  have hlt : i * st + j < us.length := by rw [hc.1]; exact (List.getElem?_eq_some_iff.1 hf).1
  have hv : us[i * st + j]? = some us[i * st + j] := List.getElem?_eq_getElem hlt
  refine ⟨_, ?_, hrel.ok_new (Nat.le_refl _) (by rw [← hsz]; simp), (hc.2 _ y _ hf hv).ext hE2⟩
  simp only [Nat.zero_add]
  rw [← hsz, World.cell?_alloc_new, Array.getElem?_append_left (by simpa using hlt), List.getElem?_toArray]
  exact hv

theorem append_val (hrel : Rel G bx nx φ w) {t xt : TypeId} (ty' : TypeId) {e : TypeId} {ei : TI} {d : TypeDesc} {f : TypeInfo} {z : Value} (hu : P.underlying t = some (.slice e)) (T : TyAt P e ei d f z)
    {st : Nat} {nil ex : Bool} {xs : List AV} {us0 : Value} (hs : Rep w φ (OK G bx φ w) (.ls st nil ex xs) us0) (hne : ex = true) (hst : st = ei.size ∨ xs = []) {u : Value} {ys : List AV} {us : List Value}
    (hys : ∀ (i : Nat) (x : AV), ys[i]? = some x → okCells ei.size x) (hul : us.length = ys.length * ei.size) (hsrc : AppSrc P ei z w xt u ys.length us) (hus : RepCells w φ (OK G bx φ w) (flatC ys) us)
    (hbytes : (xs.length + ys.length) * ei.bytes ≤ 140737488355328) (hpos : 0 < ei.bytes) :
    ∃ v w', (Builtin.append_ #[t, xt] ty' #[us0, u]).run P w = .ok v w' ∧ Ext w w' ∧ Rep w' φ (OK G bx φ w') (.ls ei.size (nil && ys.isEmpty) false (xs ++ ys)) v := by
  obtain ⟨a, c, rfl⟩ := hs.ls_val
  obtain ⟨_, hl, hcell⟩ := hs.ls_cells
  have hlen := hs.ls_len
  have hlen' : ∀ (i : Nat) (x : AV), xs[i]? = some x → okCells ei.size x := by
    intro i x hi
    rcases hst with h | h
    · rw [← h]; exact hlen i x hi
    · subst h; simp at hi
  have hc := hl.cap_eq hne
  subst hc
  by_cases hy0 : ys = []
  · subst hy0
    have hu0 : us = [] := List.length_eq_zero_iff.1 (by simpa using hul)
    subst hu0
    have hrun : (Builtin.append_ #[t, xt] ty' #[.slice a xs.length xs.length, u]).run P w = .ok (.slice a xs.length xs.length) w := by
      rw [run_append_fits t xt ty' hu T hsrc (by simp) hul]
      cases a <;> simp [storeCells]
    refine ⟨_, w, hrun, .refl w, ?_⟩
    simp only [List.isEmpty_nil, Bool.and_true, List.append_nil]
    refine Rep.mk_ls ⟨hl.1, fun h => (by cases h), fun _ h => (by cases h), hl.2.2.2⟩ hlen' ?_
    intro b o ha i x j y hx hy
    rcases hst with h | h
    · rw [← h]; exact hcell b o ha i x j y hx hy
    · subst h; simp at hx
  · have hypos : 0 < ys.length := List.length_pos_iff.2 hy0
    have hold : ∃ olds : List Value, olds.length = xs.length * ei.size ∧ (Builtin.firstCells ei.size xs.length (.slice a xs.length xs.length)).run P w.drew = .ok olds.toArray w.drew ∧ RepCells w φ (OK G bx φ w) (flatC xs) olds := by
      by_cases hx0 : xs = []
      · subst hx0
        exact ⟨[], by simp, run_first0 a, ⟨rfl, fun i x v h => (by simp [flatC] at h)⟩⟩
      · obtain ⟨b, o, rfl⟩ := hl.addr (List.length_pos_iff.2 hx0)
        obtain ⟨olds, g1, g2, g3⟩ := cells_of_list (w := w) (φ := φ) (ok := OK G bx φ w) hlen' (b := b) (o := o) (fun i x j y hi hj => by
          obtain ⟨v, e1, _, e3⟩ := hcell b o rfl i x j y hi hj
          rcases hst with h | h
          · rw [← h]; exact ⟨v, e1, e3⟩
          · subst h; simp at hi)
        exact ⟨olds, g1, run_first g1 (w := w.drew) g2, g3⟩
    obtain ⟨olds, g1, g2, g3⟩ := hold
    have h63 : ((xs.length + ys.length : Nat) : Int) ≤ 9223372036854775807 := by
      have : (xs.length + ys.length) * 1 ≤ (xs.length + ys.length) * ei.bytes := Nat.mul_le_mul_left _ hpos
      omega
    have hrun := run_append_grows t xt ty' hu T (base := a) (cap := xs.length) hsrc (by omega) hul hbytes h63 hpos g2
    have hgr := grown_ge w (xs.length + ys.length) xs.length e
    have hall : RepCells w φ (OK G bx φ w) (flatC (xs ++ ys)) (olds ++ us) := by
      have : flatC (xs ++ ys) = flatC xs ++ flatC ys := by simp [flatC]
      rw [this]
      refine ⟨by simp [g3.1, hus.1], fun i x v hi hv => ?_⟩
      rw [List.getElem?_append] at hi hv
      rw [g3.1] at hv
      split at hi
      · rename_i hlt; rw [if_pos hlt] at hv; exact g3.2 i x v hi hv
      · rename_i hlt; rw [if_neg hlt] at hv; exact hus.2 _ x v hi hv
    have hlenE : ∀ (i : Nat) (x : AV), (xs ++ ys)[i]? = some x → okCells ei.size x := by
      intro i x hx
      rw [List.getElem?_append] at hx
      split at hx
      · exact hlen' i x hx
      · exact hys _ x hx
    have hR := rep_ls_new hrel (.drew w) rfl (st := ei.size) (E := xs ++ ys) (us := olds ++ us) (rest := Builtin.zeroCells z.cells (grownCap w (xs.length + ys.length) xs.length e - (xs.length + ys.length))) e
      (c := grownCap w (xs.length + ys.length) xs.length e) (ex := false) hall hlenE (by simp only [List.length_append]; exact hgr) (fun h => (by cases h))
    have hne' : (nil && ys.isEmpty) = false := by
      cases ys with
      | nil => exact absurd rfl hy0
      | cons _ _ => simp
    rw [hne']
    rw [List.length_append] at hR
    refine ⟨_, _, ?_, (Ext.drew w).trans (.alloc _ _), hR⟩
    rw [hrun]
    congr 3
    apply Array.ext'
    simp
end

end Go.Av
