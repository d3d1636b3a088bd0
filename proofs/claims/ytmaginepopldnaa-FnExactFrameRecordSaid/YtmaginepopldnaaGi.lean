/- A small logic for code over pictures of values and boxes: part 9. -/
import Derived.Test.YtmaginepopldnaaGh
set_option linter.unusedSimpArgs false
set_option linter.unusedVariables false
/- A literal that makes a box between quiet steps. -/
namespace Go.Av

section
variable {P : Program} {ty : TypeId → Option TI} {n : Nat} {l : List Oper} {K : St → Prop} {tp : TypeId} {pos : String} {aft : Array Edge} {gd : Option (Nat × Bool)} {env : List (Nat × AV)} {bx bx0 : List (Nat × Option Box)} {nx : Nat} {d : Tmp}
  {t xt : TypeId} {x y : Operand}

theorem GtsI.get {env : List (Nat × AV)} : ∀ {k : Nat} {l : List (Nat × Operand)} {r : List AV}, GtsI env k l r → r.length = l.length ∧ ∀ (j : Nat) (p : Nat × Operand) (q : Nat × AV), l[j]? = some p → (parts k r)[j]? = some q → q.1 = p.1 ∧ Gt env p.2 q.2
  | _, [], [], _ => ⟨rfl, fun j p q h => by simp at h⟩
  | k, (i, x) :: l, v :: r, h => by
    obtain ⟨rfl, h1, h2⟩ := h
    obtain ⟨g1, g2⟩ := GtsI.get h2
    refine ⟨by simp [g1], fun j p q hp hq => ?_⟩
    cases j with
    | zero => simp [parts] at hp hq; subst hp; subst hq; exact ⟨rfl, h1⟩
    | succ j => exact g2 j p q (by simpa using hp) (by simpa [parts] using hq)
  | _, [], _ :: _, h => h.elim
  | _, _ :: _, [], h => h.elim
theorem parts_length : ∀ (k : Nat) (l : List AV), (parts k l).length = l.length
  | _, [] => rfl
  | k, x :: l => by simp [parts, parts_length (k + 1) l]

theorem L_buildL (hty : TyOk P ty) {len : Nat} {ps : List (Nat × Operand)} {vs : List AV} {e : TypeId} {ti ei : TI} (ht : ty t = some ti) (hk : ti.k = .slice e) (he : ty e = some ei) (hg : GtsI env 0 ps vs)
    (hl : vs.length = len) (hv : Elts ei vs) (hlim : len * ei.size ≤ 16777216) (hpos : 0 < ei.size) (hd : slotOk n (some d) = true) (hn : box? bx0 nx = none)
    (h : WL P n bx0 l ⟨(d, .sl nx 0 len len) :: env, (nx, some ⟨vs, ei.size, true, false⟩) :: bx, nx + 1⟩ K) :
    WL P n bx0 (⟨some d, .buildSlice t len ps.toArray, tp, pos, aft, gd⟩ :: l) ⟨env, bx, nx⟩ K := by
  subst hl
  refine ⟨hd, fun hS => ⟨.sl nx 0 vs.length vs.length, _, _, ?_, stay_cons hn hS, h⟩⟩
  obtain ⟨h1, h2, h3⟩ := elts_facts hty he hv hpos
  obtain ⟨g1, g2⟩ := hg.get
  intro G φ w ρ hr hx
  have hus : ∀ (j : Nat) (x : Nat × AV) (u : Nat × Value), (parts 0 vs)[j]? = some x → (ps.map fun p => (p.1, ρ p.2))[j]? = some u → x.1 = u.1 ∧ Rep w φ (OK G bx φ w) x.2 u.2 := by
    intro j x u hj hu
    rw [List.getElem?_map] at hu
    simp only [Option.map_eq_some_iff] at hu
    obtain ⟨p, hp, rfl⟩ := hu
    obtain ⟨k1, k2⟩ := g2 j p x hp hj
    refine ⟨k1, ?_⟩
    have := hx p.2 (by
      have hm := List.mem_of_getElem? hp
      simp only [Op.operands, List.map_toArray, List.mem_toArray, List.mem_map]
      exact ⟨p, hm, rfl⟩)
    rw [k2.get bx nx] at this
    exact this
  have hlen : (ps.map fun p => (p.1, ρ p.2)).length = (parts 0 vs).length := by rw [List.length_map, parts_length, g1]
  obtain ⟨cells, c1, c2, c3⟩ := buildSlice_at (P := P) hty hr ht hk he hlen vs.length hus h1 hlim hpos (by rw [h2]; exact h3)
  rw [h2] at c3
  refine ⟨w.alloc (.cells cells e), upd φ nx ⟨w.heap.size, 0, ei.size, vs.length * ei.size, true, false⟩, ?_, .inl ⟨.slice (some ⟨w.heap.size, 0, none⟩) vs.length vs.length, ?_, rep_new_row nx (Nat.le_refl _) (Nat.le_refl _) (fun h => by cases h) rfl⟩⟩
  · exact hr.add_box (w' := w.alloc (.cells cells e)) (.alloc w _) (L := ⟨w.heap.size, 0, ei.size, vs.length * ei.size, true, false⟩) (b := ⟨vs, ei.size, true, false⟩) (fun _ => Nat.le_refl _) rfl rfl (fun i x hx => (h3 x (List.mem_of_getElem? hx)).1) (fun h => by cases h)
      (fun _ => ⟨cells, e, (0, 0), by simp [World.alloc, -World.alloc_eq], c2, by simp only [Nat.zero_add]; exact Nat.le_refl _, fun o _ => by simp⟩) (fun _ i x j y hx hy => c3 i x j y hx hy)
  · have : (ps.toArray.map fun p => (p.1, ρ p.2)) = (ps.map fun p => (p.1, ρ p.2)).toArray := by simp
    simp [execOp, this, c1]
end

end Go.Av
