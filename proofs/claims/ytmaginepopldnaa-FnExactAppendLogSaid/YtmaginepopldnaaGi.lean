/- A small logic for code over pictures of values and boxes: part 9. -/
import Derived.Test.YtmaginepopldnaaGh
set_option linter.unusedSimpArgs false
set_option linter.unusedVariables false
/- A literal that makes a box between quiet steps. -/
namespace Go.Av

section
variable {P : Program} {ty : TypeId → Option TI} {n : Nat} {l : List Oper} {K : St → Prop} {tp : TypeId} {pos : String} {aft : Array Edge} {gd : Option (Nat × Bool)} {env : List (Nat × AV)} {bx bx0 : List (Nat × Option Box)} {nx : Nat} {d : Tmp}
  {t xt : TypeId} {x y : Operand}

theorem GtsI.get {env : List (Nat × AV)} : ∀ {k : Nat} {l : List (Nat × Operand)} {r : List AV}, GtsI env k l r → r.length = l.length ∧ ∀ (j : Nat) (p : Nat × Operand) (q : Nat × AV), l[j]? = some p → (parts k r)[j]? = some q → q.1 = p.1 ∧ Gt env p.2 q.2
  | _, [], [], _ => ⟨rfl, fun j p q h => by simp at h⟩
  | k, (i, x) :: l, v :: r, h => by
    obtain ⟨rfl, h1, h2⟩ := h
    obtain ⟨g1, g2⟩ := GtsI.get h2
    refine ⟨by simp [g1], fun j p q hp hq => ?_⟩
    cases j with
    | zero => simp [parts] at hp hq; subst hp; subst hq; exact ⟨rfl, h1⟩
    | succ j => exact g2 j p q (by simpa using hp) (by simpa [parts] using hq)
  | _, [], _ :: _, h => h.elim
  | _, _ :: _, [], h => h.elim
theorem parts_length : ∀ (k : Nat) (l : List AV), (parts k l).length = l.length
  | _, [] => rfl
  | k, x :: l => by simp [parts, parts_length (k + 1) l]

theorem L_buildL (hty : TyOk P ty) {len : Nat} {ps : List (Nat × Operand)} {vs : List AV} {e : TypeId} {ti ei : TI} (ht : ty t = some ti) (hk : ti.k = .slice e) (he : ty e = some ei) (hg : GtsI env 0 ps vs)
    (hl : vs.length = len) (hv : Elts ei vs) (hlim : len * ei.size ≤ 16777216) (hpos : 0 < ei.size) (hd : slotOk n (some d) = true) (hn : box? bx0 nx = none)
    (h : WL P n bx0 l ⟨(d, .sl nx 0 len len) :: env, (nx, some ⟨vs, ei.size, true, false⟩) :: bx, nx + 1⟩ K) :
    WL P n bx0 (⟨some d, .buildSlice t len ps.toArray, tp, pos, aft, gd⟩ :: l) ⟨env, bx, nx⟩ K := by
  subst hl
  refine ⟨hd, fun hS => ⟨.sl nx 0 vs.length vs.length, _, _, ?_, stay_cons hn hS, h⟩⟩
  obtain ⟨h1, h2, h3⟩ := elts_facts hty he hv hpos
  obtain ⟨g1, g2⟩ := hg.get
  refine .inl ?_
  intro G φ w ρ hr hx
  have hus : ∀ (j : Nat) (x : Nat × AV) (u : Nat × Value), (parts 0 vs)[j]? = some x → (ps.map fun p => (p.1, ρ p.2))[j]? = some u → x.1 = u.1 ∧ Rep w φ (OK G bx φ w) x.2 u.2 := by
    intro j x u hj hu
    rw [List.getElem?_map] at hu
    simp only [Option.map_eq_some_iff] at hu
    obtain ⟨p, hp, rfl⟩ := hu
    obtain ⟨k1, k2⟩ := g2 j p x hp hj
    refine ⟨k1, ?_⟩
    have := hx p.2 (by
      have hm := List.mem_of_getElem? hp
      simp only [Op.operands, List.map_toArray, List.mem_toArray, List.mem_map]
      exact ⟨p, hm, rfl⟩)
    rw [k2.get bx nx] at this
    exact this
  have hlen : (ps.map fun p => (p.1, ρ p.2)).length = (parts 0 vs).length := by rw [List.length_map, parts_length, g1]
  obtain ⟨cells, c1, c2, c3⟩ := buildSlice_at (P := P) hty hr ht hk he hlen vs.length hus h1 hlim hpos (by rw [h2]; exact h3)
  rw [h2] at c3
  refine ⟨w.alloc (.cells cells e), upd φ nx ⟨w.heap.size, 0, ei.size, vs.length * ei.size, true, false⟩, ?_, .inl ⟨.slice (some ⟨w.heap.size, 0, none⟩) vs.length vs.length, ?_, rep_new_row nx (Nat.le_refl _) (Nat.le_refl _) (fun h => by cases h) rfl⟩⟩
  · exact hr.add_box (w' := w.alloc (.cells cells e)) (.alloc w _) (L := ⟨w.heap.size, 0, ei.size, vs.length * ei.size, true, false⟩) (b := ⟨vs, ei.size, true, false⟩) (fun _ => Nat.le_refl _) rfl rfl (fun i x hx => (h3 x (List.mem_of_getElem? hx)).1) (fun h => by cases h)
      (fun _ => ⟨cells, e, (0, 0), by simp [World.alloc, -World.alloc_eq], c2, by simp only [Nat.zero_add]; exact Nat.le_refl _, fun o _ => by simp⟩) (fun _ i x j y hx hy => c3 i x j y hx hy)
  · have : (ps.toArray.map fun p => (p.1, ρ p.2)) = (ps.map fun p => (p.1, ρ p.2)).toArray := by simp
    simp [execOp, this, c1]

theorem stay_app {bx0 bx : List (Nat × Option Box)} {nx : Nat} (hlt : (bx0.map (·.1)).all (fun i => decide (i < nx)) = true) : ∀ {b0 : List (Nat × Option Box)}, OwnB nx b0 → Stay bx0 bx → Stay bx0 (b0 ++ bx) := by
  intro b0 hb h id B hB
  have hid : id < nx := by
    have hm : id ∈ bx0.map (·.1) := by
      unfold box? at hB
      cases hl : look bx0 id with
      | none => rw [hl] at hB; cases hB
      | some x => exact look_mem hl
    simpa using List.all_eq_true.1 hlt id hm
  rw [box?_append]
  cases hl : look b0 id with
  | none => exact h id B hB
  | some b => have := hb.1 id b hl; omega

/-- A call that hands out boxes of its own, between quiet steps. -/
theorem L_callI {f : FuncId} {args : List Operand} {ats : Array TypeId} {xs ys : List AV} {r0 : AV} {b0 : List (Nat × Option Box)} {n0 : Nat} (hg : Gts env args xs) (hv : ViewL bx xs ys) (hc : CR P f ys [] nx (Is r0 b0 n0)) (ho : Own r0) (hb : OwnB nx b0) (hd : slotOk n (some d) = true)
    (hlt : (bx0.map (·.1)).all (fun i => decide (i < nx)) = true)
    (h : WL P n bx0 l ⟨(d, r0) :: env, b0 ++ bx, n0⟩ K) :
    WL P n bx0 (⟨some d, .call ⟨.value (.func f), args.toArray, ats⟩, tp, pos, aft, gd⟩ :: l) ⟨env, bx, nx⟩ K := by
  refine ⟨hd, fun hS => ⟨r0, b0 ++ bx, n0, .inr ⟨f, xs, by simp [callOf, St.get, hg.map bx nx], ?_⟩, stay_app hlt hb hS, h⟩⟩
  refine ⟨hc.1, fun G φ w vs hrel hA => ?_⟩
  refine ((hc.lend hv (fun r b n ⟨e1, e2, e3⟩ => by subst e1 e2 e3; exact ⟨ho, hb⟩)).2 G φ w vs hrel hA).mono ?_
  rintro e w' ⟨v, r, bx', nx', φ', rfl, ⟨b1, ⟨e1, e2, e3⟩, e4⟩, hadv, hrep⟩
  subst e1 e2 e3 e4
  exact ⟨v, r, b1 ++ bx, nx', φ', rfl, ⟨rfl, rfl, rfl⟩, hadv, hrep⟩
end

end Go.Av
