/- Relayers that are drawn: what is drawn. -/
import Derived.Test.YtgakkecaflppfaaYa
import Derived.Test.YtgakkecaflppfaaWu
import Derived.Test.YtgakkecaflppfaaWs
set_option maxRecDepth 100000
set_option maxHeartbeats 3200000
set_option linter.unusedSimpArgs false
set_option linter.unusedVariables false
namespace Go.Proofs.Ytgakkecaflppfaa
open Go.Av
attribute [local irreducible] T thenQ blockQ againQ againS WX retV retR Gt Gts GtsP okCells CV CR Av.Pure
attribute [local irreducible] nextV

structure Drw where
  cur : Int
  que : List Itm
  at' : Nat

def drwStep (code : List UInt8) (s : Drw) : Drw :=
  if nextV code s.at' 4 = 0 ∨ nextV code s.at' 4 = 1 then
    (if scanCode s.cur s.que (s.cur + 1) = 0 then ⟨s.cur + 1, s.que ++ [(⟨s.cur + 1, 0, 0⟩ : Itm)], s.at' + 1⟩ else ⟨s.cur, s.que, s.at' + 1⟩)
  else if nextV code s.at' 4 = 2 then
    (if tryCode s.que (1 + nextV code (s.at' + 1) 4) (nextV code (s.at' + 2) 40) = 0 then ⟨s.cur, tryQ s.que (1 + nextV code (s.at' + 1) 4) (nextV code (s.at' + 2) 40), s.at' + 3⟩ else ⟨s.cur, s.que, s.at' + 3⟩)
  else (if settleCode s.que (1 + nextV code (s.at' + 1) 4) = 0 then ⟨s.cur, settleQ s.que (1 + nextV code (s.at' + 1) 4), s.at' + 2⟩ else ⟨s.cur, s.que, s.at' + 2⟩)
def drwRuns (code : List UInt8) : Nat → Drw → Drw
  | 0, s => s
  | n + 1, s => drwRuns code n (drwStep code s)

def DrwOk (s : Drw) : Prop := 0 ≤ s.cur ∧ s.que.length ≤ 12 ∧ ∀ j, j < s.que.length → itemOk s.cur (s.que.getD j it0)

theorem items_mem {c : Int} {q : List Itm} : (∀ j, j < q.length → itemOk c (q.getD j it0)) ↔ ∀ x ∈ q, itemOk c x := by
  constructor
  · intro h x hx
    obtain ⟨j, hj⟩ := List.getElem?_of_mem hx
    have hl := (List.getElem?_eq_some_iff.1 hj).1
    have := h j hl
    rw [List.getD_eq_getElem?_getD, hj] at this
    exact this
  · intro h j hj
    exact h _ (getD_mem q it0 hj)
theorem itemOk_up {c c' : Int} {x : Itm} (h : itemOk c x) (hc : c ≤ c') : itemOk c' x := ⟨⟨h.1.1, by have := h.1.2; omega⟩, h.2⟩
theorem tryItm_ok {c t : Int} {x : Itm} (h : itemOk c x) (ht : 0 ≤ t ∧ t ≤ 1099511627776) : itemOk c (tryItm x t) := by
  obtain ⟨h1, h2, h3⟩ := h
  have hm : 0 ≤ tryM x ∧ tryM x ≤ 8 := by unfold tryM; split <;> omega
  have hp := pow_le9 hm.1 hm.2
  exact ⟨h1, hm, by show 0 ≤ t + 2 ^ (tryM x).toNat; omega, by show t + 2 ^ (tryM x).toNat ≤ 2199023255552; omega⟩
theorem tryQ_ok {c n t : Int} {q : List Itm} (h : ∀ x ∈ q, itemOk c x) (ht : tryCode q n t = 0) : ∀ x ∈ tryQ q n t, itemOk c x := by
  obtain ⟨h1, h2, h3⟩ := tryCode_ok ht
  intro x hx
  unfold tryQ at hx
  rcases List.mem_or_eq_of_mem_set hx with hx | rfl
  · exact h x hx
  · exact tryItm_ok (h _ (getD_mem q it0 (by omega))) h1
theorem settleQ_ok {c n : Int} {q : List Itm} (h : ∀ x ∈ q, itemOk c x) : ∀ x ∈ settleQ q n, itemOk c x := fun x hx => h x (List.mem_of_mem_eraseIdx hx)

theorem drwStep_ok (code : List UInt8) {s : Drw} (h : DrwOk s) : DrwOk (drwStep code s) ∧ (drwStep code s).cur ≤ s.cur + 1 ∧ s.at' ≤ (drwStep code s).at' ∧ (drwStep code s).at' ≤ s.at' + 3 := by
  obtain ⟨h1, h2, h3⟩ := h
  rw [items_mem] at h3
  unfold drwStep
  split
  · split
    · rename_i e
      obtain ⟨e1, e2, e3⟩ := scanCode_ok e
      refine ⟨⟨by show 0 ≤ s.cur + 1; omega, by show (s.que ++ [_]).length ≤ 12; rw [List.length_append]; simp; omega, ?_⟩, by show s.cur + 1 ≤ s.cur + 1; omega, by show s.at' ≤ s.at' + 1; omega, by show s.at' + 1 ≤ s.at' + 3; omega⟩
      rw [items_mem]
      intro x hx
      rcases List.mem_append.1 hx with hx | hx
      · exact itemOk_up (h3 x hx) (by show s.cur ≤ s.cur + 1; omega)
      · obtain rfl : x = ⟨s.cur + 1, 0, 0⟩ := by simpa using hx
        exact ⟨⟨by show 1 ≤ s.cur + 1; omega, by show s.cur + 1 ≤ s.cur + 1; omega⟩, ⟨by show (0 : Int) ≤ 0; decide, by show (0 : Int) ≤ 8; decide⟩, ⟨by show (0 : Int) ≤ 0; decide, by show (0 : Int) ≤ 2199023255552; decide⟩⟩
    · exact ⟨⟨h1, h2, by rw [items_mem]; exact h3⟩, by show s.cur ≤ s.cur + 1; omega, by show s.at' ≤ s.at' + 1; omega, by show s.at' + 1 ≤ s.at' + 3; omega⟩
  · split
    · split
      · rename_i e
        exact ⟨⟨h1, by show (tryQ _ _ _).length ≤ 12; rw [tryQ_length]; exact h2, by rw [items_mem]; exact tryQ_ok h3 e⟩, by show s.cur ≤ s.cur + 1; omega, by show s.at' ≤ s.at' + 3; omega, by show s.at' + 3 ≤ s.at' + 3; omega⟩
      · exact ⟨⟨h1, h2, by rw [items_mem]; exact h3⟩, by show s.cur ≤ s.cur + 1; omega, by show s.at' ≤ s.at' + 3; omega, by show s.at' + 3 ≤ s.at' + 3; omega⟩
    · split
      · rename_i e
        refine ⟨⟨h1, ?_, by rw [items_mem]; exact settleQ_ok h3⟩, by show s.cur ≤ s.cur + 1; omega, by show s.at' ≤ s.at' + 2; omega, by show s.at' + 2 ≤ s.at' + 3; omega⟩
        have : (settleQ s.que (1 + nextV code (s.at' + 1) 4)).length ≤ s.que.length := List.length_eraseIdx_le _ _
        show (settleQ _ _).length ≤ 12
        omega
      · exact ⟨⟨h1, h2, by rw [items_mem]; exact h3⟩, by show s.cur ≤ s.cur + 1; omega, by show s.at' ≤ s.at' + 2; omega, by show s.at' + 2 ≤ s.at' + 3; omega⟩

def cntItm (j : Nat) : Itm := ⟨((j + 1 : Nat) : Int), 0, 0⟩
def cntQ (n : Nat) : List Itm := (List.range n).map cntItm
theorem cntQ_length (n : Nat) : (cntQ n).length = n := by simp [cntQ]
theorem cntQ_succ (n : Nat) : cntQ (n + 1) = cntQ n ++ [cntItm n] := by simp [cntQ, List.range_succ]

def drwLast (code : List UInt8) (s : Drw) : Drw :=
  if nextV code s.at' 20 = 0 then ⟨pickV code (s.at' + 1) [-1, 1000000, 1000001, 0], s.que, s.at' + 2⟩
  else if nextV code s.at' 20 = 1 then ⟨s.cur, s.que ++ [(⟨pickV code (s.at' + 1) [0, 1, s.cur, s.cur + 1], pickV code (s.at' + 2) [0, 8, 9, -1], pickV code (s.at' + 3) [0, 2199023255552, 2199023255553, -1]⟩ : Itm)], s.at' + 4⟩
  else if nextV code s.at' 20 = 2 then (if nextV code (s.at' + 13) 2 = 1 then ⟨20, cntQ 13, s.at' + 15⟩ else ⟨20, cntQ 12, s.at' + 14⟩)
  else ⟨s.cur, s.que, s.at' + 1⟩
theorem drwLast_le (code : List UInt8) {s : Drw} (h : s.que.length ≤ 12) : (drwLast code s).que.length ≤ 13 ∧ (drwLast code s).at' ≤ s.at' + 15 := by
  unfold drwLast
  split
  · exact ⟨by show s.que.length ≤ 13; omega, by show s.at' + 2 ≤ s.at' + 15; omega⟩
  · split
    · exact ⟨by show (s.que ++ [_]).length ≤ 13; rw [List.length_append]; simp; omega, by show s.at' + 4 ≤ s.at' + 15; omega⟩
    · split
      · split
        · exact ⟨by show (cntQ 13).length ≤ 13; rw [cntQ_length]; omega, by show s.at' + 15 ≤ s.at' + 15; omega⟩
        · exact ⟨by show (cntQ 12).length ≤ 13; rw [cntQ_length]; omega, by show s.at' + 14 ≤ s.at' + 15; omega⟩
      · exact ⟨by show s.que.length ≤ 13; omega, by show s.at' + 1 ≤ s.at' + 15; omega⟩
def drwRel (code : List UInt8) (k : Nat) : Drw := drwLast code (drwRuns code (nextV code k 8).toNat ⟨0, [], k + 1⟩)
theorem drwRuns_ok (code : List UInt8) : ∀ (n : Nat) (s : Drw), DrwOk s → DrwOk (drwRuns code n s) ∧ (drwRuns code n s).cur ≤ s.cur + n ∧ (drwRuns code n s).at' ≤ s.at' + 3 * n
  | 0, s, h => ⟨h, by simp [drwRuns], by simp [drwRuns]⟩
  | n + 1, s, h => by
    obtain ⟨h1, h2, h3, h4⟩ := drwStep_ok code h
    obtain ⟨k1, k2, k3⟩ := drwRuns_ok code n _ h1
    rw [drwRuns]
    exact ⟨k1, by omega, by omega⟩
theorem drw0_ok (k : Nat) : DrwOk ⟨0, [], k⟩ := ⟨Int.le_refl _, by show (0 : Nat) ≤ 12; decide, fun j hj => absurd hj (Nat.not_lt_zero j)⟩
theorem drwRel_le (code : List UInt8) (k : Nat) : (drwRel code k).que.length ≤ 13 ∧ (drwRel code k).at' ≤ k + 40 := by
  have hr := nextV_range code k (n := 8) (by decide)
  obtain ⟨⟨h1, h2, h3⟩, h4, h5⟩ := drwRuns_ok code (nextV code k 8).toNat ⟨0, [], k + 1⟩ (drw0_ok _)
  have := drwLast_le code h2
  unfold drwRel
  simp only at h5
  exact ⟨this.1, by omega⟩

end Go.Proofs.Ytgakkecaflppfaa
