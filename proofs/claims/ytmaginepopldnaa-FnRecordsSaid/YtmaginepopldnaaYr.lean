/- What a try leaves is whole. -/
import Derived.Test.YtmaginepopldnaaYq
set_option maxRecDepth 100000
set_option maxHeartbeats 3200000
set_option linter.unusedSimpArgs false
set_option linter.unusedVariables false
namespace Go.Proofs.Ytmaginepopldnaa
open Go.Av

theorem rel_all {c : Int} {q : List Itm} : ∀ (m i : Nat), relGo c q m i = 0 → ∀ j, i ≤ j → j < i + m → relStep c q j = 0
  | 0, i, _, j, h1, h2 => by omega
  | m + 1, i, h, j, h1, h2 => by
    rw [relGo] at h
    split at h
    · rename_i hs
      rcases Nat.eq_or_lt_of_le h1 with e | e
      · subst e; exact hs
      · exact rel_all m (i + 1) h j (by omega) (by omega)
    · rename_i hs; exact absurd h hs
theorem rel_of {c : Int} {q : List Itm} : ∀ (m i : Nat), (∀ j, i ≤ j → j < i + m → relStep c q j = 0) → relGo c q m i = 0
  | 0, i, _ => rfl
  | m + 1, i, h => by
    rw [relGo, if_pos (h i (Nat.le_refl _) (by omega))]
    exact rel_of m (i + 1) fun j h1 h2 => h j (by omega) (by omega)
theorem step_inc {c : Int} {q : List Itm} {j : Nat} (h : relStep c q j = 0) : itemOk c (q.getD j it0) ∧ (0 < j → (q.getD (j - 1) it0).nonce < (q.getD j it0).nonce) := by
  unfold relStep at h
  split at h
  · exact absurd h (by decide)
  · rename_i g
    split at h
    · exact absurd h (by decide)
    · exact ⟨Decidable.of_not_not g, fun hj => by omega⟩
theorem step_of {c : Int} {q : List Itm} {j : Nat} (h : itemOk c (q.getD j it0)) (h2 : 0 < j → (q.getD (j - 1) it0).nonce < (q.getD j it0).nonce) : relStep c q j = 0 := by
  unfold relStep
  rw [if_neg (fun k => k h), if_neg (fun k => by have := h2 k.1; omega)]
theorem inc_lt {q : List Itm} (h : ∀ j, j < q.length → 0 < j → (q.getD (j - 1) it0).nonce < (q.getD j it0).nonce) (i : Nat) : ∀ k, i + k + 1 < q.length → (q.getD i it0).nonce < (q.getD (i + k + 1) it0).nonce
  | 0, hk => h (i + 1) hk (by omega)
  | k + 1, hk => by
    have a := inc_lt h i k (by omega)
    have b := h (i + (k + 1) + 1) hk (by omega)
    rw [show i + (k + 1) + 1 - 1 = i + k + 1 by omega] at b
    omega
theorem findGo_nonce (n : Int) (q : List Itm) : ∀ m i, 0 ≤ findGo n q m i → (q.getD (findGo n q m i).toNat it0).nonce = n
  | 0, i, h => by rw [findGo] at h; omega
  | m + 1, i, h => by
    rw [findGo] at h ⊢
    split
    · rename_i g; rw [Int.toNat_natCast]; exact g
    · rename_i g; rw [if_neg g] at h; exact findGo_nonce n q m (i + 1) h
theorem tryQ_get {q : List Itm} {n t : Int} (h : tryCode q n t = 0) (j : Nat) : (tryQ q n t).getD j it0 = if j = (findI q n).toNat then tryItm (q.getD (findI q n).toNat it0) t else q.getD j it0 := by
  obtain ⟨h1, h2, h3⟩ := tryCode_ok h
  unfold tryQ
  rw [List.getD_eq_getElem?_getD, List.getElem?_set]
  by_cases e : (findI q n).toNat = j
  · rw [if_pos e, if_pos e.symm, if_pos (by omega)]; rfl
  · rw [if_neg e, if_neg (fun k => e k.symm), List.getD_eq_getElem?_getD]
theorem tryQ_nonce {q : List Itm} {n t : Int} (h : tryCode q n t = 0) (j : Nat) : ((tryQ q n t).getD j it0).nonce = (q.getD j it0).nonce := by
  rw [tryQ_get h]
  split
  · rename_i e; rw [e]
  · rfl
theorem tryQ_rel {c n t : Int} {q : List Itm} (hf : relFault c q = 0) (h : tryCode q n t = 0) : relFault c (tryQ q n t) = 0 := by
  obtain ⟨f1, f2, f3⟩ := relFault_ok hf
  obtain ⟨h1, h2, h3⟩ := tryCode_ok h
  have hl := tryQ_length q n t
  unfold relFault
  rw [if_neg (fun k => k f1), if_neg (by omega), hl]
  refine rel_of _ _ fun j hj hj2 => ?_
  obtain ⟨s1, s2⟩ := step_inc (rel_all _ _ f3 j hj hj2)
  refine step_of ?_ fun hj => ?_
  · rw [tryQ_get h]
    split
    · rename_i e; subst e; exact tryItm_ok s1 h1
    · exact s1
  · rw [tryQ_nonce h, tryQ_nonce h]; exact s2 hj
theorem tryQ_waits {c n t : Int} {q : List Itm} (hf : relFault c q = 0) (h : tryCode q n t = 0) {j : Nat} (hj : j < q.length) (hn : ((tryQ q n t).getD j it0).nonce = n) : t < ((tryQ q n t).getD j it0).after := by
  obtain ⟨f1, f2, f3⟩ := relFault_ok hf
  obtain ⟨h1, h2, h3⟩ := tryCode_ok h
  have hinc : ∀ j, j < q.length → 0 < j → (q.getD (j - 1) it0).nonce < (q.getD j it0).nonce := fun j a b => (step_inc (rel_all _ _ f3 j (Nat.zero_le _) (by omega))).2 b
  have hfn := findGo_nonce n q q.length 0 h2
  have hfn : (q.getD (findI q n).toNat it0).nonce = n := hfn
  rw [tryQ_nonce h] at hn
  have e : j = (findI q n).toNat := by
    rcases Nat.lt_trichotomy j (findI q n).toNat with a | a | a
    · have := inc_lt hinc j ((findI q n).toNat - j - 1) (by omega)
      rw [show j + ((findI q n).toNat - j - 1) + 1 = (findI q n).toNat by omega] at this
      omega
    · exact a
    · have := inc_lt hinc (findI q n).toNat (j - (findI q n).toNat - 1) (by omega)
      rw [show (findI q n).toNat + (j - (findI q n).toNat - 1) + 1 = j by omega] at this
      omega
  rw [tryQ_get h, if_pos e]
  show t < t + 2 ^ (tryM _).toNat
  have : (0 : Int) < 2 ^ (tryM (q.getD (findI q n).toNat it0)).toNat := Int.pow_pos (by decide)
  omega
theorem try_nonce {c n t : Int} {q : List Itm} (hf : relFault c q = 0) (h : tryCode q n t = 0) : recCode 2 n t = 0 ∧ recCode 3 n 0 = 0 ∧ settleCode q n = 0 := by
  obtain ⟨f1, f2, f3⟩ := relFault_ok hf
  obtain ⟨h1, h2, h3⟩ := tryCode_ok h
  have hfn : (q.getD (findI q n).toNat it0).nonce = n := findGo_nonce n q q.length 0 h2
  have hi := (step_inc (rel_all _ _ f3 (findI q n).toNat (Nat.zero_le _) (by omega))).1
  have hn := hi.1
  rw [hfn] at hn
  refine ⟨?_, ?_, ?_⟩
  · unfold recCode; rw [if_neg (by decide), if_neg (by omega), if_neg (by omega)]
  · unfold recCode; rw [if_neg (by decide), if_neg (by omega), if_neg (by omega)]
  · unfold settleCode; rw [if_neg (by omega)]

end Go.Proofs.Ytmaginepopldnaa
