/- Confirmed heads: what they are, and where a digest stands among them. -/
import Derived.Test.YtaolmfgpebncjaaZzd
set_option maxRecDepth 100000
set_option maxHeartbeats 3200000
set_option linter.unusedSimpArgs false
set_option linter.unusedVariables false
namespace Go.Proofs.Ytaolmfgpebncjaa
open Go.Av
attribute [local irreducible] T thenQ blockQ againQ againS WX retV retR Gt Gts GtsP okCells CV CR Av.Pure
attribute [local irreducible] sha zerosL lz8 hdD hdFault zerosN hardF firstB wayD chainL bestUp wtL

theorem fiGo_at {α : Type} (p : α → Bool) (d : α) : ∀ (l : List α) (i k : Nat), fiGo p l i = ((i + k : Nat) : Int) → k < l.length ∧ p (l.getD k d) = true
  | [], i, k, h => by rw [fiGo] at h; omega
  | x :: l, i, k, h => by
    rw [fiGo] at h
    split at h
    · rename_i q
      obtain rfl : k = 0 := by omega
      exact ⟨by simp, q⟩
    · have hr := fiGo_range p l (i + 1)
      obtain ⟨m, rfl⟩ : ∃ m, k = m + 1 := ⟨k - 1, by omega⟩
      obtain ⟨h1, h2⟩ := fiGo_at p d l (i + 1) m (by rw [h]; omega)
      exact ⟨by simp; omega, h2⟩
theorem place_at {ds : List (List UInt8)} {d : List UInt8} {k : Nat} (h : placeL ds d = (k : Int)) : k < ds.length ∧ ds.getD k [] = d := by
  obtain ⟨h1, h2⟩ := fiGo_at (fun w => decide (w = d)) [] ds 0 k (by rw [Nat.zero_add]; exact h)
  exact ⟨h1, of_decide_eq_true h2⟩
theorem place_neg {ds : List (List UInt8)} {d : List UInt8} : placeL ds d < 0 ↔ ∀ w ∈ ds, ¬ w = d := by
  have h := idxL_any (fun w => decide (w = d)) ds
  have hr := place_range ds d
  constructor
  · intro hn w hw he
    have : ds.any (fun w => decide (w = d)) = true := List.any_eq_true.2 ⟨w, hw, decide_eq_true he⟩
    rw [← h] at this
    have := of_decide_eq_true this
    unfold placeL at hn
    omega
  · intro hn
    have : ds.any (fun w => decide (w = d)) = false := List.any_eq_false.2 fun w hw => by simpa using hn w hw
    rw [← h] at this
    have := of_decide_eq_false this
    unfold placeL
    omega

/-- The places of the heads that are confirmed. -/
def confP (c : Cli) (j : Nat) : Bool := decide ((headAt c.heads (bestL c.heads)).height - c.depth < (headAt c.heads j).height)
def confL (c : Cli) : List Nat := keptL (confP c) (mainL c.heads)
theorem confL_mem {c : Cli} {j : Nat} (h : j ∈ confL c) : j ∈ mainL c.heads := (List.mem_filter.1 h).1
theorem mainL_mem {hs : List Hd} {j : Nat} (h0 : 0 < hs.length) (h : j ∈ mainL hs) : j < hs.length := by
  have h1 := wayD_mem hs (bestL_lt h0) (List.mem_reverse.1 h)
  have h2 := bestL_lt h0
  omega
theorem mainL_le {hs : List Hd} (h0 : 0 < hs.length) : (mainL hs).length ≤ hs.length := by
  have h1 := wayD_le hs (bestL_lt h0)
  have h2 := bestL_lt h0
  unfold mainL
  rw [List.length_reverse]
  omega
theorem confL_le (c : Cli) : (confL c).length ≤ (mainL c.heads).length := List.length_filter_le _ _

/-- Is a digest that of a confirmed head. -/
def isConfB (c : Cli) (d : List UInt8) : Bool := decide (0 ≤ placeL (c.heads.map hdD) d) && (confL c).any fun y => decide (y = (placeL (c.heads.map hdD) d).toNat)
def isConfV (c : Cli) (d : List UInt8) : Bool := decide (cliFault c = 0) && isConfB c d

/-! no two heads of a client have one digest -/
theorem joinF_new {hs : List Hd} {x : Hd} (h : joinF hs x = 0) : ∀ y ∈ hs, ¬ hdD y = hdD x := by
  unfold joinF at h
  split at h
  · cases h
  · rename_i q
    intro y hy
    exact place_neg.1 (by omega) _ (List.mem_map.2 ⟨y, hy, rfl⟩)
theorem cli_dist {c : Cli} (h : cliFault c = 0) {i j : Nat} (hij : i < j) (hj : j < c.heads.length) : ¬ hdD (headAt c.heads i) = hdD (headAt c.heads j) := by
  have hs : cliStep c.heads j = 0 := by
    unfold cliFault at h
    split at h
    · cases h
    · split at h
      · cases h
      · split at h
        · cases h
        · exact cliGo_zero c.heads c.heads.length 0 h j (by omega) (by omega)
  have h1 := stepF_zero hs
  have h2 : joinF (c.heads.take j) (c.heads.getD j Hd0) = 0 := by
    rcases h1.2 with q | q
    · omega
    · exact q
  have h3 := joinF_new h2 (c.heads.getD i Hd0) (by
    rw [← getD_take c.heads Hd0 hij]
    exact getD_mem _ _ (by rw [List.length_take]; omega))
  exact h3
theorem cli_uniq {c : Cli} (h : cliFault c = 0) {i j : Nat} (hi : i < c.heads.length) (hj : j < c.heads.length) (e : hdD (headAt c.heads i) = hdD (headAt c.heads j)) : i = j := by
  rcases Nat.lt_trichotomy i j with q | q | q
  · exact absurd e (cli_dist h q hj)
  · exact q
  · exact absurd e.symm (cli_dist h q hi)
theorem place_head {hs : List Hd} {d : List UInt8} {k : Nat} (h : placeL (hs.map hdD) d = (k : Int)) : k < hs.length ∧ hdD (headAt hs k) = d := by
  obtain ⟨h1, h2⟩ := place_at h
  rw [List.length_map] at h1
  refine ⟨h1, ?_⟩
  rw [← h2, List.getD_eq_getElem?_getD, List.getElem?_map, List.getElem?_eq_getElem h1]
  unfold headAt
  rw [List.getD_eq_getElem?_getD, List.getElem?_eq_getElem h1]
  rfl

/-- Is a head of an old client gone from the main chain of a newer one. -/
def goneB (now : Cli) (d : List UInt8) : Bool := decide (placeL (now.heads.map hdD) d < 0) || !((mainL now.heads).any fun y => decide (y = (placeL (now.heads.map hdD) d).toNat))
def mineL (now : Cli) : List (List UInt8) := (mainL now.heads).map fun j => hdD (headAt now.heads j)
theorem gone_mine {now : Cli} (h : cliFault now = 0) (d : List UInt8) : goneB now d = decide (placeL (mineL now) d < 0) := by
  obtain ⟨_, h0, _, _⟩ := cliFault_zero h
  have hr := place_range (now.heads.map hdD) d
  unfold goneB
  by_cases g : placeL (now.heads.map hdD) d < 0
  · rw [decide_eq_true g, Bool.true_or]
    refine (decide_eq_true (place_neg.2 fun w hw => ?_)).symm
    obtain ⟨j, hj, rfl⟩ := List.mem_map.1 hw
    have hjl := mainL_mem h0 hj
    exact place_neg.1 g _ (List.mem_map.2 ⟨now.heads.getD j Hd0, getD_mem _ _ hjl, rfl⟩)
  · rw [decide_eq_false g, Bool.false_or]
    obtain ⟨k, hk⟩ : ∃ k : Nat, placeL (now.heads.map hdD) d = (k : Int) := ⟨(placeL (now.heads.map hdD) d).toNat, by omega⟩
    obtain ⟨hkl, hkd⟩ := place_head hk
    rw [hk, Int.toNat_natCast]
    by_cases m : k ∈ mainL now.heads
    · have e1 : ((mainL now.heads).any fun y => decide (y = k)) = true := List.any_eq_true.2 ⟨k, m, decide_eq_true rfl⟩
      rw [e1]
      refine (decide_eq_false fun q => ?_).symm
      exact place_neg.1 q _ (List.mem_map.2 ⟨k, m, rfl⟩) hkd
    · have e1 : ((mainL now.heads).any fun y => decide (y = k)) = false := List.any_eq_false.2 fun y hy => by
        simp only [decide_eq_true_eq]
        rintro rfl
        exact m hy
      rw [e1]
      refine (decide_eq_true (place_neg.2 fun w hw => ?_)).symm
      obtain ⟨j, hj, rfl⟩ := List.mem_map.1 hw
      intro e
      have := cli_uniq h (mainL_mem h0 hj) hkl (e.trans hkd.symm)
      subst this
      exact m hj
def brokeB (old now : Cli) : Bool := (confL old).any fun k => goneB now (hdD (headAt old.heads k))
def brokeV (old now : Cli) : Bool := decide (cliFault old = 0) && (decide (cliFault now = 0) && brokeB old now)

end Go.Proofs.Ytaolmfgpebncjaa
