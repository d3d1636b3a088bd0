/- The tips of clients. -/
import Derived.Test.YtaolmfgpebncjaaZz
set_option maxRecDepth 100000
set_option maxHeartbeats 3200000
set_option linter.unusedSimpArgs false
set_option linter.unusedVariables false
namespace Go.Proofs.Ytaolmfgpebncjaa
open Go.Av
attribute [local irreducible] T thenQ blockQ againQ againS WX retV retR Gt Gts GtsP okCells CV CR Av.Pure
attribute [local irreducible] sha zerosL lz8 hdD hdFault zerosN hardF firstB wayD chainL bestUp wtL joinF

theorem stepF_zero {pre : List Hd} {x : Hd} {i : Nat} (h : stepF pre x i = 0) : hardF x = 0 ∧ (i = 0 ∨ joinF pre x = 0) := by
  unfold stepF at h
  split at h
  · rename_i q; exact absurd h q
  · rename_i q
    refine ⟨Classical.not_not.1 q, ?_⟩
    split at h
    · rename_i r; exact .inl r
    · exact .inr h
theorem cliGo_zero (hs : List Hd) : ∀ (n i : Nat), cliGo hs n i = 0 → ∀ j, i ≤ j → j < i + n → cliStep hs j = 0
  | 0, i, _, j, h1, h2 => by omega
  | n + 1, i, h, j, h1, h2 => by
    rw [cliGo] at h
    by_cases h0 : cliStep hs i = 0
    · rw [if_pos h0] at h
      by_cases e : j = i
      · rw [e]; exact h0
      · exact cliGo_zero hs n (i + 1) h j (by omega) (by omega)
    · rw [if_neg h0] at h; exact absurd h h0
theorem joined_all {hs : List Hd} (h : ∀ j, j < hs.length → cliStep hs j = 0) : ∀ k, k ≤ hs.length → Joined (hs.take k)
  | 0, _ => joined_nil
  | k + 1, hk => by
    have h1 := stepF_zero (h k (by omega))
    exact joined_step (by omega) (joined_all h k (by omega)) (hardF_zero h1.1) h1.2
theorem cliFault_zero {c : Cli} (h : cliFault c = 0) : (1 ≤ c.depth ∧ c.depth ≤ 6) ∧ 0 < c.heads.length ∧ c.heads.length ≤ 24 ∧ Joined c.heads := by
  unfold cliFault at h
  split at h
  · cases h
  · split at h
    · cases h
    · split at h
      · cases h
      · rename_i a b d
        have := joined_all (fun j hj => cliGo_zero c.heads c.heads.length 0 h j (by omega) (by omega)) c.heads.length (Nat.le_refl _)
        rw [List.take_length] at this
        exact ⟨Classical.not_not.1 a, by omega, by omega, this⟩
attribute [local irreducible] cliFault

def mainL (hs : List Hd) : List Nat := (wayD hs (bestL hs)).reverse
theorem bestL_lt {hs : List Hd} (h : 0 < hs.length) : bestL hs < hs.length := bestUp_lt hs _ h

theorem l6Main_cr0 (c : Cli) (h : cliFault c = 0) : CR Try.prog 49 [.vp (cliAC c)] [] 0 (Is (.sl 0 0 (wayD c.heads (bestL c.heads)).length (wayD c.heads (bestL c.heads)).length) [(0, some ⟨(mainL c.heads).map natA, 1, true, false⟩)] (0 + 1)) := by
  refine CR_introU tyOk Try.func49 (by kernel_rfl) rfl 21 rfl (by simp) [.tmp 2] rfl ?_
  intro w0 ok0 wr φ0
  obtain ⟨_, h1, h2, hJ⟩ := cliFault_zero h
  have hps : ∀ y ∈ c.heads, y.parent.length ≤ 1000000 := fun y hy => by have := (hd_zero (hJ.1 y hy)).1; omega
  have c0 := l6Digests_cv c.heads (by omega)
  rw [digOrs hJ.1] at c0
  have c1 := l5Heaviest_cv c.heads hJ (by omega)
  have c2 := fun N => l5Way_cr c.heads (bestL c.heads) hJ (bestL_lt h1) (by omega) hps N
  unfold mainL
  repeat' (first | refine T_seq ?_ | refine N_then ?_ | refine T_regX tyOk ?_ | (apply T_drawM (id := 2) 11 tyOk mixed; (· exact rfl); (· exact rfl); (· kernel_rfl); (· exact Nat.le_of_ble_eq_true rfl)) | refine S_nil ?_ | refine T_ret ?_ | apply S_move | apply S_assign | (apply S_loadV; (· exact rfl); (· exact gt_any rfl); (· exact rfl); (· (first | exact ⟨rfl, rfl⟩ | exact ⟨rfl, trivial⟩ | assumption))) | (apply S_fieldV; (· exact rfl); (· exact rfl); (· exact rfl); (· exact rfl); (· exact gt_any rfl)) | (apply S_nilV; (· exact gt_any rfl)) | apply S_call (f := 39) | apply c0 | apply S_callQ (f := 78) | apply c1 | apply S_callI (f := 95) | apply c2 | exact viewL_nil | apply viewL_cons | (apply View.pure; exact PureC.out) | exact FlatC.out | exact OwnC.out | exact ownB_nil | (apply ownB_boxM; (· (apply mlen; first | exact rfl | assumption | exact Nat.le_of_ble_eq_true rfl | omega | (simp [bA_length]; done) | (simp [bA_length]; omega))); (· exact OwnEC.out)) | exact PureLC.out | exact gt_any rfl | exact gts_nil | (apply gts_cons; (· exact gt_any rfl)) | exact rfl | fail)
  (apply E_U0 [(0, 0)] <;> repeat' (first | exact resL_nil | (apply resL_tmp; (· exact rfl)) | (apply resL_cell; (· exact rfl); (· exact rfl); (· exact rfl); (· exact rfl); (· exact rfl); (· exact rfl)) | (apply resL_arr; (· exact rfl); (· exact rfl); (· exact rfl); (· exact rfl); (· (first | assumption | exact rfl))) | exact Ren.sl _ _ _ _ | (apply ren_slE; (· first | exact rfl | omega); (· first | exact rfl | assumption | (simp [bA_length]; done) | (simp [bA_length]; omega)); (· first | exact rfl | assumption | (simp [bA_length]; done) | (simp [bA_length]; omega))) | exact Ren.ptr _ _ _ | exact renL_nil | apply renL_cons | (apply Ren.pure; exact PureC.out) | apply ren_agg | apply ren_tup | exact Low.sl _ _ _ _ (by decide) | exact Low.ptr _ _ _ (by decide) | exact lowL_nil | apply lowL_cons | (apply Low.pure; exact PureC.out) | apply low_agg | apply low_tup | exact pullB_nil | (apply pullB_pureE; (· exact rfl); (· first | exact rfl | assumption | (simp [bA]; done)); (· exact PureEC.out)) | (apply pullB_one; (· exact rfl)) | exact lowBs_nil | apply lowBs_cons | (apply PureB.low; exact PureEC.out) | apply lowX_one | exact lowX_nil | exact rfl))

theorem l6Main_cr (c : Cli) (h : cliFault c = 0) (N : Nat) : CR Try.prog 49 [.vp (cliAC c)] [] N (Is (.sl N 0 (wayD c.heads (bestL c.heads)).length (wayD c.heads (bestL c.heads)).length) [(N, some ⟨(mainL c.heads).map natA, 1, true, false⟩)] (N + 1)) :=
  CR.allN (l6Main_cr0 c h) N (by first | exact PureC.out | exact PureLC.out | assumption) (by repeat' (first | exact Ren.sl _ _ _ _ | exact Ren.ptr _ _ _ | exact renL_nil | apply renL_cons | (apply Ren.pure; (first | exact PureC.out | exact PureLC.out | assumption)) | apply ren_agg | apply ren_tup)) (by repeat' (first | exact renBs_nil | (apply renBs_pure; (· exact rfl); (· (exact PureEC.out))) | (apply renBs_one; (· exact rfl)) | exact renL_nil | apply renL_cons | exact Ren.sl _ _ _ _ | exact Ren.ptr _ _ _ | (apply Ren.pure; (first | exact PureC.out | exact PureLC.out | assumption)) | apply ren_agg))

def tipV (c : Cli) : Int := if cliFault c = 0 then (bestL c.heads : Int) else 0

end Go.Proofs.Ytaolmfgpebncjaa
