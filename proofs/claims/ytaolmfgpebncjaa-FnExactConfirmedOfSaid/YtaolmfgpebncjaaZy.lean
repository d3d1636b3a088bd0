/- Clients' faults. -/
import Derived.Test.YtaolmfgpebncjaaZx
set_option maxRecDepth 100000
set_option maxHeartbeats 3200000
set_option linter.unusedSimpArgs false
set_option linter.unusedVariables false
namespace Go.Proofs.Ytaolmfgpebncjaa
open Go.Av
attribute [local irreducible] T thenQ blockQ againQ againS WX retV retR Gt Gts GtsP okCells CV CR Av.Pure
attribute [local irreducible] sha zerosL lz8 hdD hdFault zerosN hardF firstB

theorem joined_nil {hs : List Hd} : Joined (hs.take 0) := ⟨fun x hx => by simp at hx, fun i h1 h2 => by simp at h2⟩
theorem parI_take (hs : List Hd) {i m : Nat} (h : i < m) : parI (hs.take m) i = parI hs i := by
  unfold parI
  rw [List.take_take, Nat.min_eq_left (by omega), getD_take hs Hd0 h]
theorem joined_step {hs : List Hd} {k : Nat} (hk : k < hs.length) (hJ : Joined (hs.take k)) : hdFault (hs.getD k Hd0) = 0 → (k = 0 ∨ joinF (hs.take k) (hs.getD k Hd0) = 0) → Joined (hs.take (k + 1)) := by
  intro h1 h2
  have e : hs.take (k + 1) = hs.take k ++ [hs.getD k Hd0] := by rw [List.take_add_one, List.getElem?_eq_getElem hk, List.getD_eq_getElem?_getD, List.getElem?_eq_getElem hk]; rfl
  refine ⟨fun x hx => ?_, fun i hi hl => ?_⟩
  · rw [e] at hx
    rcases List.mem_append.1 hx with hx | hx
    · exact hJ.1 x hx
    · rw [List.mem_singleton.1 hx]; exact h1
  · rw [List.length_take] at hl
    rw [parI_take hs (by omega)]
    by_cases hik : i < k
    · have := hJ.2 i hi (by rw [List.length_take]; omega)
      rw [parI_take hs hik] at this
      exact this
    · obtain rfl : i = k := by omega
      rcases h2 with h2 | h2
      · omega
      · unfold joinF at h2
        split at h2
        · cases h2
        · split at h2
          · cases h2
          · rename_i q
            unfold parI
            omega

attribute [local irreducible] parI joinF

def stepF (pre : List Hd) (x : Hd) (i : Nat) : Int := if hardF x ≠ 0 then hardF x else if i = 0 then (if firstB x = true then 0 else 1) else joinF pre x
theorem stepF_hard {pre : List Hd} {x : Hd} {i : Nat} (h : ¬ hardF x = 0) : stepF pre x i = hardF x := if_pos h
theorem stepF_one {pre : List Hd} {x : Hd} {i : Nat} (h : hardF x = 0) (h0 : i = 0) (k : firstB x = false) : stepF pre x i = 1 := by
  unfold stepF; rw [if_neg (fun q => q h), if_pos h0, if_neg (by rw [k]; decide)]
theorem stepF_first {pre : List Hd} {x : Hd} {i : Nat} (h : hardF x = 0) (h0 : i = 0) (k : firstB x = true) : stepF pre x i = 0 := by
  unfold stepF; rw [if_neg (fun q => q h), if_pos h0, if_pos k]
theorem stepF_join {pre : List Hd} {x : Hd} {i : Nat} (h : hardF x = 0) (h0 : ¬ i = 0) : stepF pre x i = joinF pre x := by
  unfold stepF; rw [if_neg (fun q => q h), if_neg h0]
def cliStep (hs : List Hd) (i : Nat) : Int := stepF (hs.take i) (hs.getD i Hd0) i
def cliGo (hs : List Hd) : Nat → Nat → Int
  | 0, _ => 0
  | n + 1, i => if cliStep hs i = 0 then cliGo hs n (i + 1) else cliStep hs i
def cliFault (c : Cli) : Int :=
  if ¬ (1 ≤ c.depth ∧ c.depth ≤ 6) then 3 else if c.heads.length = 0 then 4 else if 24 < c.heads.length then 2 else cliGo c.heads c.heads.length 0

theorem cliFault_cv (c : Cli) (hl : c.heads.length ≤ 1048576) : CV Try.prog 13 [cliA c] (· = .int .i64 (cliFault c)) := by
  refine CV_intro tyOk Try.func13 (by kernel_rfl) rfl 50 rfl (by simp) [.tmp 2] rfl ?_
  intro w0 ok0
  have hml : (c.heads.map hdA).length = c.heads.length := by simp
  by_cases a1 : ¬ (1 ≤ c.depth ∧ c.depth ≤ 6)
  · have d1 := rng_f a1
    rw [show cliFault c = 3 from if_pos a1]
    repeat' (first | refine T_seq ?_ | refine N_then ?_ | refine N_thenR ?_ | refine N_blockR ?_ | refine T_regX tyOk ?_ | refine S_nil ?_ | refine T_ret ?_ | refine T_block ?_ | (apply E_tmp; (· exact rfl); (· (repeat' (first | exact pure_int _ _ | exact pure_bool _ | exact pure_str _); done))) | (apply T_ifT; (· exact rfl); (· (first | assumption | exact rfl))) | apply S_assign | (apply S_loadP; (· exact rfl); (· exact gt_any rfl); (· exact rfl); (· exact rfl); (· exact rfl); (· (first | exact ⟨rfl, rfl⟩ | exact ⟨rfl, trivial⟩ | assumption))) | (apply S_fieldP; (· exact rfl); (· exact rfl); (· exact rfl); (· exact rfl); (· exact gt_any rfl)) | apply S_not | apply S_box | apply S_callQ (f := 44) | apply in_cv | exact viewL_nil | apply viewL_cons | (apply View.pure; exact PureC.out) | exact FlatC.out | exact gt_any rfl | exact gts_nil | (apply gts_cons; (· exact gt_any rfl)) | exact okCells_of rfl rfl | exact rfl | fail)
  replace a1 := Classical.not_not.1 a1
  have d1 := rng_t a1
  by_cases a2 : c.heads.length = 0
  · have d2 : decide (((c.heads.map hdA).length : Int) = 0) = true := decide_eq_true (by omega)
    rw [show cliFault c = 4 by unfold cliFault; rw [if_neg (fun k => k a1), if_pos a2]]
    repeat' (first | refine T_seq ?_ | refine N_then ?_ | refine N_thenR ?_ | refine N_blockR ?_ | refine T_regX tyOk ?_ | refine S_nil ?_ | refine T_ret ?_ | refine T_block ?_ | (apply E_tmp; (· exact rfl); (· (repeat' (first | exact pure_int _ _ | exact pure_bool _ | exact pure_str _); done))) | (apply T_ifT; (· exact rfl); (· (first | assumption | exact rfl))) | (apply T_ifF; (· exact rfl); (· (first | assumption | exact rfl))) | apply S_assign | (apply S_loadP; (· exact rfl); (· exact gt_any rfl); (· exact rfl); (· exact rfl); (· exact rfl); (· (first | exact ⟨rfl, rfl⟩ | exact ⟨rfl, trivial⟩ | assumption))) | (apply S_fieldP; (· exact rfl); (· exact rfl); (· exact rfl); (· exact rfl); (· exact gt_any rfl)) | (apply S_eql; (· exact gt_any rfl); (· exact gt_any rfl)) | apply S_not | (apply S_len_ls; (· exact rfl); (· exact gt_any rfl)) | apply S_box | apply S_callQ (f := 44) | apply in_cv | exact viewL_nil | apply viewL_cons | (apply View.pure; exact PureC.out) | exact FlatC.out | exact gt_any rfl | exact gts_nil | (apply gts_cons; (· exact gt_any rfl)) | exact okCells_of rfl rfl | exact rfl | fail)
  have d2 : decide (((c.heads.map hdA).length : Int) = 0) = false := decide_eq_false (by omega)
  by_cases a3 : 24 < c.heads.length
  · have d3 : decide ((24 : Int) < ((c.heads.map hdA).length : Int)) = true := decide_eq_true (by omega)
    rw [show cliFault c = 2 by unfold cliFault; rw [if_neg (fun k => k a1), if_neg a2, if_pos a3]]
    repeat' (first | refine T_seq ?_ | refine N_then ?_ | refine N_thenR ?_ | refine N_blockR ?_ | refine T_regX tyOk ?_ | refine S_nil ?_ | refine T_ret ?_ | refine T_block ?_ | (apply E_tmp; (· exact rfl); (· (repeat' (first | exact pure_int _ _ | exact pure_bool _ | exact pure_str _); done))) | (apply T_ifT; (· exact rfl); (· (first | assumption | exact rfl))) | (apply T_ifF; (· exact rfl); (· (first | assumption | exact rfl))) | apply S_assign | (apply S_loadP; (· exact rfl); (· exact gt_any rfl); (· exact rfl); (· exact rfl); (· exact rfl); (· (first | exact ⟨rfl, rfl⟩ | exact ⟨rfl, trivial⟩ | assumption))) | (apply S_fieldP; (· exact rfl); (· exact rfl); (· exact rfl); (· exact rfl); (· exact gt_any rfl)) | apply S_gtr | (apply S_eql; (· exact gt_any rfl); (· exact gt_any rfl)) | apply S_not | (apply S_len_ls; (· exact rfl); (· exact gt_any rfl)) | apply S_box | apply S_callQ (f := 44) | apply in_cv | exact viewL_nil | apply viewL_cons | (apply View.pure; exact PureC.out) | exact FlatC.out | exact gt_any rfl | exact gts_nil | (apply gts_cons; (· exact gt_any rfl)) | exact okCells_of rfl rfl | exact rfl | fail)
  have d3 : decide ((24 : Int) < ((c.heads.map hdA).length : Int)) = false := decide_eq_false (by omega)
  have hF : cliFault c = cliGo c.heads (c.heads.length - 0) 0 := by unfold cliFault; rw [if_neg (fun k => k a1), if_neg a2, if_neg a3]; rfl
  rw [hF]
  generalize hR : cliGo c.heads (c.heads.length - 0) 0 = R at *
  repeat' (first | refine T_seq ?_ | refine N_then ?_ | refine N_block ?_ | refine T_regX tyOk ?_ | refine S_nil ?_ | refine T_skip ?_ | refine T_block ?_ | (apply T_ifF; (· exact rfl); (· (first | assumption | exact rfl))) | apply S_move | apply S_assign | (apply S_loadP; (· exact rfl); (· exact gt_any rfl); (· exact rfl); (· exact rfl); (· exact rfl); (· (first | exact ⟨rfl, rfl⟩ | exact ⟨rfl, trivial⟩ | assumption))) | (apply S_fieldP; (· exact rfl); (· exact rfl); (· exact rfl); (· exact rfl); (· exact gt_any rfl)) | apply S_gtr | (apply S_eql; (· exact gt_any rfl); (· exact gt_any rfl)) | apply S_not | (apply S_len_ls; (· exact rfl); (· exact gt_any rfl)) | apply S_box | apply S_callQ (f := 44) | apply in_cv | exact viewL_nil | apply viewL_cons | (apply View.pure; exact PureC.out) | exact FlatC.out | exact gt_any rfl | exact gts_nil | (apply gts_cons; (· exact gt_any rfl)) | exact okCells_of rfl rfl | exact rfl | fail)
  refine T_roundsS (α := Nat) (fun k => ⟨[(1, .ptr 0 0 0), (23, hdAS c.heads), (24, .int .i64 (c.heads.map hdA).length), (25, .int .i64 k)], [(0, some ⟨[cliA c], 2, false, false⟩)], 1⟩)
    (fun k => c.heads.length - k) (fun k => k ≤ c.heads.length ∧ Joined (c.heads.take k) ∧ R = cliGo c.heads (c.heads.length - k) k) 0 ((weak_of (by repeat' (first | exact keepE_nil | refine keepE_cons rfl ?_)) (by repeat' (first | exact keepB_nil | refine keepB_cons (by first | rfl | exact congrArg (fun l => some (Box.mk l _ _ _)) hset) ?_)) (Nat.le_refl _))).sub ⟨by omega, joined_nil, hR.symm⟩ ?_
  rintro k ⟨hk, hJ, hI⟩
  by_cases hkl : k < c.heads.length
  · have d4 : decide ((k : Int) < ((c.heads.map hdA).length : Int)) = true := decide_eq_true (by omega)
    have hget := map_getD hdA c.heads Hd0 (k := k) (by omega)
    have hget0 : k = 0 → (c.heads.map hdA).getD ((0 : Int)).toNat .undef = hdA (c.heads.getD k Hd0) := fun q => by rw [q]; exact map_getD hdA c.heads Hd0 (k := 0) (by omega)
    have hw : IntKind.wrap .i64 ((k : Int) + 1) = ((k + 1 : Nat) : Int) := by rw [wrap_i64 (by omega) (by omega)]; omega
    have t1 := map_takeF hdA c.heads k
    have hjs := joined_step hkl hJ
    rw [show c.heads.length - k = (c.heads.length - (k + 1)) + 1 by omega, cliGo] at hI
    have hS : cliStep c.heads k = stepF (c.heads.take k) (c.heads.getD k Hd0) k := rfl
    rw [hS] at hI
    clear hS
    generalize c.heads.getD k Hd0 = x at *
    have c1 := hardFault_cv x
    by_cases g1 : ¬ hardF x = 0
    · have e1 : (!decide (hardF x = 0)) = true := by rw [decide_eq_false g1]; rfl
      rw [stepF_hard g1, if_neg g1] at hI
      rw [hI]
      repeat' (first | refine T_seq ?_ | refine N_then ?_ | refine N_thenR ?_ | refine N_blockR ?_ | refine N_againSR ?_ | refine T_regX tyOk ?_ | refine S_nil ?_ | refine T_skip ?_ | refine T_ret ?_ | refine T_block ?_ | (apply E_tmp; (· exact rfl); (· (repeat' (first | exact pure_int _ _ | exact pure_bool _ | exact pure_str _); done))) | (apply T_ifT; (· exact rfl); (· (first | assumption | exact rfl))) | apply S_move | apply S_assign | (apply S_loadW; (· exact rfl); (· exact gt_any rfl); (· exact rfl); (· exact rfl); (· exact rfl); (· exact rfl); (· exact rfl); (· exact rfl)) | (apply S_loadVA; (· exact rfl); (· exact gt_any rfl); (· exact rfl); (· exact rfl)) | apply S_lss | (apply S_neq; (· exact gt_any rfl); (· exact gt_any rfl)) | apply S_alloc | (apply S_store1; (· exact rfl); (· exact gt_any rfl); (· exact rfl); (· exact rfl); (· exact rfl); (· exact rfl)) | (apply S_idxLs; (· exact rfl); (· exact rfl); (· exact gt_any rfl); (· exact gt_any rfl)) | apply S_callQ (f := 45) | apply c1 | exact viewL_nil | apply viewL_cons | (apply View.pure; exact PureC.out) | exact FlatC.out | exact gt_any rfl | exact gts_nil | (apply gts_cons; (· exact gt_any rfl)) | exact okCells_of rfl rfl | assumption | (refine ⟨?_, ?_⟩ <;> omega) | exact rfl | fail)
    replace g1 := Classical.not_not.1 g1
    have h1 := hardF_zero g1
    rw [g1] at c1
    have e1 : (!decide ((0 : Int) = 0)) = false := rfl
    by_cases g2 : k = 0
    · have d5 : decide ((k : Int) = 0) = true := decide_eq_true (by omega)
      have hget0 := hget0 g2
      have c2 := isFirst_cv x
      cases g3 : firstB x with
      | false =>
        rw [g3] at c2
        have e2 : (!false) = true := rfl
        rw [stepF_one g1 g2 g3, if_neg (by decide)] at hI
        rw [hI]
        repeat' (first | refine T_seq ?_ | refine N_then ?_ | refine N_thenR ?_ | refine N_blockR ?_ | refine N_againSR ?_ | refine T_regX tyOk ?_ | refine S_nil ?_ | refine T_skip ?_ | refine T_ret ?_ | refine T_block ?_ | (apply E_tmp; (· exact rfl); (· (repeat' (first | exact pure_int _ _ | exact pure_bool _ | exact pure_str _); done))) | (apply T_ifT; (· exact rfl); (· (first | assumption | exact rfl))) | (apply T_ifF; (· exact rfl); (· (first | assumption | exact rfl))) | apply S_move | apply S_assign | (apply S_loadW; (· exact rfl); (· exact gt_any rfl); (· exact rfl); (· exact rfl); (· exact rfl); (· exact rfl); (· exact rfl); (· exact rfl)) | (apply S_loadVA; (· exact rfl); (· exact gt_any rfl); (· exact rfl); (· exact rfl)) | apply S_lss | (apply S_eql; (· exact gt_any rfl); (· exact gt_any rfl)) | (apply S_neq; (· exact gt_any rfl); (· exact gt_any rfl)) | apply S_not | apply S_alloc | (apply S_store1; (· exact rfl); (· exact gt_any rfl); (· exact rfl); (· exact rfl); (· exact rfl); (· exact rfl)) | (apply S_idxLs; (· exact rfl); (· exact rfl); (· exact gt_any rfl); (· exact gt_any rfl)) | apply S_callQ (f := 45) | apply c1 | apply S_callQ (f := 46) | apply c2 | exact viewL_nil | apply viewL_cons | (apply View.pure; exact PureC.out) | exact FlatC.out | exact gt_any rfl | exact gts_nil | (apply gts_cons; (· exact gt_any rfl)) | exact okCells_of rfl rfl | assumption | (refine ⟨?_, ?_⟩ <;> omega) | exact rfl | fail)
      | true =>
        rw [g3] at c2
        have e2 : (!true) = false := rfl
        rw [stepF_first g1 g2 g3, if_pos rfl] at hI
        repeat' (first | refine T_seq ?_ | refine N_then ?_ | refine N_thenE ?_ | refine N_blockE ?_ | refine T_regX tyOk ?_ | refine S_nil ?_ | refine T_skip ?_ | refine T_exit ?_ | refine T_block ?_ | (apply T_ifT; (· exact rfl); (· (first | assumption | exact rfl))) | (apply T_ifF; (· exact rfl); (· (first | assumption | exact rfl))) | apply S_move | apply S_assign | (apply S_loadW; (· exact rfl); (· exact gt_any rfl); (· exact rfl); (· exact rfl); (· exact rfl); (· exact rfl); (· exact rfl); (· exact rfl)) | (apply S_loadVA; (· exact rfl); (· exact gt_any rfl); (· exact rfl); (· exact rfl)) | apply S_lss | (apply S_eql; (· exact gt_any rfl); (· exact gt_any rfl)) | (apply S_neq; (· exact gt_any rfl); (· exact gt_any rfl)) | apply S_add | apply S_not | apply S_alloc | (apply S_store1; (· exact rfl); (· exact gt_any rfl); (· exact rfl); (· exact rfl); (· exact rfl); (· exact rfl)) | (apply S_idxLs; (· exact rfl); (· exact rfl); (· exact gt_any rfl); (· exact gt_any rfl)) | apply S_callQ (f := 45) | apply c1 | apply S_callQ (f := 46) | apply c2 | exact viewL_nil | apply viewL_cons | (apply View.pure; exact PureC.out) | exact FlatC.out | exact gt_any rfl | exact gts_nil | (apply gts_cons; (· exact gt_any rfl)) | exact okCells_of rfl rfl | assumption | (refine ⟨?_, ?_⟩ <;> omega) | exact rfl | fail)
        exact N_againS (k + 1) (sub_drop (by repeat' (first | exact keepE_nil | refine keepE_cons rfl ?_)) (by repeat' (first | exact keepB_nil | refine keepB_cons rfl ?_)) (by repeat' (first | exact lowE_nil | apply lowE_cons | exact Low.sl _ _ _ _ (by decide) | exact Low.ptr _ _ _ (by decide) | (apply Low.pure; (first | exact PureC.out | exact PureLC.out | assumption)) | exact lowL_nil | apply lowL_cons | apply low_agg | apply low_tup)) (by repeat' (first | exact lowB_nil | refine lowB_cons (by decide) (by (apply PureB.low; exact PureEC.out)) ?_)) (Nat.zero_le _)) ⟨by omega, hjs h1 (.inl g2), hI⟩ (by omega)
    · have d5 : decide ((k : Int) = 0) = false := decide_eq_false (by omega)
      rw [stepF_join g1 g2] at hI
      have c3 := joinFault_cv (c.heads.take k) x hJ h1 (by rw [List.length_take]; omega)
      by_cases g3 : joinF (c.heads.take k) x = 0
      · rw [if_pos g3] at hI
        rw [g3] at c3
        repeat' (first | refine T_seq ?_ | refine N_then ?_ | refine N_block ?_ | refine T_regX tyOk ?_ | (apply T_drawM (id := 16) 5 tyOk mixed; (· exact rfl); (· exact rfl); (· kernel_rfl); (· exact Nat.le_of_ble_eq_true rfl)) | refine S_nil ?_ | refine T_skip ?_ | refine T_block ?_ | (apply T_ifT; (· exact rfl); (· (first | assumption | exact rfl))) | (apply T_ifF; (· exact rfl); (· (first | assumption | exact rfl))) | apply S_move | apply S_assign | (apply S_loadP; (· exact rfl); (· exact gt_any rfl); (· exact rfl); (· exact rfl); (· exact rfl); (· (first | exact ⟨rfl, rfl⟩ | exact ⟨rfl, trivial⟩ | assumption))) | (apply S_loadW; (· exact rfl); (· exact gt_any rfl); (· exact rfl); (· exact rfl); (· exact rfl); (· exact rfl); (· exact rfl); (· exact rfl)) | (apply S_loadVA; (· exact rfl); (· exact gt_any rfl); (· exact rfl); (· exact rfl)) | (apply S_fieldP; (· exact rfl); (· exact rfl); (· exact rfl); (· exact rfl); (· exact gt_any rfl)) | apply S_lss | (apply S_eql; (· exact gt_any rfl); (· exact gt_any rfl)) | (apply S_neq; (· exact gt_any rfl); (· exact gt_any rfl)) | apply S_add | apply S_alloc | (apply S_store1; (· exact rfl); (· exact gt_any rfl); (· exact rfl); (· exact rfl); (· exact rfl); (· exact rfl)) | (apply S_idxLs; (· exact rfl); (· exact rfl); (· exact gt_any rfl); (· exact gt_any rfl)) | (apply M_slLs; (· exact rfl); (· exact rfl); (· exact gt_any rfl); (· exact rfl)) | apply S_callQ (f := 45) | apply c1 | apply S_callQ (f := 47) | apply c3 | exact viewL_nil | apply viewL_cons | (apply View.pure; exact PureC.out) | (apply mtake; first | assumption | exact take_full (by first | rfl | (simp; done)) | exact rfl) | exact FlatC.out | (apply mlen; first | exact rfl | assumption | exact Nat.le_of_ble_eq_true rfl | omega | (simp [bA_length]; done) | (simp [bA_length]; omega)) | (apply mtake; first | assumption | exact take_full (by first | rfl | (simp; done)) | exact rfl) | (apply mnat; first | exact Int.toNat_natCast _ | exact rfl) | exact Bd.no _ | (apply bd_at; (· exact gt_any rfl)) | exact gt_any rfl | exact gts_nil | (apply gts_cons; (· exact gt_any rfl)) | exact okCells_of rfl rfl | assumption | (refine ⟨?_, ?_⟩ <;> omega) | omega | exact rfl | fail)
        exact N_againS (k + 1) (sub_drop (by repeat' (first | exact keepE_nil | refine keepE_cons rfl ?_)) (by repeat' (first | exact keepB_nil | refine keepB_cons rfl ?_)) (by repeat' (first | exact lowE_nil | apply lowE_cons | exact Low.sl _ _ _ _ (by decide) | exact Low.ptr _ _ _ (by decide) | (apply Low.pure; (first | exact PureC.out | exact PureLC.out | assumption)) | exact lowL_nil | apply lowL_cons | apply low_agg | apply low_tup)) (by repeat' (first | exact lowB_nil | refine lowB_cons (by decide) (by (apply PureB.low; exact PureEC.out)) ?_)) (Nat.zero_le _)) ⟨by omega, hjs h1 (.inr g3), hI⟩ (by omega)
      · have e2 : (!decide (joinF (c.heads.take k) x = 0)) = true := by rw [decide_eq_false g3]; rfl
        rw [if_neg g3] at hI
        rw [hI]
        repeat' (first | refine T_seq ?_ | refine N_then ?_ | refine N_thenR ?_ | refine N_blockR ?_ | refine N_againSR ?_ | refine T_regX tyOk ?_ | (apply T_drawM (id := 16) 5 tyOk mixed; (· exact rfl); (· exact rfl); (· kernel_rfl); (· exact Nat.le_of_ble_eq_true rfl)) | refine S_nil ?_ | refine T_skip ?_ | refine T_ret ?_ | refine T_block ?_ | (apply E_tmp; (· exact rfl); (· (repeat' (first | exact pure_int _ _ | exact pure_bool _ | exact pure_str _); done))) | (apply T_ifT; (· exact rfl); (· (first | assumption | exact rfl))) | (apply T_ifF; (· exact rfl); (· (first | assumption | exact rfl))) | apply S_move | apply S_assign | (apply S_loadP; (· exact rfl); (· exact gt_any rfl); (· exact rfl); (· exact rfl); (· exact rfl); (· (first | exact ⟨rfl, rfl⟩ | exact ⟨rfl, trivial⟩ | assumption))) | (apply S_loadW; (· exact rfl); (· exact gt_any rfl); (· exact rfl); (· exact rfl); (· exact rfl); (· exact rfl); (· exact rfl); (· exact rfl)) | (apply S_loadVA; (· exact rfl); (· exact gt_any rfl); (· exact rfl); (· exact rfl)) | (apply S_fieldP; (· exact rfl); (· exact rfl); (· exact rfl); (· exact rfl); (· exact gt_any rfl)) | apply S_lss | (apply S_eql; (· exact gt_any rfl); (· exact gt_any rfl)) | (apply S_neq; (· exact gt_any rfl); (· exact gt_any rfl)) | apply S_alloc | (apply S_store1; (· exact rfl); (· exact gt_any rfl); (· exact rfl); (· exact rfl); (· exact rfl); (· exact rfl)) | (apply S_idxLs; (· exact rfl); (· exact rfl); (· exact gt_any rfl); (· exact gt_any rfl)) | (apply M_slLs; (· exact rfl); (· exact rfl); (· exact gt_any rfl); (· exact rfl)) | apply S_callQ (f := 45) | apply c1 | apply S_callQ (f := 47) | apply c3 | exact viewL_nil | apply viewL_cons | (apply View.pure; exact PureC.out) | (apply mtake; first | assumption | exact take_full (by first | rfl | (simp; done)) | exact rfl) | exact FlatC.out | (apply mlen; first | exact rfl | assumption | exact Nat.le_of_ble_eq_true rfl | omega | (simp [bA_length]; done) | (simp [bA_length]; omega)) | (apply mtake; first | assumption | exact take_full (by first | rfl | (simp; done)) | exact rfl) | (apply mnat; first | exact Int.toNat_natCast _ | exact rfl) | exact Bd.no _ | (apply bd_at; (· exact gt_any rfl)) | exact gt_any rfl | exact gts_nil | (apply gts_cons; (· exact gt_any rfl)) | exact okCells_of rfl rfl | assumption | (refine ⟨?_, ?_⟩ <;> omega) | omega | exact rfl | fail)
  · have d4 : decide ((k : Int) < ((c.heads.map hdA).length : Int)) = false := decide_eq_false (by omega)
    obtain rfl : k = c.heads.length := by omega
    rw [Nat.sub_self, cliGo] at hI
    rw [hI]
    repeat' (first | refine T_seq ?_ | refine N_then ?_ | refine N_thenE ?_ | refine N_blockE ?_ | refine N_againSE ?_ | refine T_regX tyOk ?_ | refine S_nil ?_ | refine T_ret ?_ | refine T_exit ?_ | (apply E_tmp; (· exact rfl); (· (repeat' (first | exact pure_int _ _ | exact pure_bool _ | exact pure_str _); done))) | (apply T_ifF; (· exact rfl); (· (first | assumption | exact rfl))) | apply S_assign | apply S_lss | exact gt_any rfl | exact rfl | fail)

theorem specCliFault_cv (c : Cli) (hl : c.heads.length ≤ 1048576) : CV Try.prog 11 [cliA c] (· = .int .i64 (cliFault c)) := by
  refine CV_intro tyOk Try.func11 (by kernel_rfl) rfl 62 rfl (by simp) [.tmp 2] rfl ?_
  intro w0 ok0
  have hml : (c.heads.map hdA).length = c.heads.length := by simp
  by_cases a1 : ¬ (1 ≤ c.depth ∧ c.depth ≤ 6)
  · have d1 := rng_f a1
    rw [show cliFault c = 3 from if_pos a1]
    repeat' (first | refine T_seq ?_ | refine N_then ?_ | refine N_thenR ?_ | refine T_regX tyOk ?_ | refine S_nil ?_ | refine T_ret ?_ | (apply E_tmp; (· exact rfl); (· (repeat' (first | exact pure_int _ _ | exact pure_bool _ | exact pure_str _); done))) | (apply T_ifT; (· exact rfl); (· (first | assumption | exact rfl))) | apply S_assign | (apply S_loadP; (· exact rfl); (· exact gt_any rfl); (· exact rfl); (· exact rfl); (· exact rfl); (· (first | exact ⟨rfl, rfl⟩ | exact ⟨rfl, trivial⟩ | assumption))) | (apply S_fieldP; (· exact rfl); (· exact rfl); (· exact rfl); (· exact rfl); (· exact gt_any rfl)) | apply S_not | apply S_box | apply S_callQ (f := 38) | apply l1In_cv | exact viewL_nil | apply viewL_cons | (apply View.pure; exact PureC.out) | exact FlatC.out | exact gt_any rfl | exact gts_nil | (apply gts_cons; (· exact gt_any rfl)) | exact okCells_of rfl rfl | exact rfl | fail)
  replace a1 := Classical.not_not.1 a1
  have d1 := rng_t a1
  by_cases a2 : c.heads.length = 0
  · have d2 : decide (((c.heads.map hdA).length : Int) = 0) = true := decide_eq_true (by omega)
    rw [show cliFault c = 4 by unfold cliFault; rw [if_neg (fun k => k a1), if_pos a2]]
    repeat' (first | refine T_seq ?_ | refine N_then ?_ | refine N_thenR ?_ | refine T_regX tyOk ?_ | refine S_nil ?_ | refine T_skip ?_ | refine T_ret ?_ | (apply E_tmp; (· exact rfl); (· (repeat' (first | exact pure_int _ _ | exact pure_bool _ | exact pure_str _); done))) | (apply T_ifT; (· exact rfl); (· (first | assumption | exact rfl))) | (apply T_ifF; (· exact rfl); (· (first | assumption | exact rfl))) | apply S_assign | (apply S_loadP; (· exact rfl); (· exact gt_any rfl); (· exact rfl); (· exact rfl); (· exact rfl); (· (first | exact ⟨rfl, rfl⟩ | exact ⟨rfl, trivial⟩ | assumption))) | (apply S_fieldP; (· exact rfl); (· exact rfl); (· exact rfl); (· exact rfl); (· exact gt_any rfl)) | (apply S_eql; (· exact gt_any rfl); (· exact gt_any rfl)) | apply S_not | (apply S_len_ls; (· exact rfl); (· exact gt_any rfl)) | apply S_box | apply S_callQ (f := 38) | apply l1In_cv | exact viewL_nil | apply viewL_cons | (apply View.pure; exact PureC.out) | exact FlatC.out | exact gt_any rfl | exact gts_nil | (apply gts_cons; (· exact gt_any rfl)) | exact okCells_of rfl rfl | exact rfl | fail)
  have d2 : decide (((c.heads.map hdA).length : Int) = 0) = false := decide_eq_false (by omega)
  by_cases a3 : 24 < c.heads.length
  · have d3 : decide ((24 : Int) < ((c.heads.map hdA).length : Int)) = true := decide_eq_true (by omega)
    rw [show cliFault c = 2 by unfold cliFault; rw [if_neg (fun k => k a1), if_neg a2, if_pos a3]]
    repeat' (first | refine T_seq ?_ | refine N_then ?_ | refine N_thenR ?_ | refine T_regX tyOk ?_ | refine S_nil ?_ | refine T_skip ?_ | refine T_ret ?_ | (apply E_tmp; (· exact rfl); (· (repeat' (first | exact pure_int _ _ | exact pure_bool _ | exact pure_str _); done))) | (apply T_ifT; (· exact rfl); (· (first | assumption | exact rfl))) | (apply T_ifF; (· exact rfl); (· (first | assumption | exact rfl))) | apply S_assign | (apply S_loadP; (· exact rfl); (· exact gt_any rfl); (· exact rfl); (· exact rfl); (· exact rfl); (· (first | exact ⟨rfl, rfl⟩ | exact ⟨rfl, trivial⟩ | assumption))) | (apply S_fieldP; (· exact rfl); (· exact rfl); (· exact rfl); (· exact rfl); (· exact gt_any rfl)) | apply S_gtr | (apply S_eql; (· exact gt_any rfl); (· exact gt_any rfl)) | apply S_not | (apply S_len_ls; (· exact rfl); (· exact gt_any rfl)) | apply S_box | apply S_callQ (f := 38) | apply l1In_cv | exact viewL_nil | apply viewL_cons | (apply View.pure; exact PureC.out) | exact FlatC.out | exact gt_any rfl | exact gts_nil | (apply gts_cons; (· exact gt_any rfl)) | exact okCells_of rfl rfl | exact rfl | fail)
  have d3 : decide ((24 : Int) < ((c.heads.map hdA).length : Int)) = false := decide_eq_false (by omega)
  have hF : cliFault c = cliGo c.heads (c.heads.length - 0) 0 := by unfold cliFault; rw [if_neg (fun k => k a1), if_neg a2, if_neg a3]; rfl
  rw [hF]
  generalize hR : cliGo c.heads (c.heads.length - 0) 0 = R at *
  have cD := l6Digests_cv c.heads (by omega)
  repeat' (first | refine T_seq ?_ | refine N_then ?_ | refine T_regX tyOk ?_ | refine S_nil ?_ | refine T_skip ?_ | refine T_block ?_ | (apply T_ifF; (· exact rfl); (· (first | assumption | exact rfl))) | apply S_assign | (apply S_loadP; (· exact rfl); (· exact gt_any rfl); (· exact rfl); (· exact rfl); (· exact rfl); (· (first | exact ⟨rfl, rfl⟩ | exact ⟨rfl, trivial⟩ | assumption))) | (apply S_fieldP; (· exact rfl); (· exact rfl); (· exact rfl); (· exact rfl); (· exact gt_any rfl)) | apply S_gtr | (apply S_eql; (· exact gt_any rfl); (· exact gt_any rfl)) | apply S_not | (apply S_len_ls; (· exact rfl); (· exact gt_any rfl)) | apply S_box | apply S_call (f := 39) | apply cD | apply S_callQ (f := 38) | apply l1In_cv | exact viewL_nil | apply viewL_cons | (apply View.pure; exact PureC.out) | exact FlatC.out | exact PureLC.out | exact gt_any rfl | exact gts_nil | (apply gts_cons; (· exact gt_any rfl)) | exact okCells_of rfl rfl | exact rfl | fail)
  refine T_roundsS (α := Nat) (fun k => ⟨[(1, .ptr 0 0 0), (3, rowsA (c.heads.map digOr)), (4, .int .i64 k)], [(0, some ⟨[cliA c], 2, false, false⟩)], 1⟩)
    (fun k => c.heads.length - k) (fun k => k ≤ c.heads.length ∧ Joined (c.heads.take k) ∧ R = cliGo c.heads (c.heads.length - k) k) 0 ((weak_of (by repeat' (first | exact keepE_nil | refine keepE_cons rfl ?_)) (by repeat' (first | exact keepB_nil | refine keepB_cons (by first | rfl | exact congrArg (fun l => some (Box.mk l _ _ _)) hset) ?_)) (Nat.le_refl _))).sub ⟨by omega, joined_nil, hR.symm⟩ ?_
  rintro k ⟨hk, hJ, hI⟩
  by_cases hkl : k < c.heads.length
  · have d4 : decide ((k : Int) < ((c.heads.map hdA).length : Int)) = true := decide_eq_true (by omega)
    have hget := map_getD hdA c.heads Hd0 (k := k) (by omega)
    have hget0 : k = 0 → (c.heads.map hdA).getD ((0 : Int)).toNat .undef = hdA (c.heads.getD k Hd0) := fun q => by rw [q]; exact map_getD hdA c.heads Hd0 (k := 0) (by omega)
    have hw : IntKind.wrap .i64 ((k : Int) + 1) = ((k + 1 : Nat) : Int) := by rw [wrap_i64 (by omega) (by omega)]; omega
    have t1 := map_takeF hdA c.heads k
    have hjs := joined_step hkl hJ
    rw [show c.heads.length - k = (c.heads.length - (k + 1)) + 1 by omega, cliGo] at hI
    have hS : cliStep c.heads k = stepF (c.heads.take k) (c.heads.getD k Hd0) k := rfl
    rw [hS] at hI
    clear hS
    generalize c.heads.getD k Hd0 = x at *
    have c1 := l6Head_cv x
    by_cases g1 : ¬ hardF x = 0
    · have e1 : (!decide (hardF x = 0)) = true := by rw [decide_eq_false g1]; rfl
      rw [stepF_hard g1, if_neg g1] at hI
      rw [hI]
      repeat' (first | refine T_seq ?_ | refine N_then ?_ | refine N_thenR ?_ | refine N_blockR ?_ | refine N_againSR ?_ | refine T_regX tyOk ?_ | refine S_nil ?_ | refine T_skip ?_ | refine T_ret ?_ | refine T_block ?_ | (apply E_tmp; (· exact rfl); (· (repeat' (first | exact pure_int _ _ | exact pure_bool _ | exact pure_str _); done))) | (apply T_ifT; (· exact rfl); (· (first | assumption | exact rfl))) | apply S_move | apply S_assign | (apply S_loadP; (· exact rfl); (· exact gt_any rfl); (· exact rfl); (· exact rfl); (· exact rfl); (· (first | exact ⟨rfl, rfl⟩ | exact ⟨rfl, trivial⟩ | assumption))) | (apply S_loadVA; (· exact rfl); (· exact gt_any rfl); (· exact rfl); (· exact rfl)) | (apply S_fieldP; (· exact rfl); (· exact rfl); (· exact rfl); (· exact rfl); (· exact gt_any rfl)) | apply S_lss | (apply S_neq; (· exact gt_any rfl); (· exact gt_any rfl)) | (apply S_len_ls; (· exact rfl); (· exact gt_any rfl)) | (apply S_idxLs; (· exact rfl); (· exact rfl); (· exact gt_any rfl); (· exact gt_any rfl)) | apply S_callQ (f := 40) | apply c1 | exact viewL_nil | apply viewL_cons | (apply View.pure; exact PureC.out) | exact FlatC.out | exact gt_any rfl | exact gts_nil | (apply gts_cons; (· exact gt_any rfl)) | assumption | (refine ⟨?_, ?_⟩ <;> omega) | exact rfl | fail)
    replace g1 := Classical.not_not.1 g1
    have h1 := hardF_zero g1
    rw [g1] at c1
    have e1 : (!decide ((0 : Int) = 0)) = false := rfl
    by_cases g2 : k = 0
    · have d5 : decide ((k : Int) = 0) = true := decide_eq_true (by omega)
      have hget0 := hget0 g2
      have c2 := l5First_cv x (by have := (hd_zero h1).1; omega)
      cases g3 : firstB x with
      | false =>
        rw [g3] at c2
        have e2 : (!false) = true := rfl
        rw [stepF_one g1 g2 g3, if_neg (by decide)] at hI
        rw [hI]
        repeat' (first | refine T_seq ?_ | refine N_then ?_ | refine N_thenR ?_ | refine N_blockR ?_ | refine N_againSR ?_ | refine T_regX tyOk ?_ | refine S_nil ?_ | refine T_skip ?_ | refine T_ret ?_ | refine T_block ?_ | (apply E_tmp; (· exact rfl); (· (repeat' (first | exact pure_int _ _ | exact pure_bool _ | exact pure_str _); done))) | (apply T_ifT; (· exact rfl); (· (first | assumption | exact rfl))) | (apply T_ifF; (· exact rfl); (· (first | assumption | exact rfl))) | apply S_move | apply S_assign | (apply S_loadP; (· exact rfl); (· exact gt_any rfl); (· exact rfl); (· exact rfl); (· exact rfl); (· (first | exact ⟨rfl, rfl⟩ | exact ⟨rfl, trivial⟩ | assumption))) | (apply S_loadVA; (· exact rfl); (· exact gt_any rfl); (· exact rfl); (· exact rfl)) | (apply S_fieldP; (· exact rfl); (· exact rfl); (· exact rfl); (· exact rfl); (· exact gt_any rfl)) | apply S_lss | (apply S_eql; (· exact gt_any rfl); (· exact gt_any rfl)) | (apply S_neq; (· exact gt_any rfl); (· exact gt_any rfl)) | apply S_not | (apply S_len_ls; (· exact rfl); (· exact gt_any rfl)) | (apply S_idxLs; (· exact rfl); (· exact rfl); (· exact gt_any rfl); (· exact gt_any rfl)) | apply S_callQ (f := 40) | apply c1 | apply S_callQ (f := 41) | apply c2 | exact viewL_nil | apply viewL_cons | (apply View.pure; exact PureC.out) | exact FlatC.out | exact gt_any rfl | exact gts_nil | (apply gts_cons; (· exact gt_any rfl)) | assumption | (refine ⟨?_, ?_⟩ <;> omega) | exact rfl | fail)
      | true =>
        rw [g3] at c2
        have e2 : (!true) = false := rfl
        rw [stepF_first g1 g2 g3, if_pos rfl] at hI
        repeat' (first | refine T_seq ?_ | refine N_then ?_ | refine N_thenE ?_ | refine N_blockE ?_ | refine T_regX tyOk ?_ | refine S_nil ?_ | refine T_skip ?_ | refine T_exit ?_ | refine T_block ?_ | (apply T_ifT; (· exact rfl); (· (first | assumption | exact rfl))) | (apply T_ifF; (· exact rfl); (· (first | assumption | exact rfl))) | apply S_move | apply S_assign | (apply S_loadP; (· exact rfl); (· exact gt_any rfl); (· exact rfl); (· exact rfl); (· exact rfl); (· (first | exact ⟨rfl, rfl⟩ | exact ⟨rfl, trivial⟩ | assumption))) | (apply S_loadVA; (· exact rfl); (· exact gt_any rfl); (· exact rfl); (· exact rfl)) | (apply S_fieldP; (· exact rfl); (· exact rfl); (· exact rfl); (· exact rfl); (· exact gt_any rfl)) | apply S_lss | (apply S_eql; (· exact gt_any rfl); (· exact gt_any rfl)) | (apply S_neq; (· exact gt_any rfl); (· exact gt_any rfl)) | apply S_add | apply S_not | (apply S_len_ls; (· exact rfl); (· exact gt_any rfl)) | (apply S_idxLs; (· exact rfl); (· exact rfl); (· exact gt_any rfl); (· exact gt_any rfl)) | apply S_callQ (f := 40) | apply c1 | apply S_callQ (f := 41) | apply c2 | exact viewL_nil | apply viewL_cons | (apply View.pure; exact PureC.out) | exact FlatC.out | exact gt_any rfl | exact gts_nil | (apply gts_cons; (· exact gt_any rfl)) | assumption | (refine ⟨?_, ?_⟩ <;> omega) | exact rfl | fail)
        exact N_againS (k + 1) ((weak_of (by repeat' (first | exact keepE_nil | refine keepE_cons rfl ?_)) (by repeat' (first | exact keepB_nil | refine keepB_cons (by first | rfl | exact congrArg (fun l => some (Box.mk l _ _ _)) hset) ?_)) (Nat.le_refl _))).sub ⟨by omega, hjs h1 (.inl g2), hI⟩ (by omega)
    · have d5 : decide ((k : Int) = 0) = false := decide_eq_false (by omega)
      rw [stepF_join g1 g2] at hI
      have t2 := map_takeF byA (c.heads.map digOr) k
      have t3 : (c.heads.map digOr).take k = (c.heads.take k).map hdD := by rw [← List.map_take]; exact digOrs hJ.1
      rw [t3] at t2
      have c3 := l5Next_cv (c.heads.take k) x hJ h1 (by rw [List.length_take]; omega)
      by_cases g3 : joinF (c.heads.take k) x = 0
      · rw [if_pos g3] at hI
        rw [g3] at c3
        repeat' (first | refine T_seq ?_ | refine N_then ?_ | refine N_block ?_ | refine T_regX tyOk ?_ | (apply T_drawM (id := 17) 12 tyOk mixed; (· exact rfl); (· exact rfl); (· kernel_rfl); (· exact Nat.le_of_ble_eq_true rfl)) | refine S_nil ?_ | refine T_skip ?_ | refine T_block ?_ | (apply T_ifT; (· exact rfl); (· (first | assumption | exact rfl))) | (apply T_ifF; (· exact rfl); (· (first | assumption | exact rfl))) | apply S_move | apply S_assign | (apply S_loadP; (· exact rfl); (· exact gt_any rfl); (· exact rfl); (· exact rfl); (· exact rfl); (· (first | exact ⟨rfl, rfl⟩ | exact ⟨rfl, trivial⟩ | assumption))) | (apply S_loadVA; (· exact rfl); (· exact gt_any rfl); (· exact rfl); (· exact rfl)) | (apply S_fieldP; (· exact rfl); (· exact rfl); (· exact rfl); (· exact rfl); (· exact gt_any rfl)) | apply S_lss | (apply S_eql; (· exact gt_any rfl); (· exact gt_any rfl)) | (apply S_neq; (· exact gt_any rfl); (· exact gt_any rfl)) | apply S_add | (apply S_len_ls; (· exact rfl); (· exact gt_any rfl)) | (apply S_idxLs; (· exact rfl); (· exact rfl); (· exact gt_any rfl); (· exact gt_any rfl)) | (apply M_slLs; (· exact rfl); (· exact rfl); (· exact gt_any rfl); (· exact rfl)) | apply S_callQ (f := 40) | apply c1 | apply S_callQ (f := 42) | apply c3 | exact viewL_nil | apply viewL_cons | (apply View.pure; exact PureC.out) | (apply mtake; first | assumption | exact take_full (by first | rfl | (simp; done)) | exact rfl) | exact FlatC.out | (apply mlen; first | exact rfl | assumption | exact Nat.le_of_ble_eq_true rfl | omega | (simp [bA_length]; done) | (simp [bA_length]; omega)) | (apply mtake; first | assumption | exact take_full (by first | rfl | (simp; done)) | exact rfl) | (apply mnat; first | exact Int.toNat_natCast _ | exact rfl) | exact Bd.no _ | (apply bd_at; (· exact gt_any rfl)) | exact gt_any rfl | exact gts_nil | (apply gts_cons; (· exact gt_any rfl)) | assumption | (refine ⟨?_, ?_⟩ <;> omega) | omega | exact rfl | fail)
        exact N_againS (k + 1) ((weak_of (by repeat' (first | exact keepE_nil | refine keepE_cons rfl ?_)) (by repeat' (first | exact keepB_nil | refine keepB_cons (by first | rfl | exact congrArg (fun l => some (Box.mk l _ _ _)) hset) ?_)) (Nat.le_refl _))).sub ⟨by omega, hjs h1 (.inr g3), hI⟩ (by omega)
      · have e2 : (!decide (joinF (c.heads.take k) x = 0)) = true := by rw [decide_eq_false g3]; rfl
        rw [if_neg g3] at hI
        rw [hI]
        repeat' (first | refine T_seq ?_ | refine N_then ?_ | refine N_thenR ?_ | refine N_blockR ?_ | refine N_againSR ?_ | refine T_regX tyOk ?_ | (apply T_drawM (id := 17) 12 tyOk mixed; (· exact rfl); (· exact rfl); (· kernel_rfl); (· exact Nat.le_of_ble_eq_true rfl)) | refine S_nil ?_ | refine T_skip ?_ | refine T_ret ?_ | refine T_block ?_ | (apply E_tmp; (· exact rfl); (· (repeat' (first | exact pure_int _ _ | exact pure_bool _ | exact pure_str _); done))) | (apply T_ifT; (· exact rfl); (· (first | assumption | exact rfl))) | (apply T_ifF; (· exact rfl); (· (first | assumption | exact rfl))) | apply S_move | apply S_assign | (apply S_loadP; (· exact rfl); (· exact gt_any rfl); (· exact rfl); (· exact rfl); (· exact rfl); (· (first | exact ⟨rfl, rfl⟩ | exact ⟨rfl, trivial⟩ | assumption))) | (apply S_loadVA; (· exact rfl); (· exact gt_any rfl); (· exact rfl); (· exact rfl)) | (apply S_fieldP; (· exact rfl); (· exact rfl); (· exact rfl); (· exact rfl); (· exact gt_any rfl)) | apply S_lss | (apply S_eql; (· exact gt_any rfl); (· exact gt_any rfl)) | (apply S_neq; (· exact gt_any rfl); (· exact gt_any rfl)) | (apply S_len_ls; (· exact rfl); (· exact gt_any rfl)) | (apply S_idxLs; (· exact rfl); (· exact rfl); (· exact gt_any rfl); (· exact gt_any rfl)) | (apply M_slLs; (· exact rfl); (· exact rfl); (· exact gt_any rfl); (· exact rfl)) | apply S_callQ (f := 40) | apply c1 | apply S_callQ (f := 42) | apply c3 | exact viewL_nil | apply viewL_cons | (apply View.pure; exact PureC.out) | (apply mtake; first | assumption | exact take_full (by first | rfl | (simp; done)) | exact rfl) | exact FlatC.out | (apply mlen; first | exact rfl | assumption | exact Nat.le_of_ble_eq_true rfl | omega | (simp [bA_length]; done) | (simp [bA_length]; omega)) | (apply mtake; first | assumption | exact take_full (by first | rfl | (simp; done)) | exact rfl) | (apply mnat; first | exact Int.toNat_natCast _ | exact rfl) | exact Bd.no _ | (apply bd_at; (· exact gt_any rfl)) | exact gt_any rfl | exact gts_nil | (apply gts_cons; (· exact gt_any rfl)) | assumption | (refine ⟨?_, ?_⟩ <;> omega) | omega | exact rfl | fail)
  · have d4 : decide ((k : Int) < ((c.heads.map hdA).length : Int)) = false := decide_eq_false (by omega)
    obtain rfl : k = c.heads.length := by omega
    rw [Nat.sub_self, cliGo] at hI
    rw [hI]
    repeat' (first | refine T_seq ?_ | refine N_then ?_ | refine N_thenE ?_ | refine N_blockE ?_ | refine N_againSE ?_ | refine T_regX tyOk ?_ | refine S_nil ?_ | refine T_ret ?_ | refine T_exit ?_ | (apply E_tmp; (· exact rfl); (· (repeat' (first | exact pure_int _ _ | exact pure_bool _ | exact pure_str _); done))) | (apply T_ifF; (· exact rfl); (· (first | assumption | exact rfl))) | apply S_move | apply S_assign | (apply S_loadP; (· exact rfl); (· exact gt_any rfl); (· exact rfl); (· exact rfl); (· exact rfl); (· (first | exact ⟨rfl, rfl⟩ | exact ⟨rfl, trivial⟩ | assumption))) | (apply S_fieldP; (· exact rfl); (· exact rfl); (· exact rfl); (· exact rfl); (· exact gt_any rfl)) | apply S_lss | (apply S_len_ls; (· exact rfl); (· exact gt_any rfl)) | exact gt_any rfl | exact rfl | fail)

end Go.Proofs.Ytaolmfgpebncjaa
