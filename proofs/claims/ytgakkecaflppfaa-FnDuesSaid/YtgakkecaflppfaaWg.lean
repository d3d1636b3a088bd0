/- Faults of relayers, and the item that is due. -/
import Derived.Test.YtgakkecaflppfaaWf
set_option maxRecDepth 100000
set_option maxHeartbeats 3200000
set_option linter.unusedSimpArgs false
set_option linter.unusedVariables false
namespace Go.Proofs.Ytgakkecaflppfaa
open Go.Av
attribute [local irreducible] T thenQ blockQ againQ againS WX retV retR Gt Gts GtsP okCells CV CR Av.Pure

def itemOk (c : Int) (x : Itm) : Prop := (1 ≤ x.nonce ∧ x.nonce ≤ c) ∧ (0 ≤ x.tries ∧ x.tries ≤ 8) ∧ (0 ≤ x.after ∧ x.after ≤ 2199023255552)
instance (c : Int) (x : Itm) : Decidable (itemOk c x) := by unfold itemOk; infer_instance

def relStep (c : Int) (q : List Itm) (i : Nat) : Int :=
  if ¬ itemOk c (q.getD i it0) then 3
  else if 0 < i ∧ (q.getD i it0).nonce ≤ (q.getD (i - 1) it0).nonce then 1 else 0
def relGo (c : Int) (q : List Itm) : Nat → Nat → Int
  | 0, _ => 0
  | n + 1, i => if relStep c q i = 0 then relGo c q n (i + 1) else relStep c q i
def relFault (c : Int) (q : List Itm) : Int :=
  if ¬ (0 ≤ c ∧ c ≤ 1000000) then 3 else if 12 < q.length then 2 else relGo c q q.length 0

theorem relStep_bad {c : Int} {q : List Itm} {i : Nat} (h : ¬ itemOk c (q.getD i it0)) : relStep c q i = 3 := if_pos h
theorem relStep_one {c : Int} {q : List Itm} {i : Nat} (h : itemOk c (q.getD i it0)) (h1 : 0 < i ∧ (q.getD i it0).nonce ≤ (q.getD (i - 1) it0).nonce) : relStep c q i = 1 := by
  unfold relStep; rw [if_neg (fun k => k h), if_pos h1]
theorem relStep_ok {c : Int} {q : List Itm} {i : Nat} (h : itemOk c (q.getD i it0)) (h1 : ¬ (0 < i ∧ (q.getD i it0).nonce ≤ (q.getD (i - 1) it0).nonce)) : relStep c q i = 0 := by
  unfold relStep; rw [if_neg (fun k => k h), if_neg h1]

theorem specRelayerFault_cv (c : Int) (q : List Itm) (hq : q.length ≤ 1048576) : CV Try.prog 29 [relA c q] (· = .int .i64 (relFault c q)) := by
  refine CV_intro tyOk Try.func29 (by kernel_rfl) rfl 57 rfl (by simp) [.tmp 2] rfl ?_
  intro w0 ok0
  have hl : (q.map itemA).length = q.length := by simp
  repeat' (first | refine T_seq ?_ | refine N_then ?_ | refine N_thenR ?_ | refine T_regX tyOk ?_ | refine S_nil ?_ | refine T_skip ?_ | refine T_ret ?_ | refine T_block ?_ | (apply E_tmp; (· exact rfl); (· (repeat' (first | exact pure_int _ _ | exact pure_bool _ | exact pure_str _); done))) | refine T_if rfl (fun _ => ?_) (fun _ => ?_) | apply S_assign | (apply S_loadP; (· exact rfl); (· exact gt_any rfl); (· exact rfl); (· exact rfl); (· exact rfl); (· (first | exact ⟨rfl, rfl⟩ | exact ⟨rfl, trivial⟩ | assumption))) | (apply S_fieldP; (· exact rfl); (· exact rfl); (· exact rfl); (· exact rfl); (· exact gt_any rfl)) | apply S_gtr | apply S_not | (apply S_len_ls; (· exact rfl); (· exact gt_any rfl)) | apply S_box | apply S_callQ (f := 60) | apply l1In_cv | exact viewL_nil | apply viewL_cons | (apply View.pure; exact PureC.out) | exact FlatC.out | exact gt_any rfl | exact gts_nil | (apply gts_cons; (· exact gt_any rfl)) | exact okCells_of rfl rfl | exact rfl | fail)
  · rw [relFault, if_pos (by simp only [Bool.not_eq_true', Bool.not_eq_false', Bool.and_eq_true, Bool.and_eq_false_iff, Bool.or_eq_true, Bool.or_eq_false_iff, decide_eq_true_eq, decide_eq_false_iff_not] at *; omega)]
  · rw [relFault, if_neg (by simp only [Bool.not_eq_true', Bool.not_eq_false', Bool.and_eq_true, Bool.and_eq_false_iff, Bool.or_eq_true, Bool.or_eq_false_iff, decide_eq_true_eq, decide_eq_false_iff_not] at *; omega), if_pos (by simp only [Bool.not_eq_true', Bool.not_eq_false', Bool.and_eq_true, Bool.and_eq_false_iff, Bool.or_eq_true, Bool.or_eq_false_iff, decide_eq_true_eq, decide_eq_false_iff_not] at *; omega)]
  rename_i h1 h2
  have hF : relFault c q = relGo c q (q.length - 0) 0 := by simp only [Bool.not_eq_true', Bool.not_eq_false', Bool.and_eq_true, Bool.and_eq_false_iff, Bool.or_eq_true, Bool.or_eq_false_iff, decide_eq_true_eq, decide_eq_false_iff_not] at *; rw [relFault, if_neg (by omega), if_neg (by omega)]; rfl
  refine T_roundsS (α := Nat) (fun k => ⟨[(1, .ptr 0 0 0), (3, .int .i64 k)], [(0, some ⟨[relA c q], 2, false, false⟩)], 1⟩)
    (fun k => q.length - k) (fun k => k ≤ q.length ∧ relFault c q = relGo c q (q.length - k) k) 0 ((weak_of (by repeat' (first | exact keepE_nil | refine keepE_cons rfl ?_)) (by repeat' (first | exact keepB_nil | refine keepB_cons (by first | rfl | exact congrArg (fun l => some (Box.mk l _ _ _)) hset) ?_)) (Nat.le_refl _))).sub ⟨by omega, hF⟩ ?_
  rintro k ⟨hk, hI⟩
  by_cases hkl : k < q.length
  · have hc : decide ((k : Int) < ((q.map itemA).length : Int)) = true := by simp only [decide_eq_true_eq]; omega
    have hget := map_getD itemA q it0 (k := k) (by omega)
    rw [show q.length - k = (q.length - (k + 1)) + 1 by omega, relGo] at hI
    rcases Nat.eq_zero_or_pos k with hk0 | hk0
    · have hd : decide ((0 : Int) < (k : Int)) = false := by simp; omega
      repeat' (first | refine T_seq ?_ | refine N_then ?_ | refine N_thenR ?_ | refine N_block ?_ | refine N_blockR ?_ | refine N_againSR ?_ | refine T_regX tyOk ?_ | (apply T_drawAll tyOk mixed; (· kernel_rfl)) | refine S_nil ?_ | refine T_skip ?_ | refine T_ret ?_ | refine T_block ?_ | (apply E_tmp; (· exact rfl); (· (repeat' (first | exact pure_int _ _ | exact pure_bool _ | exact pure_str _); done))) | (apply T_ifT; (· exact rfl); (· (first | assumption | exact rfl))) | (apply T_ifF; (· exact rfl); (· (first | assumption | exact rfl))) | refine T_if rfl (fun _ => ?_) (fun _ => ?_) | (apply S_gf; (· exact rfl); (· exact rfl); (· (first | assumption | exact rfl))) | (apply S_gtF'; (· exact rfl); (· exact rfl); (· exact rfl); (· (first | assumption | exact rfl))) | (apply S_gfT'; (· exact rfl); (· exact rfl); (· exact rfl); (· (first | assumption | exact rfl))) | refine S_gsplit rfl rfl (fun _ => ?_) (fun _ => ?_) | apply S_move | apply S_assign | (apply S_pickT; (· exact gt_any rfl); (· (first | assumption | exact rfl))) | (apply S_pickF; (· exact gt_any rfl); (· (first | assumption | exact rfl))) | (apply S_loadP; (· exact rfl); (· exact gt_any rfl); (· exact rfl); (· exact rfl); (· exact rfl); (· (first | exact ⟨rfl, rfl⟩ | exact ⟨rfl, trivial⟩ | assumption))) | (apply S_loadVA; (· exact rfl); (· exact gt_any rfl); (· exact rfl); (· exact rfl)) | (apply S_fieldP; (· exact rfl); (· exact rfl); (· exact rfl); (· exact rfl); (· exact gt_any rfl)) | apply S_lss | apply S_gtr | apply S_add | apply S_not | (apply S_len_ls; (· exact rfl); (· exact gt_any rfl)) | apply S_alloc | (apply S_store1; (· exact rfl); (· exact gt_any rfl); (· exact rfl); (· exact rfl); (· exact rfl); (· exact rfl)) | (apply S_idxLs; (· exact rfl); (· exact rfl); (· exact gt_any rfl); (· exact gt_any rfl)) | apply S_callQ (f := 60) | apply l1In_cv | exact viewL_nil | apply viewL_cons | (apply View.pure; exact PureC.out) | exact FlatC.out | exact gt_any rfl | exact gts_nil | (apply gts_cons; (· exact gt_any rfl)) | exact okCells_of rfl rfl | assumption | (apply wrap_i64; (· omega); (· omega)) | (refine ⟨?_, ?_⟩ <;> omega) | exact rfl | fail)
      all_goals simp only [Bool.not_eq_true', Bool.not_eq_false', Bool.and_eq_true, Bool.and_eq_false_iff, Bool.or_eq_true, Bool.or_eq_false_iff, decide_eq_true_eq, decide_eq_false_iff_not] at *
      all_goals first
        | (have hs : relStep c q k = 3 := relStep_bad (by unfold itemOk; omega)
           rw [hI, hs, if_neg (by decide)])
        | (have hs : relStep c q k = 0 := relStep_ok (by unfold itemOk; omega) (by omega)
           exact N_againS (k + 1) (sub_drop (by repeat' (first | exact keepE_nil | refine keepE_cons rfl ?_)) (by repeat' (first | exact keepB_nil | refine keepB_cons rfl ?_)) (by repeat' (first | exact lowE_nil | apply lowE_cons | exact Low.sl _ _ _ _ (by decide) | exact Low.ptr _ _ _ (by decide) | (apply Low.pure; (first | exact PureC.out | exact PureLC.out | assumption)) | exact lowL_nil | apply lowL_cons | apply low_agg | apply low_tup)) (by repeat' (first | exact lowB_nil | refine lowB_cons (by decide) (by (apply PureB.low; exact PureEC.out)) ?_)) (Nat.zero_le _)) ⟨by omega, by rw [hI, if_pos hs]⟩ (by omega))
    · have hd : decide ((0 : Int) < (k : Int)) = true := by simp; omega
      have hget' : (q.map itemA).getD ((k : Int) - 1).toNat .undef = itemA (q.getD (k - 1) it0) := by
        have := map_getD itemA q it0 (k := k - 1) (by omega)
        rw [← this]; congr 1; omega
      have hrg : 0 ≤ (k : Int) - 1 ∧ (k : Int) - 1 < ((q.map itemA).length : Int) := ⟨by omega, by omega⟩
      repeat' (first | refine T_seq ?_ | refine N_then ?_ | refine N_thenR ?_ | refine N_block ?_ | refine N_blockR ?_ | refine N_againSR ?_ | refine T_regX tyOk ?_ | (apply T_drawAll tyOk mixed; (· kernel_rfl)) | refine S_nil ?_ | refine T_skip ?_ | refine T_ret ?_ | refine T_block ?_ | (apply E_tmp; (· exact rfl); (· (repeat' (first | exact pure_int _ _ | exact pure_bool _ | exact pure_str _); done))) | (apply T_ifT; (· exact rfl); (· (first | assumption | exact rfl))) | refine T_if rfl (fun _ => ?_) (fun _ => ?_) | (apply S_gt; (· exact rfl); (· exact rfl); (· (first | assumption | exact rfl))) | (apply S_gf; (· exact rfl); (· exact rfl); (· (first | assumption | exact rfl))) | (apply S_gfT'; (· exact rfl); (· exact rfl); (· exact rfl); (· (first | assumption | exact rfl))) | refine S_gsplit rfl rfl (fun _ => ?_) (fun _ => ?_) | apply S_move | apply S_assign | (apply S_pickT; (· exact gt_any rfl); (· (first | assumption | exact rfl))) | (apply S_pickF; (· exact gt_any rfl); (· (first | assumption | exact rfl))) | (apply S_loadP; (· exact rfl); (· exact gt_any rfl); (· exact rfl); (· exact rfl); (· exact rfl); (· (first | exact ⟨rfl, rfl⟩ | exact ⟨rfl, trivial⟩ | assumption))) | (apply S_loadV; (· exact rfl); (· exact gt_any rfl); (· exact rfl); (· (first | exact ⟨rfl, rfl⟩ | exact ⟨rfl, trivial⟩ | assumption))) | (apply S_loadVA; (· exact rfl); (· exact gt_any rfl); (· exact rfl); (· exact rfl)) | (apply S_fieldP; (· exact rfl); (· exact rfl); (· exact rfl); (· exact rfl); (· exact gt_any rfl)) | (apply S_fieldV; (· exact rfl); (· exact rfl); (· exact rfl); (· exact rfl); (· exact gt_any rfl)) | apply S_lss | apply S_leq | apply S_gtr | apply S_add | apply S_sub | apply S_not | (apply S_len_ls; (· exact rfl); (· exact gt_any rfl)) | apply S_alloc | (apply S_store1; (· exact rfl); (· exact gt_any rfl); (· exact rfl); (· exact rfl); (· exact rfl); (· exact rfl)) | (apply S_idxLs; (· exact rfl); (· exact rfl); (· exact gt_any rfl); (· exact gt_any rfl)) | apply S_callQ (f := 60) | apply l1In_cv | exact viewL_nil | apply viewL_cons | (apply View.pure; exact PureC.out) | exact FlatC.out | exact gt_any rfl | exact gts_nil | (apply gts_cons; (· exact gt_any rfl)) | exact okCells_of rfl rfl | assumption | (apply wrap_i64; (· omega); (· omega)) | (refine ⟨?_, ?_⟩ <;> omega) | exact rfl | fail)
      all_goals simp only [Bool.not_eq_true', Bool.not_eq_false', Bool.and_eq_true, Bool.and_eq_false_iff, Bool.or_eq_true, Bool.or_eq_false_iff, decide_eq_true_eq, decide_eq_false_iff_not] at *
      all_goals first
        | (have hs : relStep c q k = 3 := relStep_bad (by unfold itemOk; omega)
           rw [hI, hs, if_neg (by decide)])
        | (have hs : relStep c q k = 1 := relStep_one (by unfold itemOk; omega) (by omega)
           rw [hI, hs, if_neg (by decide)])
        | (have hs : relStep c q k = 0 := relStep_ok (by unfold itemOk; omega) (by omega)
           exact N_againS (k + 1) (sub_drop (by repeat' (first | exact keepE_nil | refine keepE_cons rfl ?_)) (by repeat' (first | exact keepB_nil | refine keepB_cons rfl ?_)) (by repeat' (first | exact lowE_nil | apply lowE_cons | exact Low.sl _ _ _ _ (by decide) | exact Low.ptr _ _ _ (by decide) | (apply Low.pure; (first | exact PureC.out | exact PureLC.out | assumption)) | exact lowL_nil | apply lowL_cons | apply low_agg | apply low_tup)) (by repeat' (first | exact lowB_nil | refine lowB_cons (by decide) (by (apply PureB.low; exact PureEC.out)) ?_)) (Nat.zero_le _)) ⟨by omega, by rw [hI, if_pos hs]⟩ (by omega))
  · have hc : decide ((k : Int) < ((q.map itemA).length : Int)) = false := by simp only [decide_eq_false_iff_not]; omega
    obtain rfl : k = q.length := by omega
    repeat' (first | refine T_seq ?_ | refine N_then ?_ | refine N_thenE ?_ | refine N_blockE ?_ | refine N_againSE ?_ | refine T_regX tyOk ?_ | refine S_nil ?_ | refine T_ret ?_ | refine T_exit ?_ | (apply E_tmp; (· exact rfl); (· (repeat' (first | exact pure_int _ _ | exact pure_bool _ | exact pure_str _); done))) | (apply T_ifF; (· exact rfl); (· (first | assumption | exact rfl))) | apply S_move | apply S_assign | (apply S_loadP; (· exact rfl); (· exact gt_any rfl); (· exact rfl); (· exact rfl); (· exact rfl); (· (first | exact ⟨rfl, rfl⟩ | exact ⟨rfl, trivial⟩ | assumption))) | (apply S_fieldP; (· exact rfl); (· exact rfl); (· exact rfl); (· exact rfl); (· exact gt_any rfl)) | apply S_lss | (apply S_len_ls; (· exact rfl); (· exact gt_any rfl)) | exact gt_any rfl | exact rfl | fail)
    rw [hI, Nat.sub_self]
    rfl

theorem implRelayerFault_cv (c : Int) (q : List Itm) (hq : q.length ≤ 1048576) : CV Try.prog 31 [relA c q] (· = .int .i64 (relFault c q)) := by
  refine CV_intro tyOk Try.func31 (by kernel_rfl) rfl 58 rfl (by simp) [.tmp 2] rfl ?_
  intro w0 ok0
  have hl : (q.map itemA).length = q.length := by simp
  repeat' (first | refine T_seq ?_ | refine N_then ?_ | refine N_thenR ?_ | refine N_block ?_ | refine N_blockR ?_ | refine T_regX tyOk ?_ | refine S_nil ?_ | refine T_skip ?_ | refine T_ret ?_ | refine T_block ?_ | (apply E_tmp; (· exact rfl); (· (repeat' (first | exact pure_int _ _ | exact pure_bool _ | exact pure_str _); done))) | refine T_if rfl (fun _ => ?_) (fun _ => ?_) | apply S_move | apply S_assign | (apply S_loadP; (· exact rfl); (· exact gt_any rfl); (· exact rfl); (· exact rfl); (· exact rfl); (· (first | exact ⟨rfl, rfl⟩ | exact ⟨rfl, trivial⟩ | assumption))) | (apply S_fieldP; (· exact rfl); (· exact rfl); (· exact rfl); (· exact rfl); (· exact gt_any rfl)) | apply S_gtr | apply S_not | (apply S_len_ls; (· exact rfl); (· exact gt_any rfl)) | apply S_box | apply S_callQ (f := 62) | apply in_cv | exact viewL_nil | apply viewL_cons | (apply View.pure; exact PureC.out) | exact FlatC.out | exact gt_any rfl | exact gts_nil | (apply gts_cons; (· exact gt_any rfl)) | exact okCells_of rfl rfl | exact rfl | fail)
  · rw [relFault, if_pos (by simp only [Bool.not_eq_true', Bool.not_eq_false', Bool.and_eq_true, Bool.and_eq_false_iff, Bool.or_eq_true, Bool.or_eq_false_iff, decide_eq_true_eq, decide_eq_false_iff_not] at *; omega)]
  · rw [relFault, if_neg (by simp only [Bool.not_eq_true', Bool.not_eq_false', Bool.and_eq_true, Bool.and_eq_false_iff, Bool.or_eq_true, Bool.or_eq_false_iff, decide_eq_true_eq, decide_eq_false_iff_not] at *; omega), if_pos (by simp only [Bool.not_eq_true', Bool.not_eq_false', Bool.and_eq_true, Bool.and_eq_false_iff, Bool.or_eq_true, Bool.or_eq_false_iff, decide_eq_true_eq, decide_eq_false_iff_not] at *; omega)]
  rename_i h1 h2
  have hF : relFault c q = relGo c q (q.length - 0) 0 := by simp only [Bool.not_eq_true', Bool.not_eq_false', Bool.and_eq_true, Bool.and_eq_false_iff, Bool.or_eq_true, Bool.or_eq_false_iff, decide_eq_true_eq, decide_eq_false_iff_not] at *; rw [relFault, if_neg (by omega), if_neg (by omega)]; rfl
  refine T_roundsS (α := Nat) (fun k => ⟨[(1, .ptr 0 0 0), (16, sl3 (q.map itemA)), (17, .int .i64 (q.map itemA).length), (18, .int .i64 k)], [(0, some ⟨[relA c q], 2, false, false⟩)], 1⟩)
    (fun k => q.length - k) (fun k => k ≤ q.length ∧ relFault c q = relGo c q (q.length - k) k) 0 ((weak_of (by repeat' (first | exact keepE_nil | refine keepE_cons rfl ?_)) (by repeat' (first | exact keepB_nil | refine keepB_cons (by first | rfl | exact congrArg (fun l => some (Box.mk l _ _ _)) hset) ?_)) (Nat.le_refl _))).sub ⟨by omega, hF⟩ ?_
  rintro k ⟨hk, hI⟩
  by_cases hkl : k < q.length
  · have hc : decide ((k : Int) < ((q.map itemA).length : Int)) = true := by simp only [decide_eq_true_eq]; omega
    have hget := map_getD itemA q it0 (k := k) (by omega)
    rw [show q.length - k = (q.length - (k + 1)) + 1 by omega, relGo] at hI
    rcases Nat.eq_zero_or_pos k with hk0 | hk0
    · have hd : decide ((0 : Int) < (k : Int)) = false := by simp; omega
      repeat' (first | refine T_seq ?_ | refine N_then ?_ | refine N_thenR ?_ | refine N_block ?_ | refine N_blockR ?_ | refine N_againSR ?_ | refine T_regX tyOk ?_ | (apply T_drawAll tyOk mixed; (· kernel_rfl)) | refine S_nil ?_ | refine T_skip ?_ | refine T_ret ?_ | refine T_block ?_ | (apply E_tmp; (· exact rfl); (· (repeat' (first | exact pure_int _ _ | exact pure_bool _ | exact pure_str _); done))) | (apply T_ifT; (· exact rfl); (· (first | assumption | exact rfl))) | (apply T_ifF; (· exact rfl); (· (first | assumption | exact rfl))) | refine T_if rfl (fun _ => ?_) (fun _ => ?_) | (apply S_gf; (· exact rfl); (· exact rfl); (· (first | assumption | exact rfl))) | (apply S_gtF'; (· exact rfl); (· exact rfl); (· exact rfl); (· (first | assumption | exact rfl))) | (apply S_gfT'; (· exact rfl); (· exact rfl); (· exact rfl); (· (first | assumption | exact rfl))) | refine S_gsplit rfl rfl (fun _ => ?_) (fun _ => ?_) | apply S_move | apply S_assign | (apply S_pickT; (· exact gt_any rfl); (· (first | assumption | exact rfl))) | (apply S_pickF; (· exact gt_any rfl); (· (first | assumption | exact rfl))) | (apply S_loadP; (· exact rfl); (· exact gt_any rfl); (· exact rfl); (· exact rfl); (· exact rfl); (· (first | exact ⟨rfl, rfl⟩ | exact ⟨rfl, trivial⟩ | assumption))) | (apply S_loadVA; (· exact rfl); (· exact gt_any rfl); (· exact rfl); (· exact rfl)) | (apply S_fieldP; (· exact rfl); (· exact rfl); (· exact rfl); (· exact rfl); (· exact gt_any rfl)) | apply S_lss | apply S_gtr | apply S_add | apply S_not | apply S_alloc | (apply S_store1; (· exact rfl); (· exact gt_any rfl); (· exact rfl); (· exact rfl); (· exact rfl); (· exact rfl)) | (apply S_idxLs; (· exact rfl); (· exact rfl); (· exact gt_any rfl); (· exact gt_any rfl)) | apply S_callQ (f := 62) | apply in_cv | exact viewL_nil | apply viewL_cons | (apply View.pure; exact PureC.out) | exact FlatC.out | exact gt_any rfl | exact gts_nil | (apply gts_cons; (· exact gt_any rfl)) | exact okCells_of rfl rfl | assumption | (apply wrap_i64; (· omega); (· omega)) | (refine ⟨?_, ?_⟩ <;> omega) | exact rfl | fail)
      all_goals simp only [Bool.not_eq_true', Bool.not_eq_false', Bool.and_eq_true, Bool.and_eq_false_iff, Bool.or_eq_true, Bool.or_eq_false_iff, decide_eq_true_eq, decide_eq_false_iff_not] at *
      all_goals first
        | (have hs : relStep c q k = 3 := relStep_bad (by unfold itemOk; omega)
           rw [hI, hs, if_neg (by decide)])
        | (have hs : relStep c q k = 0 := relStep_ok (by unfold itemOk; omega) (by omega)
           exact N_againS (k + 1) (sub_drop (by repeat' (first | exact keepE_nil | refine keepE_cons rfl ?_)) (by repeat' (first | exact keepB_nil | refine keepB_cons rfl ?_)) (by repeat' (first | exact lowE_nil | apply lowE_cons | exact Low.sl _ _ _ _ (by decide) | exact Low.ptr _ _ _ (by decide) | (apply Low.pure; (first | exact PureC.out | exact PureLC.out | assumption)) | exact lowL_nil | apply lowL_cons | apply low_agg | apply low_tup)) (by repeat' (first | exact lowB_nil | refine lowB_cons (by decide) (by (apply PureB.low; exact PureEC.out)) ?_)) (Nat.zero_le _)) ⟨by omega, by rw [hI, if_pos hs]⟩ (by omega))
    · have hd : decide ((0 : Int) < (k : Int)) = true := by simp; omega
      have hget' : (q.map itemA).getD ((k : Int) - 1).toNat .undef = itemA (q.getD (k - 1) it0) := by
        have := map_getD itemA q it0 (k := k - 1) (by omega)
        rw [← this]; congr 1; omega
      have hrg : 0 ≤ (k : Int) - 1 ∧ (k : Int) - 1 < ((q.map itemA).length : Int) := ⟨by omega, by omega⟩
      repeat' (first | refine T_seq ?_ | refine N_then ?_ | refine N_thenR ?_ | refine N_block ?_ | refine N_blockR ?_ | refine N_againSR ?_ | refine T_regX tyOk ?_ | (apply T_drawAll tyOk mixed; (· kernel_rfl)) | refine S_nil ?_ | refine T_skip ?_ | refine T_ret ?_ | refine T_block ?_ | (apply E_tmp; (· exact rfl); (· (repeat' (first | exact pure_int _ _ | exact pure_bool _ | exact pure_str _); done))) | (apply T_ifT; (· exact rfl); (· (first | assumption | exact rfl))) | refine T_if rfl (fun _ => ?_) (fun _ => ?_) | (apply S_gt; (· exact rfl); (· exact rfl); (· (first | assumption | exact rfl))) | (apply S_gf; (· exact rfl); (· exact rfl); (· (first | assumption | exact rfl))) | (apply S_gfT'; (· exact rfl); (· exact rfl); (· exact rfl); (· (first | assumption | exact rfl))) | refine S_gsplit rfl rfl (fun _ => ?_) (fun _ => ?_) | apply S_move | apply S_assign | (apply S_pickT; (· exact gt_any rfl); (· (first | assumption | exact rfl))) | (apply S_pickF; (· exact gt_any rfl); (· (first | assumption | exact rfl))) | (apply S_loadP; (· exact rfl); (· exact gt_any rfl); (· exact rfl); (· exact rfl); (· exact rfl); (· (first | exact ⟨rfl, rfl⟩ | exact ⟨rfl, trivial⟩ | assumption))) | (apply S_loadV; (· exact rfl); (· exact gt_any rfl); (· exact rfl); (· (first | exact ⟨rfl, rfl⟩ | exact ⟨rfl, trivial⟩ | assumption))) | (apply S_loadVA; (· exact rfl); (· exact gt_any rfl); (· exact rfl); (· exact rfl)) | (apply S_fieldP; (· exact rfl); (· exact rfl); (· exact rfl); (· exact rfl); (· exact gt_any rfl)) | (apply S_fieldV; (· exact rfl); (· exact rfl); (· exact rfl); (· exact rfl); (· exact gt_any rfl)) | apply S_lss | apply S_gtr | apply S_geq | apply S_add | apply S_sub | apply S_not | apply S_alloc | (apply S_store1; (· exact rfl); (· exact gt_any rfl); (· exact rfl); (· exact rfl); (· exact rfl); (· exact rfl)) | (apply S_idxLs; (· exact rfl); (· exact rfl); (· exact gt_any rfl); (· exact gt_any rfl)) | apply S_callQ (f := 62) | apply in_cv | exact viewL_nil | apply viewL_cons | (apply View.pure; exact PureC.out) | exact FlatC.out | exact gt_any rfl | exact gts_nil | (apply gts_cons; (· exact gt_any rfl)) | exact okCells_of rfl rfl | assumption | (apply wrap_i64; (· omega); (· omega)) | (refine ⟨?_, ?_⟩ <;> omega) | exact rfl | fail)
      all_goals simp only [Bool.not_eq_true', Bool.not_eq_false', Bool.and_eq_true, Bool.and_eq_false_iff, Bool.or_eq_true, Bool.or_eq_false_iff, decide_eq_true_eq, decide_eq_false_iff_not] at *
      all_goals first
        | (have hs : relStep c q k = 3 := relStep_bad (by unfold itemOk; omega)
           rw [hI, hs, if_neg (by decide)])
        | (have hs : relStep c q k = 1 := relStep_one (by unfold itemOk; omega) (by omega)
           rw [hI, hs, if_neg (by decide)])
        | (have hs : relStep c q k = 0 := relStep_ok (by unfold itemOk; omega) (by omega)
           exact N_againS (k + 1) (sub_drop (by repeat' (first | exact keepE_nil | refine keepE_cons rfl ?_)) (by repeat' (first | exact keepB_nil | refine keepB_cons rfl ?_)) (by repeat' (first | exact lowE_nil | apply lowE_cons | exact Low.sl _ _ _ _ (by decide) | exact Low.ptr _ _ _ (by decide) | (apply Low.pure; (first | exact PureC.out | exact PureLC.out | assumption)) | exact lowL_nil | apply lowL_cons | apply low_agg | apply low_tup)) (by repeat' (first | exact lowB_nil | refine lowB_cons (by decide) (by (apply PureB.low; exact PureEC.out)) ?_)) (Nat.zero_le _)) ⟨by omega, by rw [hI, if_pos hs]⟩ (by omega))
  · have hc : decide ((k : Int) < ((q.map itemA).length : Int)) = false := by simp only [decide_eq_false_iff_not]; omega
    obtain rfl : k = q.length := by omega
    repeat' (first | refine T_seq ?_ | refine N_then ?_ | refine N_thenE ?_ | refine N_blockE ?_ | refine N_againSE ?_ | refine T_regX tyOk ?_ | refine S_nil ?_ | refine T_ret ?_ | refine T_exit ?_ | (apply E_tmp; (· exact rfl); (· (repeat' (first | exact pure_int _ _ | exact pure_bool _ | exact pure_str _); done))) | (apply T_ifF; (· exact rfl); (· (first | assumption | exact rfl))) | apply S_assign | apply S_lss | exact gt_any rfl | exact rfl | fail)
    rw [hI, Nat.sub_self]
    rfl

end Go.Proofs.Ytgakkecaflppfaa
