/- The law of events checked against clients. -/
import Derived.Test.YtaolmfgpebncjaaGreatZzl
import Derived.Test.YtaolmfgpebncjaaGreatWe
set_option maxRecDepth 100000
set_option maxHeartbeats 3200000
set_option linter.unusedSimpArgs false
set_option linter.unusedVariables false
namespace Go.Proofs.YtaolmfgpebncjaaGreat
open Go.Av
attribute [local irreducible] T thenQ blockQ againQ againS WX retV retR Gt Gts GtsP okCells CV CR Av.Pure
attribute [local irreducible] cliFault ev6V

theorem law_CheckEvent (c : Cli) (d e : List UInt8) (p : Prf) (hc : CliR c) (hd : d.length ≤ 9223372036854775807) (he : e.length ≤ 9223372036854775807) (hp : PrfR p) : CV Tryz.prog 5 [cliA c, byA d, byA e, prfA p] (· = .bool true) := by
  refine CV_intro tyOk Tryz.func5 (by kernel_rfl) rfl 77 rfl (by simp) [.tmp 8] rfl ?_
  intro w0 ok0
  have hdl := bA_length d
  have hel := bA_length e
  by_cases g1 : 1048576 < d.length
  · have d1 : decide ((1048576 : Int) < ((bA d).length : Int)) = true := decide_eq_true (by omega)
    repeat' (first | refine T_seq ?_ | refine N_then ?_ | refine N_thenR ?_ | refine T_regX tyOk ?_ | refine S_nil ?_ | refine T_ret ?_ | (apply E_tmp; (· exact rfl); (· (repeat' (first | exact pure_int _ _ | exact pure_bool _ | exact pure_str _); done))) | (apply T_ifT; (· exact rfl); (· (first | assumption | exact rfl))) | apply S_move | apply S_assign | apply S_gtr | (apply S_len_ls; (· exact rfl); (· exact gt_any rfl)) | apply S_box | exact gt_any rfl | exact okCells_of rfl rfl | exact rfl | fail)
  have d1 : decide ((1048576 : Int) < ((bA d).length : Int)) = false := decide_eq_false (by omega)
  by_cases g2 : 1048576 < e.length
  · have d2 : decide ((1048576 : Int) < ((bA e).length : Int)) = true := decide_eq_true (by omega)
    repeat' (first | refine T_seq ?_ | refine N_then ?_ | refine N_thenR ?_ | refine T_regX tyOk ?_ | refine S_nil ?_ | refine T_skip ?_ | refine T_ret ?_ | (apply E_tmp; (· exact rfl); (· (repeat' (first | exact pure_int _ _ | exact pure_bool _ | exact pure_str _); done))) | (apply T_ifT; (· exact rfl); (· (first | assumption | exact rfl))) | (apply T_ifF; (· exact rfl); (· (first | assumption | exact rfl))) | apply S_move | apply S_assign | apply S_gtr | (apply S_len_ls; (· exact rfl); (· exact gt_any rfl)) | apply S_box | exact gt_any rfl | exact okCells_of rfl rfl | exact rfl | fail)
  have d2 : decide ((1048576 : Int) < ((bA e).length : Int)) = false := decide_eq_false (by omega)
  have c0 := szClient_cv c 1048576 hc (by decide) (by decide)
  by_cases g3 : (1048576 : Int) - (CliW c : Nat) < 0
  · rw [szAfter_neg g3] at c0
    have d3 : decide ((-1 : Int) < 0) = true := rfl
    repeat' (first | refine T_seq ?_ | refine N_then ?_ | refine N_thenR ?_ | refine T_regX tyOk ?_ | refine S_nil ?_ | refine T_skip ?_ | refine T_ret ?_ | (apply E_tmp; (· exact rfl); (· (repeat' (first | exact pure_int _ _ | exact pure_bool _ | exact pure_str _); done))) | (apply T_ifT; (· exact rfl); (· (first | assumption | exact rfl))) | (apply T_ifF; (· exact rfl); (· (first | assumption | exact rfl))) | apply S_move | apply S_assign | (apply S_loadW; (· exact rfl); (· exact gt_any rfl); (· exact rfl); (· exact rfl); (· exact rfl); (· exact rfl); (· exact rfl); (· exact rfl)) | apply S_lss | apply S_gtr | (apply S_len_ls; (· exact rfl); (· exact gt_any rfl)) | apply S_box | apply S_callQ (f := 26) | apply c0 | exact viewL_nil | apply viewL_cons | (apply View.pure; exact PureC.out) | exact FlatC.out | exact gt_any rfl | exact gts_nil | (apply gts_cons; (· exact gt_any rfl)) | exact okCells_of rfl rfl | assumption | exact rfl | fail)
  rw [szAfter_pos g3] at c0
  have d3 : decide ((1048576 : Int) - ((CliW c : Nat) : Int) < 0) = false := decide_eq_false g3
  have hW : CliW c ≤ 1048576 := by omega
  have hl : c.heads.length ≤ 1048576 := by unfold CliW listW at hW; omega
  have c9 := szProof_cv p (1048576 - ((CliW c : Nat) : Int)) hp (by omega) (by omega)
  by_cases g4 : (1048576 : Int) - ((CliW c : Nat) : Int) - (PrfW p : Nat) < 0
  · rw [szAfter_neg g4] at c9
    have d4 : decide ((-1 : Int) < 0) = true := rfl
    repeat' (first | refine T_seq ?_ | refine N_then ?_ | refine N_thenR ?_ | refine T_regX tyOk ?_ | refine S_nil ?_ | refine T_skip ?_ | refine T_ret ?_ | (apply E_tmp; (· exact rfl); (· (repeat' (first | exact pure_int _ _ | exact pure_bool _ | exact pure_str _); done))) | (apply T_ifT; (· exact rfl); (· (first | assumption | exact rfl))) | (apply T_ifF; (· exact rfl); (· (first | assumption | exact rfl))) | apply S_move | apply S_assign | (apply S_loadW; (· exact rfl); (· exact gt_any rfl); (· exact rfl); (· exact rfl); (· exact rfl); (· exact rfl); (· exact rfl); (· exact rfl)) | apply S_lss | apply S_gtr | (apply S_len_ls; (· exact rfl); (· exact gt_any rfl)) | apply S_box | apply S_callQ (f := 26) | apply c0 | apply S_callQ (f := 27) | apply c9 | exact viewL_nil | apply viewL_cons | (apply View.pure; exact PureC.out) | exact FlatC.out | exact gt_any rfl | exact gts_nil | (apply gts_cons; (· exact gt_any rfl)) | exact okCells_of rfl rfl | assumption | exact rfl | fail)
  rw [szAfter_pos g4] at c9
  have d4 : decide ((1048576 : Int) - ((CliW c : Nat) : Int) - ((PrfW p : Nat) : Int) < 0) = false := decide_eq_false g4
  have hP : PrfW p ≤ 1048576 := by omega
  have hP' := hP
  unfold PrfW listW at hP'
  have c1 := toClient_cv c hW
  have c2 := toByteS_cv d (by omega)
  have c2b := toByteS_cv e (by omega)
  have c3 := toProof_cv p hP
  have c4 := specCheckEvent_cv c d e p hl (by omega) (by omega) (by omega)
  have c5 := implCheckEvent_cv c d e p hl (by omega) (by omega)
  have c6 := eqClient_cv c hW
  have c7 := eqB_cv d (by omega)
  have c7b := eqB_cv e (by omega)
  have c8 := eqProof_cv p hP
  have e1 : (!decide (ev6V c d e p = ev6V c d e p)) = false := by rw [decide_eq_true rfl]; rfl
  have e2 : (!true) = false := rfl
  repeat' (first | refine T_seq ?_ | refine N_then ?_ | refine T_regX tyOk ?_ | (apply T_drawM (id := 12) 7 tyOk mixed; (· exact rfl); (· exact rfl); (· kernel_rfl); (· exact Nat.le_of_ble_eq_true rfl)) | (apply T_drawM (id := 20) 3 tyOk mixed; (· exact rfl); (· exact rfl); (· kernel_rfl); (· exact Nat.le_of_ble_eq_true rfl)) | (apply T_drawM (id := 26) 3 tyOk mixed; (· exact rfl); (· exact rfl); (· kernel_rfl); (· exact Nat.le_of_ble_eq_true rfl)) | refine S_nil ?_ | refine T_skip ?_ | refine T_ret ?_ | (apply E_tmp; (· exact rfl); (· (repeat' (first | exact pure_int _ _ | exact pure_bool _ | exact pure_str _); done))) | (apply T_ifF; (· exact rfl); (· (first | assumption | exact rfl))) | apply S_move | apply S_assign | (apply S_loadW; (· exact rfl); (· exact gt_any rfl); (· exact rfl); (· exact rfl); (· exact rfl); (· exact rfl); (· exact rfl); (· exact rfl)) | apply S_lss | apply S_gtr | (apply S_neq; (· exact gt_any rfl); (· exact gt_any rfl)) | apply S_not | (apply S_len_ls; (· exact rfl); (· exact gt_any rfl)) | apply S_alloc | apply S_box | (apply S_store1; (· exact rfl); (· exact gt_any rfl); (· exact rfl); (· exact rfl); (· exact rfl); (· exact rfl)) | apply S_callQ (f := 26) | apply c0 | apply S_callQ (f := 27) | apply c9 | apply S_call (f := 29) | apply c1 | apply S_call (f := 30) | apply c2 | apply c2b | apply S_call (f := 31) | apply c3 | apply S_callQ (f := 28) | apply c4 | apply S_callQ (f := 32) | apply c5 | apply S_callQ (f := 33) | apply c6 | apply S_callQ (f := 34) | apply c7 | apply c7b | apply S_callQ (f := 35) | apply c8 | exact viewL_nil | apply viewL_cons | exact viewE_pure PureEC.out | apply view_lsV | (apply View.pure; exact PureC.out) | exact FlatC.out | exact PureLC.out | exact gt_any rfl | exact gts_nil | (apply gts_cons; (· exact gt_any rfl)) | exact okCells_of rfl rfl | exact rfl | fail)

end Go.Proofs.YtaolmfgpebncjaaGreat
