/- The laws of confirmed heads and of forks. -/
import Derived.Test.YtaolmfgpebncjaaZzg
import Derived.Test.YtaolmfgpebncjaaWe
set_option maxRecDepth 100000
set_option maxHeartbeats 3200000
set_option linter.unusedSimpArgs false
set_option linter.unusedVariables false
namespace Go.Proofs.Ytaolmfgpebncjaa
open Go.Av
attribute [local irreducible] T thenQ blockQ againQ againS WX retV retR Gt Gts GtsP okCells CV CR Av.Pure
attribute [local irreducible] cliFault isConfV brokeV

theorem law_IsConfirmed (c : Cli) (d : List UInt8) (hc : CliR c) (hd : d.length ≤ 9223372036854775807) : CV Try.prog 6 [cliA c, byA d] (· = .bool true) := by
  refine CV_intro tyOk Try.func6 (by kernel_rfl) rfl 43 rfl (by simp) [.tmp 4] rfl ?_
  intro w0 ok0
  have hdl := bA_length d
  by_cases g2 : 1048576 < d.length
  · have d2 : decide ((1048576 : Int) < ((bA d).length : Int)) = true := decide_eq_true (by omega)
    repeat' (first | refine T_seq ?_ | refine N_then ?_ | refine N_thenR ?_ | refine T_regX tyOk ?_ | refine S_nil ?_ | refine T_ret ?_ | (apply E_tmp; (· exact rfl); (· (repeat' (first | exact pure_int _ _ | exact pure_bool _ | exact pure_str _); done))) | (apply T_ifT; (· exact rfl); (· (first | assumption | exact rfl))) | apply S_move | apply S_assign | apply S_gtr | (apply S_len_ls; (· exact rfl); (· exact gt_any rfl)) | apply S_box | exact gt_any rfl | exact okCells_of rfl rfl | exact rfl | fail)
  have d2 : decide ((1048576 : Int) < ((bA d).length : Int)) = false := decide_eq_false (by omega)
  have c0 := szClient_cv c 1048576 hc (by decide) (by decide)
  by_cases g3 : (1048576 : Int) - (CliW c : Nat) < 0
  · rw [szAfter_neg g3] at c0
    have d3 : decide ((-1 : Int) < 0) = true := rfl
    repeat' (first | refine T_seq ?_ | refine N_then ?_ | refine N_thenR ?_ | refine T_regX tyOk ?_ | refine S_nil ?_ | refine T_skip ?_ | refine T_ret ?_ | (apply E_tmp; (· exact rfl); (· (repeat' (first | exact pure_int _ _ | exact pure_bool _ | exact pure_str _); done))) | (apply T_ifT; (· exact rfl); (· (first | assumption | exact rfl))) | (apply T_ifF; (· exact rfl); (· (first | assumption | exact rfl))) | apply S_move | apply S_assign | (apply S_loadW; (· exact rfl); (· exact gt_any rfl); (· exact rfl); (· exact rfl); (· exact rfl); (· exact rfl); (· exact rfl); (· exact rfl)) | apply S_lss | apply S_gtr | (apply S_len_ls; (· exact rfl); (· exact gt_any rfl)) | apply S_box | apply S_callQ (f := 10) | apply c0 | exact viewL_nil | apply viewL_cons | (apply View.pure; exact PureC.out) | exact FlatC.out | exact gt_any rfl | exact gts_nil | (apply gts_cons; (· exact gt_any rfl)) | exact okCells_of rfl rfl | assumption | exact rfl | fail)
  rw [szAfter_pos g3] at c0
  have d3 : decide ((1048576 : Int) - ((CliW c : Nat) : Int) < 0) = false := decide_eq_false g3
  have hW : CliW c ≤ 1048576 := by omega
  have hl : c.heads.length ≤ 1048576 := by unfold CliW listW at hW; omega
  have c1 := toClient_cv c hW
  have c2 := toByteS_cv d (by omega)
  have c4 := specIsConfirmed_cv c d hl (by omega)
  have c5 := implIsConfirmed_cv c d hl
  have c6 := eqClient_cv c hW
  have c7 := eqB_cv d (by omega)
  have e1 : (isConfV c d != isConfV c d) = false := by simp
  have e2 : (!true) = false := rfl
  repeat' (first | refine T_seq ?_ | refine N_then ?_ | refine T_regX tyOk ?_ | (apply T_drawM (id := 13) 3 tyOk mixed; (· exact rfl); (· exact rfl); (· kernel_rfl); (· exact Nat.le_of_ble_eq_true rfl)) | refine S_nil ?_ | refine T_skip ?_ | refine T_ret ?_ | (apply E_tmp; (· exact rfl); (· (repeat' (first | exact pure_int _ _ | exact pure_bool _ | exact pure_str _); done))) | (apply T_ifF; (· exact rfl); (· (first | assumption | exact rfl))) | apply S_move | apply S_assign | (apply S_loadW; (· exact rfl); (· exact gt_any rfl); (· exact rfl); (· exact rfl); (· exact rfl); (· exact rfl); (· exact rfl); (· exact rfl)) | apply S_lss | apply S_gtr | apply S_not | (apply S_len_ls; (· exact rfl); (· exact gt_any rfl)) | apply S_alloc | apply S_box | (apply S_store1; (· exact rfl); (· exact gt_any rfl); (· exact rfl); (· exact rfl); (· exact rfl); (· exact rfl)) | (apply S_boolNe; (· exact rfl); (· exact gt_any rfl); (· exact gt_any rfl)) | apply S_callQ (f := 10) | apply c0 | apply S_call (f := 12) | apply c1 | apply S_call (f := 24) | apply c2 | apply S_callQ (f := 23) | apply c4 | apply S_callQ (f := 25) | apply c5 | apply S_callQ (f := 14) | apply c6 | apply S_callQ (f := 26) | apply c7 | exact viewL_nil | apply viewL_cons | exact viewE_pure PureEC.out | apply view_lsV | (apply View.pure; exact PureC.out) | exact FlatC.out | exact PureLC.out | exact gt_any rfl | exact gts_nil | (apply gts_cons; (· exact gt_any rfl)) | exact okCells_of rfl rfl | exact rfl | fail)

theorem law_BrokeDepth (a b : Cli) (ha : CliR a) (hb : CliR b) : CV Try.prog 7 [cliA a, cliA b] (· = .bool true) := by
  refine CV_intro tyOk Try.func7 (by kernel_rfl) rfl 45 rfl (by simp) [.tmp 4] rfl ?_
  intro w0 ok0
  have c0 := szClient_cv a 1048576 ha (by decide) (by decide)
  by_cases g3 : (1048576 : Int) - (CliW a : Nat) < 0
  · rw [szAfter_neg g3] at c0
    have d3 : decide ((-1 : Int) < 0) = true := rfl
    repeat' (first | refine T_seq ?_ | refine N_then ?_ | refine N_thenR ?_ | refine T_regX tyOk ?_ | refine S_nil ?_ | refine T_ret ?_ | (apply E_tmp; (· exact rfl); (· (repeat' (first | exact pure_int _ _ | exact pure_bool _ | exact pure_str _); done))) | (apply T_ifT; (· exact rfl); (· (first | assumption | exact rfl))) | apply S_move | apply S_assign | (apply S_loadW; (· exact rfl); (· exact gt_any rfl); (· exact rfl); (· exact rfl); (· exact rfl); (· exact rfl); (· exact rfl); (· exact rfl)) | apply S_lss | apply S_box | apply S_callQ (f := 10) | apply c0 | exact viewL_nil | apply viewL_cons | (apply View.pure; exact PureC.out) | exact FlatC.out | exact gt_any rfl | exact gts_nil | (apply gts_cons; (· exact gt_any rfl)) | exact okCells_of rfl rfl | assumption | exact rfl | fail)
  rw [szAfter_pos g3] at c0
  have d3 : decide ((1048576 : Int) - ((CliW a : Nat) : Int) < 0) = false := decide_eq_false g3
  have hW : CliW a ≤ 1048576 := by omega
  have hl : a.heads.length ≤ 1048576 := by unfold CliW listW at hW; omega
  have c9 := szClient_cv b (1048576 - ((CliW a : Nat) : Int)) hb (by omega) (by omega)
  by_cases g4 : (1048576 : Int) - ((CliW a : Nat) : Int) - (CliW b : Nat) < 0
  · rw [szAfter_neg g4] at c9
    have d4 : decide ((-1 : Int) < 0) = true := rfl
    repeat' (first | refine T_seq ?_ | refine N_then ?_ | refine N_thenR ?_ | refine T_regX tyOk ?_ | refine S_nil ?_ | refine T_skip ?_ | refine T_ret ?_ | (apply E_tmp; (· exact rfl); (· (repeat' (first | exact pure_int _ _ | exact pure_bool _ | exact pure_str _); done))) | (apply T_ifT; (· exact rfl); (· (first | assumption | exact rfl))) | (apply T_ifF; (· exact rfl); (· (first | assumption | exact rfl))) | apply S_move | apply S_assign | (apply S_loadW; (· exact rfl); (· exact gt_any rfl); (· exact rfl); (· exact rfl); (· exact rfl); (· exact rfl); (· exact rfl); (· exact rfl)) | apply S_lss | apply S_box | apply S_callQ (f := 10) | apply c0 | apply c9 | exact viewL_nil | apply viewL_cons | (apply View.pure; exact PureC.out) | exact FlatC.out | exact gt_any rfl | exact gts_nil | (apply gts_cons; (· exact gt_any rfl)) | exact okCells_of rfl rfl | assumption | exact rfl | fail)
  rw [szAfter_pos g4] at c9
  have d4 : decide ((1048576 : Int) - ((CliW a : Nat) : Int) - ((CliW b : Nat) : Int) < 0) = false := decide_eq_false g4
  have hWb : CliW b ≤ 1048576 := by omega
  have hlb : b.heads.length ≤ 1048576 := by unfold CliW listW at hWb; omega
  have c1 := toClient_cv a hW
  have c2 := toClient_cv b hWb
  have c4 := specBroke_cv a b hl hlb
  have c5 := implBroke_cv a b hl hlb
  have c6 := eqClient_cv a hW
  have c7 := eqClient_cv b hWb
  have e1 : (brokeV a b != brokeV a b) = false := by simp
  have e2 : (!true) = false := rfl
  repeat' (first | refine T_seq ?_ | refine N_then ?_ | refine T_regX tyOk ?_ | (apply T_drawM (id := 8) 3 tyOk mixed; (· exact rfl); (· exact rfl); (· kernel_rfl); (· exact Nat.le_of_ble_eq_true rfl)) | (apply T_drawM (id := 14) 3 tyOk mixed; (· exact rfl); (· exact rfl); (· kernel_rfl); (· exact Nat.le_of_ble_eq_true rfl)) | (apply T_drawM (id := 16) 3 tyOk mixed; (· exact rfl); (· exact rfl); (· kernel_rfl); (· exact Nat.le_of_ble_eq_true rfl)) | refine S_nil ?_ | refine T_skip ?_ | refine T_ret ?_ | (apply E_tmp; (· exact rfl); (· (repeat' (first | exact pure_int _ _ | exact pure_bool _ | exact pure_str _); done))) | (apply T_ifF; (· exact rfl); (· (first | assumption | exact rfl))) | apply S_move | apply S_assign | (apply S_loadW; (· exact rfl); (· exact gt_any rfl); (· exact rfl); (· exact rfl); (· exact rfl); (· exact rfl); (· exact rfl); (· exact rfl)) | apply S_lss | apply S_not | apply S_alloc | apply S_box | (apply S_store1; (· exact rfl); (· exact gt_any rfl); (· exact rfl); (· exact rfl); (· exact rfl); (· exact rfl)) | (apply S_boolNe; (· exact rfl); (· exact gt_any rfl); (· exact gt_any rfl)) | apply S_callQ (f := 10) | apply c0 | apply c9 | apply S_call (f := 12) | apply c1 | apply c2 | apply S_callQ (f := 27) | apply c4 | apply S_callQ (f := 28) | apply c5 | apply S_callQ (f := 14) | apply c6 | apply c7 | exact viewL_nil | apply viewL_cons | (apply View.pure; exact PureC.out) | exact FlatC.out | exact PureLC.out | exact gt_any rfl | exact gts_nil | (apply gts_cons; (· exact gt_any rfl)) | exact okCells_of rfl rfl | exact rfl | fail)

end Go.Proofs.Ytaolmfgpebncjaa
