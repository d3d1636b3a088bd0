/- The law of tips. -/
import Derived.Test.YtaolmfgpebncjaaZza
import Derived.Test.YtaolmfgpebncjaaWe
set_option maxRecDepth 100000
set_option maxHeartbeats 3200000
set_option linter.unusedSimpArgs false
set_option linter.unusedVariables false
namespace Go.Proofs.Ytaolmfgpebncjaa
open Go.Av
attribute [local irreducible] T thenQ blockQ againQ againS WX retV retR Gt Gts GtsP okCells CV CR Av.Pure
attribute [local irreducible] cliFault tipV

theorem law_TipOf (c : Cli) (hc : CliR c) : CV Try.prog 4 [cliA c] (· = .bool true) := by
  refine CV_intro tyOk Try.func4 (by kernel_rfl) rfl 28 rfl (by simp) [.tmp 2] rfl ?_
  intro w0 ok0
  have c0 := szClient_cv c 1048576 hc (by decide) (by decide)
  by_cases g3 : (1048576 : Int) - (CliW c : Nat) < 0
  · rw [szAfter_neg g3] at c0
    have d3 : decide ((-1 : Int) < 0) = true := rfl
    repeat' (first | refine T_seq ?_ | refine N_then ?_ | refine N_thenR ?_ | refine T_regX tyOk ?_ | refine S_nil ?_ | refine T_ret ?_ | (apply E_tmp; (· exact rfl); (· (repeat' (first | exact pure_int _ _ | exact pure_bool _ | exact pure_str _); done))) | (apply T_ifT; (· exact rfl); (· (first | assumption | exact rfl))) | apply S_move | apply S_assign | (apply S_loadW; (· exact rfl); (· exact gt_any rfl); (· exact rfl); (· exact rfl); (· exact rfl); (· exact rfl); (· exact rfl); (· exact rfl)) | apply S_lss | apply S_box | apply S_callQ (f := 10) | apply c0 | exact viewL_nil | apply viewL_cons | (apply View.pure; exact PureC.out) | exact FlatC.out | exact gt_any rfl | exact gts_nil | (apply gts_cons; (· exact gt_any rfl)) | exact okCells_of rfl rfl | assumption | exact rfl | fail)
  rw [szAfter_pos g3] at c0
  have d3 : decide ((1048576 : Int) - ((CliW c : Nat) : Int) < 0) = false := decide_eq_false g3
  have hW : CliW c ≤ 1048576 := by omega
  have hl : c.heads.length ≤ 1048576 := by unfold CliW listW at hW; omega
  have c1 := toClient_cv c hW
  have c4 := specTipOf_cv c hl
  have c5 := tipOf_cv c hl
  have c6 := eqClient_cv c hW
  have c8 := eqIntResult_cv (cliFault c) (tipV c) (cliFault c) (tipV c)
  rw [decide_eq_true rfl, decide_eq_true rfl] at c8
  have e1 : (!(true && true)) = false := rfl
  have e2 : (!true) = false := rfl
  repeat' (first | refine T_seq ?_ | refine N_then ?_ | refine T_regX tyOk ?_ | (apply T_drawM (id := 10) 3 tyOk mixed; (· exact rfl); (· exact rfl); (· kernel_rfl); (· exact Nat.le_of_ble_eq_true rfl)) | refine S_nil ?_ | refine T_skip ?_ | refine T_ret ?_ | (apply E_tmp; (· exact rfl); (· (repeat' (first | exact pure_int _ _ | exact pure_bool _ | exact pure_str _); done))) | (apply T_ifF; (· exact rfl); (· (first | assumption | exact rfl))) | apply S_move | apply S_assign | (apply S_loadW; (· exact rfl); (· exact gt_any rfl); (· exact rfl); (· exact rfl); (· exact rfl); (· exact rfl); (· exact rfl); (· exact rfl)) | apply S_lss | apply S_not | apply S_alloc | apply S_box | (apply S_store1; (· exact rfl); (· exact gt_any rfl); (· exact rfl); (· exact rfl); (· exact rfl); (· exact rfl)) | apply S_callQ (f := 10) | apply c0 | apply S_call (f := 12) | apply c1 | apply S_callQ (f := 15) | apply c4 | apply S_callQ (f := 16) | apply c5 | apply S_callQ (f := 14) | apply c6 | apply S_callQ (f := 17) | apply c8 | exact viewL_nil | apply viewL_cons | (apply View.pure; exact PureC.out) | exact FlatC.out | exact PureLC.out | exact gt_any rfl | exact gts_nil | (apply gts_cons; (· exact gt_any rfl)) | exact okCells_of rfl rfl | exact rfl | fail)

end Go.Proofs.Ytaolmfgpebncjaa
