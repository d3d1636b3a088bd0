/- The law of signatures checked. -/
import Derived.Test.YthfikpgbddpmoaaZg
set_option maxRecDepth 100000
set_option maxHeartbeats 3200000
set_option linter.unusedSimpArgs false
set_option linter.unusedVariables false
namespace Go.Proofs.Ythfikpgbddpmoaa
open Go.Av
attribute [local irreducible] T thenQ blockQ againQ againS WX retV retR Gt Gts GtsP okCells CV CR Av.Pure
attribute [local irreducible] sha digL signL

theorem law_CheckSign (root m : List UInt8) (x : Sig) (hr : root.length ≤ 9223372036854775807) (hm : m.length ≤ 9223372036854775807) (hx : SigR x) : CV Try.prog 8 [byA root, byA m, sigA x] (· = .bool true) := by
  refine CV_intro tyOk Try.func8 (by kernel_rfl) rfl 59 rfl (by simp) [.tmp 6] rfl ?_
  intro w0 ok0
  have hrl := bA_length root
  have hml := bA_length m
  by_cases g1 : 1048576 < root.length
  · have d1 : decide ((1048576 : Int) < ((bA root).length : Int)) = true := decide_eq_true (by omega)
    repeat' (first | refine T_seq ?_ | refine N_then ?_ | refine N_thenR ?_ | refine T_regX tyOk ?_ | refine S_nil ?_ | refine T_ret ?_ | (apply E_tmp; (· exact rfl); (· (repeat' (first | exact pure_int _ _ | exact pure_bool _ | exact pure_str _); done))) | (apply T_ifT; (· exact rfl); (· (first | assumption | exact rfl))) | apply S_move | apply S_assign | apply S_gtr | (apply S_len_ls; (· exact rfl); (· exact gt_any rfl)) | apply S_box | exact gt_any rfl | exact okCells_of rfl rfl | exact rfl | fail)
  have d1 : decide ((1048576 : Int) < ((bA root).length : Int)) = false := decide_eq_false (by omega)
  by_cases g2 : 1048576 < m.length
  · have d2 : decide ((1048576 : Int) < ((bA m).length : Int)) = true := decide_eq_true (by omega)
    repeat' (first | refine T_seq ?_ | refine N_then ?_ | refine N_thenR ?_ | refine T_regX tyOk ?_ | refine S_nil ?_ | refine T_skip ?_ | refine T_ret ?_ | (apply E_tmp; (· exact rfl); (· (repeat' (first | exact pure_int _ _ | exact pure_bool _ | exact pure_str _); done))) | (apply T_ifT; (· exact rfl); (· (first | assumption | exact rfl))) | (apply T_ifF; (· exact rfl); (· (first | assumption | exact rfl))) | apply S_move | apply S_assign | apply S_gtr | (apply S_len_ls; (· exact rfl); (· exact gt_any rfl)) | apply S_box | exact gt_any rfl | exact okCells_of rfl rfl | exact rfl | fail)
  have d2 : decide ((1048576 : Int) < ((bA m).length : Int)) = false := decide_eq_false (by omega)
  have c0 := szSignature_cv x 1048576 hx (by decide) (by decide)
  by_cases g3 : (1048576 : Int) - (SigW x : Nat) < 0
  · rw [szAfter_neg g3] at c0
    have d3 : decide ((-1 : Int) < 0) = true := rfl
    repeat' (first | refine T_seq ?_ | refine N_then ?_ | refine N_thenR ?_ | refine T_regX tyOk ?_ | refine S_nil ?_ | refine T_skip ?_ | refine T_ret ?_ | (apply E_tmp; (· exact rfl); (· (repeat' (first | exact pure_int _ _ | exact pure_bool _ | exact pure_str _); done))) | (apply T_ifT; (· exact rfl); (· (first | assumption | exact rfl))) | (apply T_ifF; (· exact rfl); (· (first | assumption | exact rfl))) | apply S_move | apply S_assign | (apply S_loadW; (· exact rfl); (· exact gt_any rfl); (· exact rfl); (· exact rfl); (· exact rfl); (· exact rfl); (· exact rfl); (· exact rfl)) | apply S_lss | apply S_gtr | (apply S_len_ls; (· exact rfl); (· exact gt_any rfl)) | apply S_box | apply S_callQ (f := 47) | apply c0 | exact viewL_nil | apply viewL_cons | (apply View.pure; exact PureC.out) | exact FlatC.out | exact gt_any rfl | exact gts_nil | (apply gts_cons; (· exact gt_any rfl)) | exact okCells_of rfl rfl | assumption | exact rfl | fail)
  rw [szAfter_pos g3] at c0
  have d3 : decide ((1048576 : Int) - ((SigW x : Nat) : Int) < 0) = false := decide_eq_false g3
  have hW : SigW x ≤ 1048576 := by omega
  have hW' := hW
  unfold SigW PrfW listW at hW'
  have c1 := toByteS_cv root (by omega)
  have c2 := toByteS_cv m (by omega)
  have c3 := toSignature_cv x hW
  have c4 := specCheckSign_cv root m x (by omega) (by omega) (by omega) (by omega)
  have c5 := checkSign_cv root m x (by omega) (by omega) (by omega)
  have c6 := eqB_cv root (by omega)
  have c7 := eqB_cv m (by omega)
  have c8 := eqSignature_cv x hW
  have e1 : (signL root m x != signL root m x) = false := by simp
  have e2 : (!true) = false := rfl
  repeat' (first | refine T_seq ?_ | refine N_then ?_ | refine T_regX tyOk ?_ | (apply T_drawM (id := 9) 5 tyOk mixed; (· exact rfl); (· exact rfl); (· kernel_rfl); (· exact Nat.le_of_ble_eq_true rfl)) | (apply T_drawM (id := 20) 3 tyOk mixed; (· exact rfl); (· exact rfl); (· kernel_rfl); (· exact Nat.le_of_ble_eq_true rfl)) | refine S_nil ?_ | refine T_skip ?_ | refine T_ret ?_ | (apply E_tmp; (· exact rfl); (· (repeat' (first | exact pure_int _ _ | exact pure_bool _ | exact pure_str _); done))) | (apply T_ifF; (· exact rfl); (· (first | assumption | exact rfl))) | apply S_move | apply S_assign | (apply S_loadW; (· exact rfl); (· exact gt_any rfl); (· exact rfl); (· exact rfl); (· exact rfl); (· exact rfl); (· exact rfl); (· exact rfl)) | apply S_lss | apply S_gtr | apply S_not | (apply S_len_ls; (· exact rfl); (· exact gt_any rfl)) | apply S_alloc | apply S_box | (apply S_store1; (· exact rfl); (· exact gt_any rfl); (· exact rfl); (· exact rfl); (· exact rfl); (· exact rfl)) | (apply S_boolNe; (· exact rfl); (· exact gt_any rfl); (· exact gt_any rfl)) | apply S_callQ (f := 47) | apply c0 | apply S_call (f := 49) | apply c1 | apply c2 | apply S_call (f := 50) | apply c3 | apply S_callQ (f := 48) | apply c4 | apply S_callQ (f := 51) | apply c5 | apply S_callQ (f := 52) | apply c6 | apply c7 | apply S_callQ (f := 53) | apply c8 | exact viewL_nil | apply viewL_cons | exact viewE_pure PureEC.out | apply view_lsV | (apply View.pure; exact PureC.out) | exact FlatC.out | exact PureLC.out | exact gt_any rfl | exact gts_nil | (apply gts_cons; (· exact gt_any rfl)) | exact okCells_of rfl rfl | exact rfl | fail)

end Go.Proofs.Ythfikpgbddpmoaa
