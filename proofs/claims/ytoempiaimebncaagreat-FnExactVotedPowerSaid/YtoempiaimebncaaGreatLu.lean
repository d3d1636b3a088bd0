/- The laws of powers. -/
import Derived.Test.YtoempiaimebncaaGreatLt
import Derived.Test.YtoempiaimebncaaGreatZq
import Derived.Test.YtoempiaimebncaaGreatWe
set_option maxRecDepth 100000
set_option maxHeartbeats 3200000
set_option linter.unusedSimpArgs false
set_option linter.unusedVariables false
namespace Go.Proofs.YtoempiaimebncaaGreat
open Go.Av
attribute [local irreducible] T thenQ blockQ againQ againS WX retV retR Gt Gts GtsP okCells CV CR Av.Pure
attribute [local irreducible] sgdFault vpV mostL spC spV

theorem law_VotedPower (vs : List Vld) (s : Sgd) (hv : listR VldR vs) (hs : SgdR s) : CV Tryz.prog 4 [vldAS vs, sgdA s] (· = .bool true) := by
  refine CV_intro tyOk Tryz.func4 (by kernel_rfl) rfl 46 rfl (by simp) [.tmp 4] rfl ?_
  intro w0 ok0
  have c0 := szValidatorS_cv vs 1048576 hv (by decide) (by decide)
  by_cases g3 : (1048576 : Int) - (listW VldW vs : Nat) < 0
  · rw [szAfter_neg g3] at c0
    have d3 : decide ((-1 : Int) < 0) = true := rfl
    repeat' (first | refine T_seq ?_ | refine N_then ?_ | refine N_thenR ?_ | refine T_regX tyOk ?_ | refine S_nil ?_ | refine T_ret ?_ | (apply E_tmp; (· exact rfl); (· (repeat' (first | exact pure_int _ _ | exact pure_bool _ | exact pure_str _); done))) | (apply T_ifT; (· exact rfl); (· (first | assumption | exact rfl))) | apply S_move | apply S_assign | apply S_lss | apply S_box | apply S_callQ (f := 7) | apply c0 | exact viewL_nil | apply viewL_cons | (apply View.pure; exact PureC.out) | exact FlatC.out | exact gt_any rfl | exact gts_nil | (apply gts_cons; (· exact gt_any rfl)) | exact okCells_of rfl rfl | assumption | exact rfl | fail)
  rw [szAfter_pos g3] at c0
  have d3 : decide ((1048576 : Int) - ((listW VldW vs : Nat) : Int) < 0) = false := decide_eq_false g3
  have hW : listW VldW vs ≤ 1048576 := by omega
  have c9 := szSigned_cv s (1048576 - ((listW VldW vs : Nat) : Int)) hs (by omega) (by omega)
  by_cases g4 : (1048576 : Int) - ((listW VldW vs : Nat) : Int) - (SgdW s : Nat) < 0
  · rw [szAfter_neg g4] at c9
    have d4 : decide ((-1 : Int) < 0) = true := rfl
    repeat' (first | refine T_seq ?_ | refine N_then ?_ | refine N_thenR ?_ | refine T_regX tyOk ?_ | refine S_nil ?_ | refine T_skip ?_ | refine T_ret ?_ | (apply E_tmp; (· exact rfl); (· (repeat' (first | exact pure_int _ _ | exact pure_bool _ | exact pure_str _); done))) | (apply T_ifT; (· exact rfl); (· (first | assumption | exact rfl))) | (apply T_ifF; (· exact rfl); (· (first | assumption | exact rfl))) | apply S_move | apply S_assign | (apply S_loadW; (· exact rfl); (· exact gt_any rfl); (· exact rfl); (· exact rfl); (· exact rfl); (· exact rfl); (· exact rfl); (· exact rfl)) | apply S_lss | apply S_box | apply S_callQ (f := 7) | apply c0 | apply S_callQ (f := 8) | apply c9 | exact viewL_nil | apply viewL_cons | (apply View.pure; exact PureC.out) | exact FlatC.out | exact gt_any rfl | exact gts_nil | (apply gts_cons; (· exact gt_any rfl)) | exact okCells_of rfl rfl | assumption | exact rfl | fail)
  rw [szAfter_pos g4] at c9
  have d4 : decide ((1048576 : Int) - ((listW VldW vs : Nat) : Int) - ((SgdW s : Nat) : Int) < 0) = false := decide_eq_false g4
  have hP : SgdW s ≤ 1048576 := by omega
  have hvl : vs.length ≤ 1048576 := by unfold listW at hW; omega
  have c1 := toValidatorS_cv vs hW
  have c2 := toSigned_cv s hP
  have c4 := specVotedPower_cv vs s hvl hP (vld_keys hW)
  have c5 := implVotedPower_cv vs s hvl hP
  have c6 := eqValidatorS_cv vs hW
  have c7 := eqSigned_cv s hP
  have c8 := eqIntResult_cv (sgdFault vs s) (vpV vs s) (sgdFault vs s) (vpV vs s)
  rw [decide_eq_true rfl, decide_eq_true rfl] at c8
  have e1 : (!(true && true)) = false := rfl
  have e2 : (!true) = false := rfl
  repeat' (first | refine T_seq ?_ | refine N_then ?_ | refine T_regX tyOk ?_ | (apply T_drawQ (id := 8) 6 [5] tyOk mixed; (· exact rfl); (· exact rfl); (· exact rfl); (· kernel_rfl); (· kernel_rfl); (· exact Nat.le_of_ble_eq_true rfl)) | (apply T_drawM (id := 16) 3 tyOk mixed; (· exact rfl); (· exact rfl); (· kernel_rfl); (· exact Nat.le_of_ble_eq_true rfl)) | refine S_nil ?_ | refine T_skip ?_ | refine T_ret ?_ | (apply E_tmp; (· exact rfl); (· (repeat' (first | exact pure_int _ _ | exact pure_bool _ | exact pure_str _); done))) | (apply T_ifF; (· exact rfl); (· (first | assumption | exact rfl))) | apply S_move | apply S_assign | (apply S_loadW; (· exact rfl); (· exact gt_any rfl); (· exact rfl); (· exact rfl); (· exact rfl); (· exact rfl); (· exact rfl); (· exact rfl)) | apply S_lss | apply S_not | apply S_alloc | apply S_box | (apply S_store1; (· exact rfl); (· exact gt_any rfl); (· exact rfl); (· exact rfl); (· exact rfl); (· exact rfl)) | (apply L_alloc tyOk; (· exact rfl); (· exact rfl); (· (first | exact okCells_of rfl rfl | assumption)); (· exact rfl); (· exact rfl)) | apply S_callQ (f := 7) | apply c0 | apply S_callQ (f := 8) | apply c9 | apply S_call (f := 10) | apply c1 | apply S_call (f := 11) | apply c2 | apply S_callQ (f := 16) | apply c4 | apply S_callQ (f := 17) | apply c5 | apply S_callQ (f := 14) | apply c6 | apply S_callQ (f := 15) | apply c7 | apply S_callQ (f := 13) | apply c8 | exact viewL_nil | apply viewL_cons | exact viewE_pure PureEC.out | apply view_lsV | (apply View.pure; exact PureC.out) | exact FlatC.out | exact PureLC.out | exact gt_any rfl | exact gts_nil | (apply gts_cons; (· exact gt_any rfl)) | exact okCells_of rfl rfl | exact rfl | fail)

theorem law_MostVoted (vs : List Vld) (s : Sgd) (hv : listR VldR vs) (hs : SgdR s) : CV Tryz.prog 5 [vldAS vs, sgdA s] (· = .bool true) := by
  refine CV_intro tyOk Tryz.func5 (by kernel_rfl) rfl 45 rfl (by simp) [.tmp 4] rfl ?_
  intro w0 ok0
  have c0 := szValidatorS_cv vs 1048576 hv (by decide) (by decide)
  by_cases g3 : (1048576 : Int) - (listW VldW vs : Nat) < 0
  · rw [szAfter_neg g3] at c0
    have d3 : decide ((-1 : Int) < 0) = true := rfl
    repeat' (first | refine T_seq ?_ | refine N_then ?_ | refine N_thenR ?_ | refine T_regX tyOk ?_ | refine S_nil ?_ | refine T_ret ?_ | (apply E_tmp; (· exact rfl); (· (repeat' (first | exact pure_int _ _ | exact pure_bool _ | exact pure_str _); done))) | (apply T_ifT; (· exact rfl); (· (first | assumption | exact rfl))) | apply S_move | apply S_assign | apply S_lss | apply S_box | apply S_callQ (f := 7) | apply c0 | exact viewL_nil | apply viewL_cons | (apply View.pure; exact PureC.out) | exact FlatC.out | exact gt_any rfl | exact gts_nil | (apply gts_cons; (· exact gt_any rfl)) | exact okCells_of rfl rfl | assumption | exact rfl | fail)
  rw [szAfter_pos g3] at c0
  have d3 : decide ((1048576 : Int) - ((listW VldW vs : Nat) : Int) < 0) = false := decide_eq_false g3
  have hW : listW VldW vs ≤ 1048576 := by omega
  have c9 := szSigned_cv s (1048576 - ((listW VldW vs : Nat) : Int)) hs (by omega) (by omega)
  by_cases g4 : (1048576 : Int) - ((listW VldW vs : Nat) : Int) - (SgdW s : Nat) < 0
  · rw [szAfter_neg g4] at c9
    have d4 : decide ((-1 : Int) < 0) = true := rfl
    repeat' (first | refine T_seq ?_ | refine N_then ?_ | refine N_thenR ?_ | refine T_regX tyOk ?_ | refine S_nil ?_ | refine T_skip ?_ | refine T_ret ?_ | (apply E_tmp; (· exact rfl); (· (repeat' (first | exact pure_int _ _ | exact pure_bool _ | exact pure_str _); done))) | (apply T_ifT; (· exact rfl); (· (first | assumption | exact rfl))) | (apply T_ifF; (· exact rfl); (· (first | assumption | exact rfl))) | apply S_move | apply S_assign | (apply S_loadW; (· exact rfl); (· exact gt_any rfl); (· exact rfl); (· exact rfl); (· exact rfl); (· exact rfl); (· exact rfl); (· exact rfl)) | apply S_lss | apply S_box | apply S_callQ (f := 7) | apply c0 | apply S_callQ (f := 8) | apply c9 | exact viewL_nil | apply viewL_cons | (apply View.pure; exact PureC.out) | exact FlatC.out | exact gt_any rfl | exact gts_nil | (apply gts_cons; (· exact gt_any rfl)) | exact okCells_of rfl rfl | assumption | exact rfl | fail)
  rw [szAfter_pos g4] at c9
  have d4 : decide ((1048576 : Int) - ((listW VldW vs : Nat) : Int) - ((SgdW s : Nat) : Int) < 0) = false := decide_eq_false g4
  have hP : SgdW s ≤ 1048576 := by omega
  have hvl : vs.length ≤ 1048576 := by unfold listW at hW; omega
  have c1 := toValidatorS_cv vs hW
  have c2 := toSigned_cv s hP
  have c4 := specMostVoted_cv vs s hvl hP (vld_keys hW)
  have c5 := implMostVoted_cv vs s hvl hP
  have c6 := eqValidatorS_cv vs hW
  have c7 := eqSigned_cv s hP
  have e1 : (mostL vs s != mostL vs s) = false := by simp
  have e2 : (!true) = false := rfl
  repeat' (first | refine T_seq ?_ | refine N_then ?_ | refine T_regX tyOk ?_ | (apply T_drawM (id := 8) 3 tyOk mixed; (· exact rfl); (· exact rfl); (· kernel_rfl); (· exact Nat.le_of_ble_eq_true rfl)) | (apply T_drawM (id := 16) 3 tyOk mixed; (· exact rfl); (· exact rfl); (· kernel_rfl); (· exact Nat.le_of_ble_eq_true rfl)) | refine S_nil ?_ | refine T_skip ?_ | refine T_ret ?_ | (apply E_tmp; (· exact rfl); (· (repeat' (first | exact pure_int _ _ | exact pure_bool _ | exact pure_str _); done))) | (apply T_ifF; (· exact rfl); (· (first | assumption | exact rfl))) | apply S_move | apply S_assign | (apply S_loadW; (· exact rfl); (· exact gt_any rfl); (· exact rfl); (· exact rfl); (· exact rfl); (· exact rfl); (· exact rfl); (· exact rfl)) | apply S_lss | apply S_not | apply S_alloc | apply S_box | (apply S_store1; (· exact rfl); (· exact gt_any rfl); (· exact rfl); (· exact rfl); (· exact rfl); (· exact rfl)) | (apply S_boolNe; (· exact rfl); (· exact gt_any rfl); (· exact gt_any rfl)) | apply S_callQ (f := 7) | apply c0 | apply S_callQ (f := 8) | apply c9 | apply S_call (f := 10) | apply c1 | apply S_call (f := 11) | apply c2 | apply S_callQ (f := 18) | apply c4 | apply S_callQ (f := 19) | apply c5 | apply S_callQ (f := 14) | apply c6 | apply S_callQ (f := 15) | apply c7 | exact viewL_nil | apply viewL_cons | exact viewE_pure PureEC.out | apply view_lsV | (apply View.pure; exact PureC.out) | exact FlatC.out | exact PureLC.out | exact gt_any rfl | exact gts_nil | (apply gts_cons; (· exact gt_any rfl)) | exact okCells_of rfl rfl | exact rfl | fail)

theorem law_SharedPower (vs os : List Vld) (s : Sgd) (hv : listR VldR vs) (ho : listR VldR os) (hs : SgdR s) : CV Tryz.prog 3 [vldAS vs, vldAS os, sgdA s] (· = .bool true) := by
  refine CV_intro tyOk Tryz.func3 (by kernel_rfl) rfl 64 rfl (by simp) [.tmp 6] rfl ?_
  intro w0 ok0
  have c0 := szValidatorS_cv vs 1048576 hv (by decide) (by decide)
  by_cases g3 : (1048576 : Int) - (listW VldW vs : Nat) < 0
  · rw [szAfter_neg g3] at c0
    have d3 : decide ((-1 : Int) < 0) = true := rfl
    repeat' (first | refine T_seq ?_ | refine N_then ?_ | refine N_thenR ?_ | refine T_regX tyOk ?_ | refine S_nil ?_ | refine T_ret ?_ | (apply E_tmp; (· exact rfl); (· (repeat' (first | exact pure_int _ _ | exact pure_bool _ | exact pure_str _); done))) | (apply T_ifT; (· exact rfl); (· (first | assumption | exact rfl))) | apply S_move | apply S_assign | apply S_lss | apply S_box | apply S_callQ (f := 7) | apply c0 | exact viewL_nil | apply viewL_cons | (apply View.pure; exact PureC.out) | exact FlatC.out | exact gt_any rfl | exact gts_nil | (apply gts_cons; (· exact gt_any rfl)) | exact okCells_of rfl rfl | assumption | exact rfl | fail)
  rw [szAfter_pos g3] at c0
  have d3 : decide ((1048576 : Int) - ((listW VldW vs : Nat) : Int) < 0) = false := decide_eq_false g3
  have hW : listW VldW vs ≤ 1048576 := by omega
  have b0 := szValidatorS_cv os (1048576 - ((listW VldW vs : Nat) : Int)) ho (by omega) (by omega)
  by_cases g5 : (1048576 : Int) - ((listW VldW vs : Nat) : Int) - (listW VldW os : Nat) < 0
  · rw [szAfter_neg g5] at b0
    have d3' : decide ((-1 : Int) < 0) = true := rfl
    repeat' (first | refine T_seq ?_ | refine N_then ?_ | refine N_thenR ?_ | refine T_regX tyOk ?_ | refine S_nil ?_ | refine T_skip ?_ | refine T_ret ?_ | (apply E_tmp; (· exact rfl); (· (repeat' (first | exact pure_int _ _ | exact pure_bool _ | exact pure_str _); done))) | (apply T_ifT; (· exact rfl); (· (first | assumption | exact rfl))) | (apply T_ifF; (· exact rfl); (· (first | assumption | exact rfl))) | apply S_move | apply S_assign | apply S_lss | apply S_box | apply S_callQ (f := 7) | apply c0 | apply b0 | exact viewL_nil | apply viewL_cons | (apply View.pure; exact PureC.out) | exact FlatC.out | exact gt_any rfl | exact gts_nil | (apply gts_cons; (· exact gt_any rfl)) | exact okCells_of rfl rfl | assumption | exact rfl | fail)
  rw [szAfter_pos g5] at b0
  have d5 : decide ((1048576 : Int) - ((listW VldW vs : Nat) : Int) - ((listW VldW os : Nat) : Int) < 0) = false := decide_eq_false g5
  have hO : listW VldW os ≤ 1048576 := by omega
  have c9 := szSigned_cv s (1048576 - ((listW VldW vs : Nat) : Int) - ((listW VldW os : Nat) : Int)) hs (by omega) (by omega)
  by_cases g4 : (1048576 : Int) - ((listW VldW vs : Nat) : Int) - ((listW VldW os : Nat) : Int) - (SgdW s : Nat) < 0
  · rw [szAfter_neg g4] at c9
    have d4 : decide ((-1 : Int) < 0) = true := rfl
    repeat' (first | refine T_seq ?_ | refine N_then ?_ | refine N_thenR ?_ | refine T_regX tyOk ?_ | refine S_nil ?_ | refine T_skip ?_ | refine T_ret ?_ | (apply E_tmp; (· exact rfl); (· (repeat' (first | exact pure_int _ _ | exact pure_bool _ | exact pure_str _); done))) | (apply T_ifT; (· exact rfl); (· (first | assumption | exact rfl))) | (apply T_ifF; (· exact rfl); (· (first | assumption | exact rfl))) | apply S_move | apply S_assign | (apply S_loadW; (· exact rfl); (· exact gt_any rfl); (· exact rfl); (· exact rfl); (· exact rfl); (· exact rfl); (· exact rfl); (· exact rfl)) | apply S_lss | apply S_box | apply S_callQ (f := 7) | apply c0 | apply b0 | apply S_callQ (f := 8) | apply c9 | exact viewL_nil | apply viewL_cons | (apply View.pure; exact PureC.out) | exact FlatC.out | exact gt_any rfl | exact gts_nil | (apply gts_cons; (· exact gt_any rfl)) | exact okCells_of rfl rfl | assumption | exact rfl | fail)
  rw [szAfter_pos g4] at c9
  have d4 : decide ((1048576 : Int) - ((listW VldW vs : Nat) : Int) - ((listW VldW os : Nat) : Int) - ((SgdW s : Nat) : Int) < 0) = false := decide_eq_false g4
  have hP : SgdW s ≤ 1048576 := by omega
  have hvl : vs.length ≤ 1048576 := by unfold listW at hW; omega
  have hol : os.length ≤ 1048576 := by unfold listW at hO; omega
  have c1 := toValidatorS_cv vs hW
  have b1 := toValidatorS_cv os hO
  have c2 := toSigned_cv s hP
  have c4 := specSharedPower_cv vs os s hvl hol hP (vld_keys hW) (vld_keys hO)
  have c5 := implSharedPower_cv vs os s hvl hol hP
  have c6 := eqValidatorS_cv vs hW
  have b6 := eqValidatorS_cv os hO
  have c7 := eqSigned_cv s hP
  have c8 := eqIntResult_cv (spC vs os s) (spV vs os s) (spC vs os s) (spV vs os s)
  rw [decide_eq_true rfl, decide_eq_true rfl] at c8
  have e1 : (!(true && true)) = false := rfl
  have e2 : (!true) = false := rfl
  repeat' (first | refine T_seq ?_ | refine N_then ?_ | refine T_regX tyOk ?_ | (apply T_drawQ (id := 11) 8 [7] tyOk mixed; (· exact rfl); (· exact rfl); (· exact rfl); (· kernel_rfl); (· kernel_rfl); (· exact Nat.le_of_ble_eq_true rfl)) | (apply T_drawM (id := 22) 3 tyOk mixed; (· exact rfl); (· exact rfl); (· kernel_rfl); (· exact Nat.le_of_ble_eq_true rfl)) | refine S_nil ?_ | refine T_skip ?_ | refine T_ret ?_ | (apply E_tmp; (· exact rfl); (· (repeat' (first | exact pure_int _ _ | exact pure_bool _ | exact pure_str _); done))) | (apply T_ifF; (· exact rfl); (· (first | assumption | exact rfl))) | apply S_move | apply S_assign | (apply S_loadW; (· exact rfl); (· exact gt_any rfl); (· exact rfl); (· exact rfl); (· exact rfl); (· exact rfl); (· exact rfl); (· exact rfl)) | apply S_lss | apply S_not | apply S_alloc | apply S_box | (apply S_store1; (· exact rfl); (· exact gt_any rfl); (· exact rfl); (· exact rfl); (· exact rfl); (· exact rfl)) | (apply L_alloc tyOk; (· exact rfl); (· exact rfl); (· (first | exact okCells_of rfl rfl | assumption)); (· exact rfl); (· exact rfl)) | apply S_callQ (f := 7) | apply c0 | apply b0 | apply S_callQ (f := 8) | apply c9 | apply S_call (f := 10) | apply c1 | apply b1 | apply S_call (f := 11) | apply c2 | apply S_callQ (f := 9) | apply c4 | apply S_callQ (f := 12) | apply c5 | apply S_callQ (f := 14) | apply c6 | apply b6 | apply S_callQ (f := 15) | apply c7 | apply S_callQ (f := 13) | apply c8 | exact viewL_nil | apply viewL_cons | exact viewE_pure PureEC.out | apply view_lsV | (apply View.pure; exact PureC.out) | exact FlatC.out | exact PureLC.out | exact gt_any rfl | exact gts_nil | (apply gts_cons; (· exact gt_any rfl)) | exact okCells_of rfl rfl | exact rfl | fail)

end Go.Proofs.YtoempiaimebncaaGreat
