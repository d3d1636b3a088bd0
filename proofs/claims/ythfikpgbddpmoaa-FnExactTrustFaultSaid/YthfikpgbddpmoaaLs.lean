/- The laws of trusts' faults and of events checked against trusts. -/
import Derived.Test.YthfikpgbddpmoaaZm
set_option maxRecDepth 100000
set_option maxHeartbeats 3200000
set_option linter.unusedSimpArgs false
set_option linter.unusedVariables false
namespace Go.Proofs.Ythfikpgbddpmoaa
open Go.Av
attribute [local irreducible] T thenQ blockQ againQ againS WX retV retR Gt Gts GtsP okCells CV CR Av.Pure
attribute [local irreducible] truFault evFault

theorem law_TrustFault (t : Tru) (hx : TruR t) : CV Try.prog 10 [truA t] (· = .bool true) := by
  refine CV_intro tyOk Try.func10 (by kernel_rfl) rfl 27 rfl (by simp) [.tmp 2] rfl ?_
  intro w0 ok0
  have c0 := szTrust_cv t 1048576 hx (by decide) (by decide)
  by_cases g3 : (1048576 : Int) - (TruW t : Nat) < 0
  · rw [szAfter_neg g3] at c0
    have d3 : decide ((-1 : Int) < 0) = true := rfl
    repeat' (first | refine T_seq ?_ | refine N_then ?_ | refine N_thenR ?_ | refine T_regX tyOk ?_ | refine S_nil ?_ | refine T_ret ?_ | (apply E_tmp; (· exact rfl); (· (repeat' (first | exact pure_int _ _ | exact pure_bool _ | exact pure_str _); done))) | (apply T_ifT; (· exact rfl); (· (first | assumption | exact rfl))) | apply S_move | apply S_assign | (apply S_loadW; (· exact rfl); (· exact gt_any rfl); (· exact rfl); (· exact rfl); (· exact rfl); (· exact rfl); (· exact rfl); (· exact rfl)) | apply S_lss | apply S_box | apply S_callQ (f := 60) | apply c0 | exact viewL_nil | apply viewL_cons | (apply View.pure; exact PureC.out) | exact FlatC.out | exact gt_any rfl | exact gts_nil | (apply gts_cons; (· exact gt_any rfl)) | exact okCells_of rfl rfl | assumption | exact rfl | fail)
  rw [szAfter_pos g3] at c0
  have d3 : decide ((1048576 : Int) - ((TruW t : Nat) : Int) < 0) = false := decide_eq_false g3
  have hW : TruW t ≤ 1048576 := by omega
  have c3 := toTrust_cv t hW
  have c4 := specTruFault_cv t hW
  have c5 := truFault_cv t hW
  have c8 := eqTrust_cv t hW
  have e1 : (!decide (truFault t = truFault t)) = false := by rw [decide_eq_true rfl]; rfl
  have e2 : (!true) = false := rfl
  repeat' (first | refine T_seq ?_ | refine N_then ?_ | refine T_regX tyOk ?_ | (apply T_drawM (id := 10) 3 tyOk mixed; (· exact rfl); (· exact rfl); (· kernel_rfl); (· exact Nat.le_of_ble_eq_true rfl)) | refine S_nil ?_ | refine T_skip ?_ | refine T_ret ?_ | (apply E_tmp; (· exact rfl); (· (repeat' (first | exact pure_int _ _ | exact pure_bool _ | exact pure_str _); done))) | (apply T_ifF; (· exact rfl); (· (first | assumption | exact rfl))) | apply S_move | apply S_assign | (apply S_loadW; (· exact rfl); (· exact gt_any rfl); (· exact rfl); (· exact rfl); (· exact rfl); (· exact rfl); (· exact rfl); (· exact rfl)) | apply S_lss | (apply S_neq; (· exact gt_any rfl); (· exact gt_any rfl)) | apply S_not | apply S_alloc | apply S_box | (apply S_store1; (· exact rfl); (· exact gt_any rfl); (· exact rfl); (· exact rfl); (· exact rfl); (· exact rfl)) | apply S_callQ (f := 60) | apply c0 | apply S_call (f := 62) | apply c3 | apply S_callQ (f := 61) | apply c4 | apply S_callQ (f := 63) | apply c5 | apply S_callQ (f := 64) | apply c8 | exact viewL_nil | apply viewL_cons | (apply View.pure; exact PureC.out) | exact FlatC.out | exact PureLC.out | exact gt_any rfl | exact gts_nil | (apply gts_cons; (· exact gt_any rfl)) | exact okCells_of rfl rfl | exact rfl | fail)

theorem law_CheckEventB (t : Tru) (n : Int) (d : List UInt8) (p : Prf) (hx : TruR t) (hd : d.length ≤ 9223372036854775807) (hp : PrfR p) : CV Try.prog 12 [truA t, .int .i64 n, byA d, prfA p] (· = .bool true) := by
  refine CV_intro tyOk Try.func12 (by kernel_rfl) rfl 65 rfl (by simp) [.tmp 8] rfl ?_
  intro w0 ok0
  have hdl := bA_length d
  by_cases g2 : 1048576 < d.length
  · have d2 : decide ((1048576 : Int) < ((bA d).length : Int)) = true := decide_eq_true (by omega)
    repeat' (first | refine T_seq ?_ | refine N_then ?_ | refine N_thenR ?_ | refine T_regX tyOk ?_ | refine S_nil ?_ | refine T_ret ?_ | (apply E_tmp; (· exact rfl); (· (repeat' (first | exact pure_int _ _ | exact pure_bool _ | exact pure_str _); done))) | (apply T_ifT; (· exact rfl); (· (first | assumption | exact rfl))) | apply S_move | apply S_assign | apply S_gtr | (apply S_len_ls; (· exact rfl); (· exact gt_any rfl)) | apply S_box | exact gt_any rfl | exact okCells_of rfl rfl | exact rfl | fail)
  have d2 : decide ((1048576 : Int) < ((bA d).length : Int)) = false := decide_eq_false (by omega)
  have c0 := szTrust_cv t 1048576 hx (by decide) (by decide)
  by_cases g3 : (1048576 : Int) - (TruW t : Nat) < 0
  · rw [szAfter_neg g3] at c0
    have d3 : decide ((-1 : Int) < 0) = true := rfl
    repeat' (first | refine T_seq ?_ | refine N_then ?_ | refine N_thenR ?_ | refine T_regX tyOk ?_ | refine S_nil ?_ | refine T_skip ?_ | refine T_ret ?_ | (apply E_tmp; (· exact rfl); (· (repeat' (first | exact pure_int _ _ | exact pure_bool _ | exact pure_str _); done))) | (apply T_ifT; (· exact rfl); (· (first | assumption | exact rfl))) | (apply T_ifF; (· exact rfl); (· (first | assumption | exact rfl))) | apply S_move | apply S_assign | (apply S_loadW; (· exact rfl); (· exact gt_any rfl); (· exact rfl); (· exact rfl); (· exact rfl); (· exact rfl); (· exact rfl); (· exact rfl)) | apply S_lss | apply S_gtr | (apply S_len_ls; (· exact rfl); (· exact gt_any rfl)) | apply S_box | apply S_callQ (f := 60) | apply c0 | exact viewL_nil | apply viewL_cons | (apply View.pure; exact PureC.out) | exact FlatC.out | exact gt_any rfl | exact gts_nil | (apply gts_cons; (· exact gt_any rfl)) | exact okCells_of rfl rfl | assumption | exact rfl | fail)
  rw [szAfter_pos g3] at c0
  have d3 : decide ((1048576 : Int) - ((TruW t : Nat) : Int) < 0) = false := decide_eq_false g3
  have hW : TruW t ≤ 1048576 := by omega
  have c9 := szProof_cv p (1048576 - ((TruW t : Nat) : Int)) hp (by omega) (by omega)
  by_cases g4 : (1048576 : Int) - ((TruW t : Nat) : Int) - (PrfW p : Nat) < 0
  · rw [szAfter_neg g4] at c9
    have d4 : decide ((-1 : Int) < 0) = true := rfl
    repeat' (first | refine T_seq ?_ | refine N_then ?_ | refine N_thenR ?_ | refine T_regX tyOk ?_ | refine S_nil ?_ | refine T_skip ?_ | refine T_ret ?_ | (apply E_tmp; (· exact rfl); (· (repeat' (first | exact pure_int _ _ | exact pure_bool _ | exact pure_str _); done))) | (apply T_ifT; (· exact rfl); (· (first | assumption | exact rfl))) | (apply T_ifF; (· exact rfl); (· (first | assumption | exact rfl))) | apply S_move | apply S_assign | (apply S_loadW; (· exact rfl); (· exact gt_any rfl); (· exact rfl); (· exact rfl); (· exact rfl); (· exact rfl); (· exact rfl); (· exact rfl)) | apply S_lss | apply S_gtr | (apply S_len_ls; (· exact rfl); (· exact gt_any rfl)) | apply S_box | apply S_callQ (f := 60) | apply c0 | apply S_callQ (f := 71) | apply c9 | exact viewL_nil | apply viewL_cons | (apply View.pure; exact PureC.out) | exact FlatC.out | exact gt_any rfl | exact gts_nil | (apply gts_cons; (· exact gt_any rfl)) | exact okCells_of rfl rfl | assumption | exact rfl | fail)
  rw [szAfter_pos g4] at c9
  have d4 : decide ((1048576 : Int) - ((TruW t : Nat) : Int) - ((PrfW p : Nat) : Int) < 0) = false := decide_eq_false g4
  have hP : PrfW p ≤ 1048576 := by omega
  have hP' := hP
  unfold PrfW listW at hP'
  have c2 := toByteS_cv d (by omega)
  have c3 := toTrust_cv t hW
  have c1 := toProof_cv p hP
  have c4 := specCheckEventB_cv t n d p hW (by omega) (by omega)
  have c5 := checkEventB_cv t n d p hW (by omega) (by omega)
  have c6 := eqB_cv d (by omega)
  have c7 := eqProof_cv p hP
  have c8 := eqTrust_cv t hW
  have e1 : (!decide (evFault t n d p = evFault t n d p)) = false := by rw [decide_eq_true rfl]; rfl
  have e2 : (!true) = false := rfl
  repeat' (first | refine T_seq ?_ | refine N_then ?_ | refine T_regX tyOk ?_ | (apply T_drawM (id := 10) 7 tyOk mixed; (· exact rfl); (· exact rfl); (· kernel_rfl); (· exact Nat.le_of_ble_eq_true rfl)) | (apply T_drawM (id := 17) 3 tyOk mixed; (· exact rfl); (· exact rfl); (· kernel_rfl); (· exact Nat.le_of_ble_eq_true rfl)) | (apply T_drawM (id := 21) 3 tyOk mixed; (· exact rfl); (· exact rfl); (· kernel_rfl); (· exact Nat.le_of_ble_eq_true rfl)) | refine S_nil ?_ | refine T_skip ?_ | refine T_ret ?_ | (apply E_tmp; (· exact rfl); (· (repeat' (first | exact pure_int _ _ | exact pure_bool _ | exact pure_str _); done))) | (apply T_ifF; (· exact rfl); (· (first | assumption | exact rfl))) | apply S_move | apply S_assign | (apply S_loadW; (· exact rfl); (· exact gt_any rfl); (· exact rfl); (· exact rfl); (· exact rfl); (· exact rfl); (· exact rfl); (· exact rfl)) | apply S_lss | apply S_gtr | (apply S_neq; (· exact gt_any rfl); (· exact gt_any rfl)) | apply S_not | (apply S_len_ls; (· exact rfl); (· exact gt_any rfl)) | apply S_alloc | apply S_box | (apply S_store1; (· exact rfl); (· exact gt_any rfl); (· exact rfl); (· exact rfl); (· exact rfl); (· exact rfl)) | apply S_callQ (f := 60) | apply c0 | apply S_callQ (f := 71) | apply c9 | apply S_call (f := 73) | apply c1 | apply S_call (f := 49) | apply c2 | apply S_call (f := 62) | apply c3 | apply S_callQ (f := 72) | apply c4 | apply S_callQ (f := 74) | apply c5 | apply S_callQ (f := 52) | apply c6 | apply S_callQ (f := 75) | apply c7 | apply S_callQ (f := 64) | apply c8 | exact viewL_nil | apply viewL_cons | exact viewE_pure PureEC.out | apply view_lsV | (apply View.pure; exact PureC.out) | exact FlatC.out | exact PureLC.out | exact gt_any rfl | exact gts_nil | (apply gts_cons; (· exact gt_any rfl)) | exact okCells_of rfl rfl | exact rfl | fail)

end Go.Proofs.Ythfikpgbddpmoaa
