/- Logs and their records, by value. -/
import Derived.Test.YtmaginepopldnaaYc
import Derived.Test.YtmaginepopldnaaXl
import Derived.Test.YtmaginepopldnaaXi
set_option maxRecDepth 100000
set_option maxHeartbeats 3200000
set_option linter.unusedSimpArgs false
set_option linter.unusedVariables false
namespace Go.Proofs.Ytmaginepopldnaa
open Go.Av
attribute [local irreducible] T thenQ blockQ againQ againS WX retV retR Gt Gts GtsP okCells CV CR Av.Pure
attribute [local irreducible] sha nextV

theorem implReadRecords_cv (d : List UInt8) (hd : d.length ≤ 2000) : CV Try.prog 47 [sl1 (bA d)] (· = .agg [.int .i64 0, .int .i64 (readAt d : Int), sl1 ((readRs d).map byA)]) := by
  refine CV_intro tyOk Try.func47 (by kernel_rfl) rfl 17 rfl (by simp) [.cell 2 75] rfl ?_
  intro w0 ok0
  have hl := bA_length d
  have d1 : decide ((2000 : Int) < ((bA d).length : Int)) = false := decide_eq_false (by omega)
  have c0 := readRecords_cv d (by omega)
  repeat' (first | refine T_seq ?_ | refine N_then ?_ | refine T_regX tyOk ?_ | refine S_nil ?_ | refine T_skip ?_ | refine T_ret ?_ | (apply E_X <;> repeat' (first | exact resL_nil | (apply resL_tmp; (· exact rfl)) | (apply resL_cell; (· exact rfl); (· exact rfl); (· exact rfl); (· exact rfl); (· exact rfl); (· exact rfl)) | (apply resL_arr; (· exact rfl); (· exact rfl); (· exact rfl); (· exact rfl); (· (first | assumption | exact rfl))) | exact viewL_nil | apply viewL_cons | apply view_nothingE | (apply view_slE; (· exact rfl); (· first | exact rfl | assumption | (simp [bA_length]; done) | (simp [bA_length]; omega) | omega); (· exact PureEC.out)) | (apply view_loose; (· exact PureEC.out)) | apply view_agg | apply view_tup | (apply View.ofEq; (· exact PureC.out)) | exact rfl)) | (apply T_ifF; (· exact rfl); (· (first | assumption | exact rfl))) | apply S_move | apply S_assign | apply S_gtr | (apply S_len_ls; (· exact rfl); (· exact gt_any rfl)) | apply S_extract | apply S_alloc | (apply S_store1; (· exact rfl); (· exact gt_any rfl); (· exact rfl); (· exact rfl); (· exact rfl); (· exact rfl)) | (apply S_build; (· exact rfl); (· exact rfl); (· exact rfl); (· (repeat' (first | exact gtsP_nil | exact gt_any rfl | apply gtsP_cons))); (· (repeat' (first | exact BuildR.nil _ | (apply BuildR.cons; (· exact rfl); (· exact rfl); (· exact rfl); (· exact rfl); (· (first | nofun | assumption)); (· (repeat' constructor))))))) | apply S_call (f := 102) | apply c0 | exact PureLC.out | exact gt_any rfl | exact gts_nil | (apply gts_cons; (· exact gt_any rfl)) | exact okCells_of rfl rfl | exact rfl | fail)

/-! frames laid behind one another are read -/
def frames (l : List (List UInt8)) : List UInt8 := (l.map frameL).flatten
end Go.Proofs.Ytmaginepopldnaa
