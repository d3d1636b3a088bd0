/- Logs and their records, by value. -/
import Derived.Test.YthfikpgbddpmoaaYc
import Derived.Test.YthfikpgbddpmoaaXl
import Derived.Test.YthfikpgbddpmoaaXi
set_option maxRecDepth 100000
set_option maxHeartbeats 3200000
set_option linter.unusedSimpArgs false
set_option linter.unusedVariables false
namespace Go.Proofs.Ythfikpgbddpmoaa
open Go.Av
attribute [local irreducible] T thenQ blockQ againQ againS WX retV retR Gt Gts GtsP okCells CV CR Av.Pure
attribute [local irreducible] sha nextV

theorem implReadRecords_cv (d : List UInt8) (hd : d.length ≤ 2000) : CV Try.prog 24 [sl1 (bA d)] (· = .agg [.int .i64 0, .int .i64 (readAt d : Int), sl1 ((readRs d).map byA)]) := by
  refine CV_intro tyOk Try.func24 (by kernel_rfl) rfl 17 rfl (by simp) [.cell 2 37] rfl ?_
  intro w0 ok0
  have hl := bA_length d
  have d1 : decide ((2000 : Int) < ((bA d).length : Int)) = false := decide_eq_false (by omega)
  have c0 := readRecords_cv d (by omega)
  repeat' (first | refine T_seq ?_ | refine N_then ?_ | refine T_regX tyOk ?_ | refine S_nil ?_ | refine T_skip ?_ | refine T_ret ?_ | (apply E_X <;> repeat' (first | exact resL_nil | (apply resL_tmp; (· exact rfl)) | (apply resL_cell; (· exact rfl); (· exact rfl); (· exact rfl); (· exact rfl); (· exact rfl); (· exact rfl)) | (apply resL_arr; (· exact rfl); (· exact rfl); (· exact rfl); (· exact rfl); (· (first | assumption | exact rfl))) | exact viewL_nil | apply viewL_cons | apply view_nothingE | (apply view_slE; (· exact rfl); (· first | exact rfl | assumption | (simp [bA_length]; done) | (simp [bA_length]; omega) | omega); (· exact PureEC.out)) | (apply view_loose; (· exact PureEC.out)) | apply view_agg | apply view_tup | (apply View.ofEq; (· exact PureC.out)) | exact rfl)) | (apply T_ifF; (· exact rfl); (· (first | assumption | exact rfl))) | apply S_move | apply S_assign | apply S_gtr | (apply S_len_ls; (· exact rfl); (· exact gt_any rfl)) | apply S_extract | apply S_alloc | (apply S_store1; (· exact rfl); (· exact gt_any rfl); (· exact rfl); (· exact rfl); (· exact rfl); (· exact rfl)) | (apply S_build; (· exact rfl); (· exact rfl); (· exact rfl); (· (repeat' (first | exact gtsP_nil | exact gt_any rfl | apply gtsP_cons))); (· (repeat' (first | exact BuildR.nil _ | (apply BuildR.cons; (· exact rfl); (· exact rfl); (· exact rfl); (· exact rfl); (· (first | nofun | assumption)); (· (repeat' constructor))))))) | apply S_call (f := 90) | apply c0 | exact PureLC.out | exact gt_any rfl | exact gts_nil | (apply gts_cons; (· exact gt_any rfl)) | exact okCells_of rfl rfl | exact rfl | fail)

theorem concat_cv (ws : List (List UInt8)) (h : ws.flatten.length ≤ 1073741824) (h2 : ws.length ≤ 1073741824) : CV Try.prog 81 [sl1 (ws.map byA)] (· = sl1 (bA ws.flatten)) := CR.byVal (concat_cr ws h h2 0) (bA_length _).symm (pureB_bA _)

theorem implRecordsOf_cv (a b : List UInt8) (h : a.length + b.length ≤ 2000) : CV Try.prog 19 [logA a b] (· = .agg [.int .i64 0, .int .i64 (readAt (a ++ b) : Int), sl1 ((readRs (a ++ b)).map byA)]) := by
  refine CV_intro tyOk Try.func19 (by kernel_rfl) rfl 17 rfl (by simp) [.cell 2 37] rfl ?_
  intro w0 ok0
  have hf : logFault a b = 0 := if_neg (by omega)
  have c0 := implLogFault_cv a b (by omega) (by omega)
  rw [hf] at c0
  have hc : (!decide ((0 : Int) = 0)) = false := by decide
  have e : [a, b].flatten = a ++ b := by simp
  have c1 := concat_cv [a, b] (by rw [e, List.length_append]; omega) (by simp)
  rw [e] at c1
  have c1' : CV Try.prog 81 [.ls 1 false true [byA a, byA b]] (· = sl1 (bA (a ++ b))) :=
    c1.args rfl fun i x y hx hy => by
      match i, hx, hy with
      | 0, hx, hy => obtain rfl := Option.some.inj hx; obtain rfl := Option.some.inj hy; exact loose_ls _ _ _ _
  have c2 := implReadRecords_cv (a ++ b) (by rw [List.length_append]; omega)
  repeat' (first | refine T_seq ?_ | refine N_then ?_ | refine T_regX tyOk ?_ | refine S_nil ?_ | refine T_skip ?_ | refine T_ret ?_ | (apply E_X <;> repeat' (first | exact resL_nil | (apply resL_tmp; (· exact rfl)) | (apply resL_cell; (· exact rfl); (· exact rfl); (· exact rfl); (· exact rfl); (· exact rfl); (· exact rfl)) | (apply resL_arr; (· exact rfl); (· exact rfl); (· exact rfl); (· exact rfl); (· (first | assumption | exact rfl))) | exact viewL_nil | apply viewL_cons | apply view_nothingE | (apply view_slE; (· exact rfl); (· first | exact rfl | assumption | (simp [bA_length]; done) | (simp [bA_length]; omega) | omega); (· exact PureEC.out)) | (apply view_loose; (· exact PureEC.out)) | apply view_agg | apply view_tup | (apply View.ofEq; (· exact PureC.out)) | exact rfl)) | (apply T_ifF; (· exact rfl); (· (first | assumption | exact rfl))) | apply S_move | apply S_assign | (apply S_loadP; (· exact rfl); (· exact gt_any rfl); (· exact rfl); (· exact rfl); (· exact rfl); (· (first | exact ⟨rfl, rfl⟩ | exact ⟨rfl, trivial⟩ | assumption))) | (apply S_loadW; (· exact rfl); (· exact gt_any rfl); (· exact rfl); (· exact rfl); (· exact rfl); (· exact rfl); (· exact rfl); (· exact rfl)) | (apply S_fieldP; (· exact rfl); (· exact rfl); (· exact rfl); (· exact rfl); (· exact gt_any rfl)) | (apply S_neq; (· exact gt_any rfl); (· exact gt_any rfl)) | apply S_alloc | apply S_box | (apply S_store1; (· exact rfl); (· exact gt_any rfl); (· exact rfl); (· exact rfl); (· exact rfl); (· exact rfl)) | (apply S_buildV tyOk; (· exact rfl); (· exact rfl)) | apply S_call (f := 78) | apply c0 | apply S_call (f := 81) | apply c1' | apply S_call (f := 24) | apply c2 | exact PureLC.out | exact gtsI_nil | (apply gtsI_cons; (· exact gt_any rfl)) | exact elts_nil | apply elts_cons | (intro hu; cases hu; done) | exact gt_any rfl | exact gts_nil | (apply gts_cons; (· exact gt_any rfl)) | exact okCells_of rfl rfl | exact Nat.le_of_ble_eq_true rfl | exact rfl | fail)

/-! frames laid behind one another are read -/
def frames (l : List (List UInt8)) : List UInt8 := (l.map frameL).flatten
end Go.Proofs.Ythfikpgbddpmoaa
