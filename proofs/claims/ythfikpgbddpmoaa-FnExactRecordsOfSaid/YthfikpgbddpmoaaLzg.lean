/- The law of RecordsOf. -/
import Derived.Test.YthfikpgbddpmoaaNc
import Derived.Test.YthfikpgbddpmoaaLzf
import Derived.Test.YthfikpgbddpmoaaLn
import Derived.Test.YthfikpgbddpmoaaWt
import Derived.Test.YthfikpgbddpmoaaGj
import Derived.Test.YthfikpgbddpmoaaGk
set_option maxRecDepth 100000
set_option maxHeartbeats 3200000
set_option linter.unusedSimpArgs false
set_option linter.unusedVariables false
namespace Go.Proofs.Ythfikpgbddpmoaa
open Go.Av
attribute [local irreducible] T thenQ blockQ againQ againS WX retV retR Gt Gts GtsP okCells CV CR Av.Pure
attribute [local irreducible] sha readRs readAt

theorem law_RecordsOf (a b : List UInt8) (ha : a.length ≤ 9223372036854775807) (hb : b.length ≤ 9223372036854775807) : CV Try.prog 6 [logA a b] (· = .bool true) := by
  refine CV_intro tyOk Try.func6 (by kernel_rfl) rfl 69 rfl (by simp) [.tmp 2] rfl ?_
  intro w0 ok0
  have c0 := szLog_cv a b 1048576 ha hb (by decide) (by decide)
  generalize hs : (if (1048576 : Int) - a.length < 0 ∨ (1048576 : Int) - a.length - b.length < 0 then (-1 : Int) else 1048576 - a.length - b.length) = s at c0
  by_cases hc : s < 0
  · have hd : decide (s < 0) = true := by simpa using hc
    repeat' (first | refine T_seq ?_ | refine N_then ?_ | refine N_thenR ?_ | refine T_regX tyOk ?_ | refine S_nil ?_ | refine T_ret ?_ | (apply E_tmp; (· exact rfl); (· (repeat' (first | exact pure_int _ _ | exact pure_bool _ | exact pure_str _); done))) | (apply T_ifT; (· exact rfl); (· (first | assumption | exact rfl))) | apply S_move | apply S_assign | (apply S_loadW; (· exact rfl); (· exact gt_any rfl); (· exact rfl); (· exact rfl); (· exact rfl); (· exact rfl); (· exact rfl); (· exact rfl)) | apply S_lss | apply S_box | apply S_callQ (f := 26) | apply c0 | exact viewL_nil | apply viewL_cons | (apply View.pure; exact PureC.out) | exact FlatC.out | exact gt_any rfl | exact gts_nil | (apply gts_cons; (· exact gt_any rfl)) | exact okCells_of rfl rfl | exact rfl | fail)
  have hd : decide (s < 0) = false := by simpa using hc
  have hab : a.length + b.length ≤ 1048576 := by split at hs <;> omega
  have ha' : a.length ≤ 1048576 := by omega
  have hb' : b.length ≤ 1048576 := by omega
  have a1 := fun N => toLog_cr a b ha' hb' N
  have e3 : decide ((1 : Int) + (a.length : Int) + (b.length : Int) < 0) = false := by simp; omega
  have e0 : (!true) = false := rfl
  have hm3 : a.length = (bA a).length := by rw [bA_length]
  have hm4 : b.length = (bA b).length := by rw [bA_length]
  have c2 := eqLog_cv a b a b rfl rfl (by omega) (by omega)
  have c3 := fun (i j N : Nat) (hi : i < N) (hj : j < N) (hij : i ≠ j) => markLog_at a b 1 false (by omega) (by omega) (by decide) (by decide) i j N hi hj hij
  by_cases h2 : 2000 < a.length + b.length
  · have a2 : CV Try.prog 34 [logA a b] (· = .agg [.int .i64 2, .int .i64 0, .ls 1 true false []]) := specRecordsOf_bad a b ha' hb' h2
    have a3 : CV Try.prog 19 [logA a b] (· = .agg [.int .i64 2, .int .i64 0, .ls 1 true false []]) := implRecordsOf_bad a b ha' hb' h2
    have c1 : CV Try.prog 35 [.agg [.int .i64 2, .int .i64 0, .ls 1 true false []], .agg [.int .i64 2, .int .i64 0, .ls 1 true false []]] (· = .bool true) := eqRecords_cv 2 0 [] (by decide)
    have c4 : CV Try.prog 36 [.agg [.int .i64 2, .int .i64 0, .ls 1 true false []], .int .i64 1] (· = .int .i64 1) := markRows_nil 2 0 1 (by decide) (by decide)
    have c5 : CV Try.prog 37 [.agg [.int .i64 2, .int .i64 0, .ls 1 true false []], .int .i64 1] (· = .int .i64 1) := heldRecords_cv 2 0 [] 1 (by decide) (by decide) (by decide) (by decide)
    have e4 : decide ((1 : Int) < 0) = false := by decide
    have e5 : (!decide ((1 : Int) = 1)) = false := by decide
    repeat' (first | refine T_seq ?_ | refine N_then ?_ | refine T_regX tyOk ?_ | (apply T_drawM (id := 10) 3 tyOk mixed; (· exact rfl); (· exact rfl); (· kernel_rfl); (· exact Nat.le_of_ble_eq_true rfl)) | refine S_nil ?_ | refine T_skip ?_ | refine T_ret ?_ | (apply E_tmp; (· exact rfl); (· (repeat' (first | exact pure_int _ _ | exact pure_bool _ | exact pure_str _); done))) | (apply T_ifF; (· exact rfl); (· (first | assumption | exact rfl))) | (apply S_gf; (· exact rfl); (· exact rfl); (· (first | assumption | exact rfl))) | apply S_move | apply S_assign | (apply S_pickF; (· exact gt_any rfl); (· (first | assumption | exact rfl))) | (apply S_loadW; (· exact rfl); (· exact gt_any rfl); (· exact rfl); (· exact rfl); (· exact rfl); (· exact rfl); (· exact rfl); (· exact rfl)) | apply S_lss | (apply S_neq; (· exact gt_any rfl); (· exact gt_any rfl)) | apply S_not | apply S_alloc | apply S_box | (apply S_store1; (· exact rfl); (· exact gt_any rfl); (· exact rfl); (· exact rfl); (· exact rfl); (· exact rfl)) | apply S_callQ (f := 26) | apply c0 | apply S_callI (f := 28) | apply a1 | apply S_callW (f := 34) | apply a2 | apply S_callQ (f := 19) | apply a3 | apply S_callQ (f := 35) | apply c1 | apply S_callQ (f := 30) | apply c2 | (apply S_callL ([4, 5]) (f := 31); (· repeat' (first | exact gts_nil | exact gt_any rfl | apply gts_cons)); (· exact rfl); (· (apply c3) <;> first | assumption | decide | omega)) | apply S_callQ (f := 36) | apply c4 | apply S_callQ (f := 37) | apply c5 | apply S_call (f := 28) | apply toLog_cv | exact viewL_nil | apply viewL_cons | (apply View.pure; exact PureC.out) | (apply view_slM; (· exact rfl); (· (apply mlen; first | exact rfl | assumption | exact Nat.le_of_ble_eq_true rfl | omega | (simp [bA_length]; done) | (simp [bA_length]; omega))); (· exact PureEC.out)) | apply view_agg | exact FlatC.out | exact OwnC.out | exact ownB_nil | (apply ownB_boxM; (· (apply mlen; first | exact rfl | assumption | exact Nat.le_of_ble_eq_true rfl | omega | (simp [bA_length]; done) | (simp [bA_length]; omega))); (· exact OwnEC.out)) | exact PureLC.out | exact gt_any rfl | exact gts_nil | (apply gts_cons; (· exact gt_any rfl)) | exact okCells_of rfl rfl | assumption | exact rfl | fail)
  have a2 := specRecordsOf_cv a b (by omega)
  have a3 := fun N => implRecordsOf_cr a b (by omega) N
  have a4 := implRecordsOf_cv a b (by omega)
  have hs2 := readRs_sum (a ++ b)
  have hl : (a ++ b).length = a.length + b.length := List.length_append
  generalize readRs (a ++ b) = R at *
  generalize readAt (a ++ b) = u at *
  have c1 := eqRecords_cv 0 u R (by rw [listW_rows]; omega)
  have hmR : R.length = (marksR 1 R).length := by rw [marksR_length]
  have c4 := fun (i j N : Nat) (hi : i < N) (hj : j < N) (hij : i ≠ j) => markRecords_at 0 u R 1 true true (by omega) (by omega) (by decide) (by decide) i j N hi hj hij
  have c5 := heldRecords_cv 0 u R 1 (by omega) (by omega) (by decide) (by decide)
  have e4 : decide ((1 : Int) + (R.flatten.length : Int) < 0) = false := by simp; omega
  have e5 : (!decide ((1 : Int) + (R.flatten.length : Int) = 1 + (R.flatten.length : Int))) = false := by simp
  repeat' (first | refine T_seq ?_ | refine N_then ?_ | refine T_regX tyOk ?_ | (apply T_drawM (id := 10) 3 tyOk mixed; (· exact rfl); (· exact rfl); (· kernel_rfl); (· exact Nat.le_of_ble_eq_true rfl)) | refine S_nil ?_ | refine T_skip ?_ | refine T_ret ?_ | (apply E_tmp; (· exact rfl); (· (repeat' (first | exact pure_int _ _ | exact pure_bool _ | exact pure_str _); done))) | (apply T_ifF; (· exact rfl); (· (first | assumption | exact rfl))) | (apply S_gf; (· exact rfl); (· exact rfl); (· (first | assumption | exact rfl))) | apply S_move | apply S_assign | (apply S_pickF; (· exact gt_any rfl); (· (first | assumption | exact rfl))) | (apply S_loadW; (· exact rfl); (· exact gt_any rfl); (· exact rfl); (· exact rfl); (· exact rfl); (· exact rfl); (· exact rfl); (· exact rfl)) | apply S_lss | (apply S_neq; (· exact gt_any rfl); (· exact gt_any rfl)) | apply S_not | apply S_alloc | apply S_box | (apply S_store1; (· exact rfl); (· exact gt_any rfl); (· exact rfl); (· exact rfl); (· exact rfl); (· exact rfl)) | apply S_callQ (f := 26) | apply c0 | apply S_callI (f := 28) | apply a1 | apply S_callW (f := 34) | apply a2 | apply S_callI (f := 19) | apply a3 | apply S_callQ (f := 35) | apply c1 | apply S_callQ (f := 30) | apply c2 | (apply S_callL ([4, 5]) (f := 31); (· repeat' (first | exact gts_nil | exact gt_any rfl | apply gts_cons)); (· exact rfl); (· (apply c3) <;> first | assumption | decide | omega)) | (apply S_callL ([7, 8]) (f := 36); (· repeat' (first | exact gts_nil | exact gt_any rfl | apply gts_cons)); (· exact rfl); (· (apply c4) <;> first | assumption | decide | omega)) | apply S_callQ (f := 37) | apply c5 | apply S_call (f := 28) | apply toLog_cv | exact viewL_nil | apply viewL_cons | (apply View.pure; exact PureC.out) | (apply view_slM; (· exact rfl); (· (apply mlen; first | exact rfl | assumption | exact Nat.le_of_ble_eq_true rfl | omega | (simp [bA_length]; done) | (simp [bA_length]; omega))); (· exact PureEC.out)) | apply view_agg | exact FlatC.out | exact OwnC.out | exact ownB_nil | (apply ownB_boxM; (· (apply mlen; first | exact rfl | assumption | exact Nat.le_of_ble_eq_true rfl | omega | (simp [bA_length]; done) | (simp [bA_length]; omega))); (· exact OwnEC.out)) | exact PureLC.out | exact gt_any rfl | exact gts_nil | (apply gts_cons; (· exact gt_any rfl)) | exact okCells_of rfl rfl | assumption | (apply view_rowsR; (· exact rfl); (· exact rfl); (· (apply mlen; first | exact rfl | assumption | exact Nat.le_of_ble_eq_true rfl | omega | (simp [bA_length]; done) | (simp [bA_length]; omega)))) | exact rfl | fail)

end Go.Proofs.Ythfikpgbddpmoaa
