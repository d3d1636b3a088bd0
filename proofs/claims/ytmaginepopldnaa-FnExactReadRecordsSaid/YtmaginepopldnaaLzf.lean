/- The law of ReadRecords. -/
import Derived.Test.YtmaginepopldnaaNb
import Derived.Test.YtmaginepopldnaaWt
import Derived.Test.YtmaginepopldnaaGj
import Derived.Test.YtmaginepopldnaaGk
set_option maxRecDepth 100000
set_option maxHeartbeats 3200000
set_option linter.unusedSimpArgs false
set_option linter.unusedVariables false
namespace Go.Proofs.Ytmaginepopldnaa
open Go.Av
attribute [local irreducible] T thenQ blockQ againQ againS WX retV retR Gt Gts GtsP okCells CV CR Av.Pure
attribute [local irreducible] sha readRs readAt

theorem rd_sum (d : List UInt8) : ∀ k, (rdSt d k).1.flatten.length + (rdSt d k).1.length ≤ (rdSt d k).2
  | 0 => by simp [rdSt]
  | k + 1 => by
    have ih := rd_sum d k
    rw [rdSt]
    split
    · rename_i h
      have := recIs_ok h.2
      have hp := recPay_length this.2.2.1
      simp only [List.flatten_append, List.flatten_cons, List.flatten_nil, List.append_nil, List.length_append, List.length_cons, List.length_nil]
      omega
    · exact ih
attribute [local semireducible] readRs readAt in
theorem readRs_sum (d : List UInt8) : (readRs d).flatten.length + (readRs d).length ≤ d.length := by
  have h1 := rd_sum d d.length
  have h2 := (rd_le d d.length).1
  have e : readRs d = (rdSt d d.length).1 := rfl
  rw [e]
  omega
theorem listW_rows (rows : List (List UInt8)) : listW List.length rows = rows.length + rows.flatten.length := by
  unfold listW sumW
  rw [List.length_flatten]

theorem law_ReadRecords (d : List UInt8) (hd : d.length ≤ 9223372036854775807) : CV Try.prog 9 [sl1 (bA d)] (· = .bool true) := by
  refine CV_intro tyOk Try.func9 (by kernel_rfl) rfl 66 rfl (by simp) [.tmp 2] rfl ?_
  intro w0 ok0
  have hl := bA_length d
  by_cases hbig : 1048576 < d.length
  · have hc : decide ((1048576 : Int) < ((bA d).length : Int)) = true := by simp only [decide_eq_true_eq]; omega
    repeat' (first | refine T_seq ?_ | refine N_then ?_ | refine N_thenR ?_ | refine T_regX tyOk ?_ | refine S_nil ?_ | refine T_ret ?_ | (apply E_tmp; (· exact rfl); (· (repeat' (first | exact pure_int _ _ | exact pure_bool _ | exact pure_str _); done))) | (apply T_ifT; (· exact rfl); (· (first | assumption | exact rfl))) | apply S_move | apply S_assign | apply S_gtr | (apply S_len_ls; (· exact rfl); (· exact gt_any rfl)) | exact gt_any rfl | exact rfl | fail)
  have hc : decide ((1048576 : Int) < ((bA d).length : Int)) = false := by simp only [decide_eq_false_iff_not]; omega
  have a1 := fun N => toByteS_cr d (by omega) N
  have e3 : decide ((1 : Int) + (d.length : Int) < 0) = false := by simp; omega
  have e7 : (!decide (d = d)) = false := by simp
  have e0 : (!true) = false := rfl
  have hm3 : d.length = (bA d).length := by rw [bA_length]
  have c2 := eqByteS_cv d d (by omega)
  have c3 := fun (id N : Nat) (hid : id < N) => markByteS_at d 1 false (by omega) (by decide) (by decide) id N hid
  by_cases h2 : 2000 < d.length
  · have a2 : CV Try.prog 46 [sl1 (bA d)] (· = .agg [.int .i64 2, .int .i64 0, .ls 1 true false []]) := specReadRecords_big d h2
    have a3 : CV Try.prog 47 [sl1 (bA d)] (· = .agg [.int .i64 2, .int .i64 0, .ls 1 true false []]) := implReadRecords_big d h2
    have c1 : CV Try.prog 48 [.agg [.int .i64 2, .int .i64 0, .ls 1 true false []], .agg [.int .i64 2, .int .i64 0, .ls 1 true false []]] (· = .bool true) := eqRecords_cv 2 0 [] (by decide)
    have c4 : CV Try.prog 49 [.agg [.int .i64 2, .int .i64 0, .ls 1 true false []], .int .i64 1] (· = .int .i64 1) := markRows_nil 2 0 1 (by decide) (by decide)
    have c5 : CV Try.prog 50 [.agg [.int .i64 2, .int .i64 0, .ls 1 true false []], .int .i64 1] (· = .int .i64 1) := heldRecords_cv 2 0 [] 1 (by decide) (by decide) (by decide) (by decide)
    have e4 : decide ((1 : Int) < 0) = false := by decide
    have e5 : (!decide ((1 : Int) = 1)) = false := by decide
    repeat' (first | refine T_seq ?_ | refine N_then ?_ | refine T_regX tyOk ?_ | refine S_nil ?_ | refine T_skip ?_ | refine T_ret ?_ | (apply E_tmp; (· exact rfl); (· (repeat' (first | exact pure_int _ _ | exact pure_bool _ | exact pure_str _); done))) | (apply T_ifF; (· exact rfl); (· (first | assumption | exact rfl))) | (apply S_gf; (· exact rfl); (· exact rfl); (· (first | assumption | exact rfl))) | apply S_move | apply S_assign | (apply S_pickF; (· exact gt_any rfl); (· (first | assumption | exact rfl))) | (apply S_loadW; (· exact rfl); (· exact gt_any rfl); (· exact rfl); (· exact rfl); (· exact rfl); (· exact rfl); (· exact rfl); (· exact rfl)) | apply S_lss | apply S_gtr | (apply S_neq; (· exact gt_any rfl); (· exact gt_any rfl)) | apply S_not | (apply S_len_ls; (· exact rfl); (· exact gt_any rfl)) | apply S_alloc | (apply S_store1; (· exact rfl); (· exact gt_any rfl); (· exact rfl); (· exact rfl); (· exact rfl); (· exact rfl)) | apply S_callI (f := 30) | apply a1 | apply S_callW (f := 46) | apply a2 | apply S_callQ (f := 47) | apply a3 | apply S_callQ (f := 48) | apply c1 | apply S_callQ (f := 33) | apply c2 | (apply S_callL ([2]) (f := 34); (· repeat' (first | exact gts_nil | exact gt_any rfl | apply gts_cons)); (· exact rfl); (· (apply c3) <;> first | assumption | decide | omega)) | apply S_callQ (f := 49) | apply c4 | apply S_callQ (f := 50) | apply c5 | exact viewL_nil | apply viewL_cons | (apply View.pure; exact PureC.out) | (apply view_slM; (· exact rfl); (· (apply mlen; first | exact rfl | assumption | exact Nat.le_of_ble_eq_true rfl | omega | (simp [bA_length]; done) | (simp [bA_length]; omega))); (· exact PureEC.out)) | exact FlatC.out | exact OwnC.out | exact ownB_nil | (apply ownB_boxM; (· (apply mlen; first | exact rfl | assumption | exact Nat.le_of_ble_eq_true rfl | omega | (simp [bA_length]; done) | (simp [bA_length]; omega))); (· exact OwnEC.out)) | exact gt_any rfl | exact gts_nil | (apply gts_cons; (· exact gt_any rfl)) | exact okCells_of rfl rfl | exact rfl | fail)
  have a2 := specReadRecords_cv d (by omega)
  have a3 := fun N => implReadRecords_cr d (by omega) N
  have a4 := implReadRecords_cv d (by omega)
  have hs := readRs_sum d
  generalize readRs d = R at *
  generalize readAt d = u at *
  have c1 := eqRecords_cv 0 u R (by rw [listW_rows]; omega)
  have hmR : R.length = (marksR 1 R).length := by rw [marksR_length]
  have c4 := fun (i j N : Nat) (hi : i < N) (hj : j < N) (hij : i ≠ j) => markRecords_at 0 u R 1 true true (by omega) (by omega) (by decide) (by decide) i j N hi hj hij
  have c5 := heldRecords_cv 0 u R 1 (by omega) (by omega) (by decide) (by decide)
  have e4 : decide ((1 : Int) + (R.flatten.length : Int) < 0) = false := by simp; omega
  have e5 : (!decide ((1 : Int) + (R.flatten.length : Int) = 1 + (R.flatten.length : Int))) = false := by simp
  repeat' (first | refine T_seq ?_ | refine N_then ?_ | refine T_regX tyOk ?_ | refine S_nil ?_ | refine T_skip ?_ | refine T_ret ?_ | (apply E_tmp; (· exact rfl); (· (repeat' (first | exact pure_int _ _ | exact pure_bool _ | exact pure_str _); done))) | (apply T_ifF; (· exact rfl); (· (first | assumption | exact rfl))) | (apply S_gf; (· exact rfl); (· exact rfl); (· (first | assumption | exact rfl))) | apply S_move | apply S_assign | (apply S_pickF; (· exact gt_any rfl); (· (first | assumption | exact rfl))) | (apply S_loadW; (· exact rfl); (· exact gt_any rfl); (· exact rfl); (· exact rfl); (· exact rfl); (· exact rfl); (· exact rfl); (· exact rfl)) | apply S_lss | apply S_gtr | (apply S_neq; (· exact gt_any rfl); (· exact gt_any rfl)) | apply S_not | (apply S_len_ls; (· exact rfl); (· exact gt_any rfl)) | apply S_alloc | (apply S_store1; (· exact rfl); (· exact gt_any rfl); (· exact rfl); (· exact rfl); (· exact rfl); (· exact rfl)) | apply S_callI (f := 30) | apply a1 | apply S_callW (f := 46) | apply a2 | apply S_callI (f := 47) | apply a3 | apply S_callQ (f := 48) | apply c1 | apply S_callQ (f := 33) | apply c2 | (apply S_callL ([2]) (f := 34); (· repeat' (first | exact gts_nil | exact gt_any rfl | apply gts_cons)); (· exact rfl); (· (apply c3) <;> first | assumption | decide | omega)) | (apply S_callL ([3, 4]) (f := 49); (· repeat' (first | exact gts_nil | exact gt_any rfl | apply gts_cons)); (· exact rfl); (· (apply c4) <;> first | assumption | decide | omega)) | apply S_callQ (f := 50) | apply c5 | exact viewL_nil | apply viewL_cons | (apply View.pure; exact PureC.out) | (apply view_slM; (· exact rfl); (· (apply mlen; first | exact rfl | assumption | exact Nat.le_of_ble_eq_true rfl | omega | (simp [bA_length]; done) | (simp [bA_length]; omega))); (· exact PureEC.out)) | apply view_agg | exact FlatC.out | exact OwnC.out | exact ownB_nil | (apply ownB_boxM; (· (apply mlen; first | exact rfl | assumption | exact Nat.le_of_ble_eq_true rfl | omega | (simp [bA_length]; done) | (simp [bA_length]; omega))); (· exact OwnEC.out)) | exact gt_any rfl | exact gts_nil | (apply gts_cons; (· exact gt_any rfl)) | exact okCells_of rfl rfl | (apply view_rowsR; (· exact rfl); (· exact rfl); (· (apply mlen; first | exact rfl | assumption | exact Nat.le_of_ble_eq_true rfl | omega | (simp [bA_length]; done) | (simp [bA_length]; omega)))) | exact rfl | fail)

end Go.Proofs.Ytmaginepopldnaa
