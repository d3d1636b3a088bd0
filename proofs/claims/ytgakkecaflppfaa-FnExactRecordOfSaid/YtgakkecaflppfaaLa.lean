/- The law of RecordOf. -/
import Derived.Test.YtgakkecaflppfaaWc
import Derived.Test.YtgakkecaflppfaaWt
set_option maxRecDepth 100000
set_option linter.unusedSimpArgs false
set_option linter.unusedVariables false
namespace Go.Proofs.Ytgakkecaflppfaa
open Go.Av
attribute [local irreducible] T thenQ blockQ againQ againS WX retV retR Gt Gts GtsP okCells CV CR Av.Pure

theorem recOut_le (k n t : Int) : (recOut k n t).length ≤ 15 := by
  unfold recOut recBytes
  split
  · split <;> simp [putN_length]
  · simp

theorem law_RecordOf (k n t : Int) : CV Try.prog 5 [.int .i64 k, .int .i64 n, .int .i64 t] (· = .bool true) := by
  refine CV_intro tyOk Try.func5 (by kernel_rfl) rfl 51 rfl (by simp) [.tmp 6] rfl ?_
  intro w0 ok0
  have hlen := recOut_le k n t
  have e0 : (!(decide (recCode k n t = recCode k n t) && decide (recOut k n t = recOut k n t))) = false := by simp
  have e1 : decide ((1 : Int) + ((recOut k n t).length : Int) < 0) = false := by simp; omega
  have e2 : (!decide ((1 : Int) + ((recOut k n t).length : Int) = 1 + ((recOut k n t).length : Int))) = false := by simp
  have c1 := fun id N hid => markBytesResult_at (recCode k n t) (recOut k n t) 1 (by omega) (by decide) (by decide) id N hid
  have hm : (recOut k n t).length = (bA (marksB 1 (recOut k n t).length)).length := by rw [bA_length, marksB_length]
  repeat' (first | refine T_seq ?_ | refine N_then ?_ | refine N_thenR ?_ | refine N_thenE ?_ | refine N_block ?_ | refine N_blockR ?_ | refine N_blockE ?_ | refine N_blockX rfl ?_ | refine N_againR ?_ | refine N_againE ?_ | refine N_againSR ?_ | refine N_againSE ?_ | refine T_regX tyOk ?_ | (apply T_drawAll tyOk mixed; (· kernel_rfl)) | refine S_nil ?_ | refine T_skip ?_ | refine T_ret ?_ | refine T_exit ?_ | refine T_block ?_ | (apply E_tmp; (· exact rfl); (· (repeat' (first | exact pure_int _ _ | exact pure_bool _ | exact pure_str _); done))) | (apply E_tmpN; (· exact rfl); (· (repeat' (first | exact pure_int _ _ | exact pure_bool _ | exact pure_str _); done))) | (apply T_ifT; (· exact rfl); (· (first | assumption | exact rfl))) | (apply T_ifF; (· exact rfl); (· (first | assumption | exact rfl))) | refine T_if rfl (fun _ => ?_) (fun _ => ?_) | apply S_move | apply S_assign | (apply S_loadP; (· exact rfl); (· exact gt_any rfl); (· exact rfl); (· exact rfl); (· exact rfl); (· (first | exact ⟨rfl, rfl⟩ | exact ⟨rfl, trivial⟩ | assumption))) | (apply S_loadW; (· exact rfl); (· exact gt_any rfl); (· exact rfl); (· exact rfl); (· exact rfl); (· exact rfl); (· exact rfl); (· exact rfl)) | (apply S_loadV; (· exact rfl); (· exact gt_any rfl); (· exact rfl); (· (first | exact ⟨rfl, rfl⟩ | exact ⟨rfl, trivial⟩ | assumption))) | (apply S_loadVA; (· exact rfl); (· exact gt_any rfl); (· exact rfl); (· exact rfl)) | apply S_lss | (apply S_neq; (· exact gt_any rfl); (· exact gt_any rfl)) | apply S_not | apply S_alloc | (apply S_store1; (· exact rfl); (· exact gt_any rfl); (· exact rfl); (· exact rfl); (· exact rfl); (· exact rfl)) | (apply S_storeF; (· exact rfl); (· exact gt_any rfl); (· exact rfl); (· exact rfl); (· exact rfl); (· exact rfl); (· exact gt_any rfl); (· exact rfl); (· exact rfl); (· (repeat' constructor))) | (apply S_boolNe; (· exact rfl); (· exact gt_any rfl); (· exact gt_any rfl)) | (apply S_strNe; (· exact gt_any rfl); (· exact gt_any rfl)) | (apply S_storeE; (· exact rfl); (· exact gt_any rfl); (· exact rfl); (· exact rfl); (· exact rfl)) | apply S_xor1 | (apply S_callL ([1]); (· repeat' (first | exact gts_nil | exact gt_any rfl | apply gts_cons)); (· exact rfl); (· (apply c1) <;> first | assumption | decide | omega)) | apply S_call (f := 23) | apply specRecordOf_cv | apply S_callI (f := 24) | apply implRecordOf_cr | apply S_callF (f := 25) | apply S_call (f := 25) | apply eqBytesResult_cv | apply S_callF (f := 27) | apply S_call (f := 27) | apply heldBytesResult_cv | exact viewL_nil | apply viewL_cons | (apply View.pure; exact PureC.out) | (apply view_slM; (· exact rfl); (· (apply mlen; first | exact rfl | assumption | exact Nat.le_of_ble_eq_true rfl | omega | (simp [bA_length]; done) | (simp [bA_length]; omega)))) | (apply view_slN; (· exact rfl); (· (apply mlen; first | exact rfl | assumption | exact Nat.le_of_ble_eq_true rfl | omega | (simp [bA_length]; done) | (simp [bA_length]; omega)))) | (apply view_ptr; (· exact rfl); (· exact rfl)) | apply view_agg | apply view_tup | exact PureEC.out | (apply mtake; first | assumption | exact take_full (by first | rfl | (simp; done)) | exact rfl) | exact FlatC.out | exact OwnC.out | exact ownB_nil | (apply ownB_boxM; (· (apply mlen; first | exact rfl | assumption | exact Nat.le_of_ble_eq_true rfl | omega | (simp [bA_length]; done) | (simp [bA_length]; omega))); (· exact OwnEC.out)) | exact PureLC.out | exact PureC.out | exact gt_any rfl | exact gts_nil | (apply gts_cons; (· exact gt_any rfl)) | exact okCells_of rfl rfl | assumption | (apply wrap_i64; (· omega); (· omega)) | (apply wrap_u8; (· omega); (· omega)) | exact Nat.le_of_ble_eq_true rfl | (refine ⟨?_, ?_⟩ <;> omega) | omega | exact rfl | fail)

end Go.Proofs.Ytgakkecaflppfaa
