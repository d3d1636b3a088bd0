/- The law of RootAt. -/
import Derived.Test.YthfikpgbddpmoaaNe
import Derived.Test.YthfikpgbddpmoaaWt
import Derived.Test.YthfikpgbddpmoaaGj
import Derived.Test.YthfikpgbddpmoaaGk
set_option maxRecDepth 100000
set_option maxHeartbeats 3200000
set_option linter.unusedSimpArgs false
set_option linter.unusedVariables false
namespace Go.Proofs.Ythfikpgbddpmoaa
open Go.Av
attribute [local irreducible] T thenQ blockQ againQ againS WX retV retR Gt Gts GtsP okCells CV CR Av.Pure
attribute [local irreducible] truFault rtCode rtOut

theorem law_RootAt (t : Tru) (n : Int) (hx : TruR t) : CV Try.prog 11 [truA t, .int .i64 n] (· = .bool true) := by
  refine CV_intro tyOk Try.func11 (by kernel_rfl) rfl 74 rfl (by simp) [.tmp 4] rfl ?_
  intro w0 ok0
  have c0 := szTrust_cv t 1048576 hx (by decide) (by decide)
  by_cases g3 : (1048576 : Int) - (TruW t : Nat) < 0
  · rw [szAfter_neg g3] at c0
    have d3 : decide ((-1 : Int) < 0) = true := rfl
    repeat' (first | refine T_seq ?_ | refine N_then ?_ | refine N_thenR ?_ | refine T_regX tyOk ?_ | refine S_nil ?_ | refine T_ret ?_ | (apply E_tmp; (· exact rfl); (· (repeat' (first | exact pure_int _ _ | exact pure_bool _ | exact pure_str _); done))) | (apply T_ifT; (· exact rfl); (· (first | assumption | exact rfl))) | apply S_move | apply S_assign | (apply S_loadW; (· exact rfl); (· exact gt_any rfl); (· exact rfl); (· exact rfl); (· exact rfl); (· exact rfl); (· exact rfl); (· exact rfl)) | apply S_lss | apply S_box | apply S_callQ (f := 60) | apply c0 | exact viewL_nil | apply viewL_cons | (apply View.pure; exact PureC.out) | exact FlatC.out | exact gt_any rfl | exact gts_nil | (apply gts_cons; (· exact gt_any rfl)) | exact okCells_of rfl rfl | assumption | exact rfl | fail)
  rw [szAfter_pos g3] at c0
  have d3 : decide ((1048576 : Int) - ((TruW t : Nat) : Int) < 0) = false := decide_eq_false g3
  have hW : TruW t ≤ 1048576 := by omega
  have a1 := fun N => toTrust_cr t hW N
  have a2 := specRootAt_cv t n hW
  have a3 := fun N => implRootAt_cr t n hW N
  have a4 := implRootAt_cv t n hW
  have hr := rtOut_le t n
  have c3 := fun (i0 i1 i2 i3 i4 i5 i6 N : Nat) (hn : [i0, i1, i2, i3, i4, i5, i6].Nodup) (hl : ∀ y ∈ [i0, i1, i2, i3, i4, i5, i6], y < N) => markTrust_at t hW i0 i1 i2 i3 i4 i5 i6 N hn hl
  generalize rtCode t n = k at *
  generalize rtOut t n = r at *
  have e4 : decide ((1 : Int) + (r.length : Int) < 0) = false := by simp; omega
  have e5 : (!decide ((1 : Int) + (r.length : Int) = 1 + (r.length : Int))) = false := by simp
  have e6 : (!(decide (k = k) && decide (r = r))) = false := by simp
  have e7 : (!true) = false := rfl
  have hm : r.length = (bA r).length := by rw [bA_length]
  have hm2 : r.length = (bA (marksB 1 r.length)).length := by rw [bA_length, marksB_length]
  have c1 := eqBytesResult_cv k k r r (by omega)
  have c2 := eqTrust_cv t hW
  have c4 := fun (id N : Nat) (hid : id < N) => markBytesResult_at k r 1 (by omega) (by decide) (by decide) id N hid
  have c5 := heldBytesResult_cv k r.length 1 (by omega) (by decide) (by decide)
  repeat' (first | refine T_seq ?_ | refine N_then ?_ | refine T_regX tyOk ?_ | (apply T_drawM (id := 10) 3 tyOk mixed; (· exact rfl); (· exact rfl); (· kernel_rfl); (· exact Nat.le_of_ble_eq_true rfl)) | refine S_nil ?_ | refine T_skip ?_ | refine T_ret ?_ | (apply E_tmp; (· exact rfl); (· (repeat' (first | exact pure_int _ _ | exact pure_bool _ | exact pure_str _); done))) | (apply T_ifF; (· exact rfl); (· (first | assumption | exact rfl))) | (apply S_gf; (· exact rfl); (· exact rfl); (· (first | assumption | exact rfl))) | apply S_move | apply S_assign | (apply S_pickF; (· exact gt_any rfl); (· (first | assumption | exact rfl))) | (apply S_loadW; (· exact rfl); (· exact gt_any rfl); (· exact rfl); (· exact rfl); (· exact rfl); (· exact rfl); (· exact rfl); (· exact rfl)) | apply S_lss | (apply S_neq; (· exact gt_any rfl); (· exact gt_any rfl)) | apply S_not | apply S_alloc | apply S_box | (apply S_store1; (· exact rfl); (· exact gt_any rfl); (· exact rfl); (· exact rfl); (· exact rfl); (· exact rfl)) | apply S_callQ (f := 60) | apply c0 | apply S_callI (f := 62) | apply a1 | apply S_callW (f := 65) | apply a2 | apply S_callI (f := 66) | apply a3 | apply S_callQ (f := 67) | apply c1 | apply S_callQ (f := 64) | apply c2 | (apply S_callX ([9, 10, 11, 12, 13, 14, 15]) (f := 68); (· repeat' (first | exact gts_nil | exact gt_any rfl | apply gts_cons)); (· exact rfl); (· (apply c3) <;> first | assumption | decide | omega); (· exact rfl); (intro k9 hk1 hk2 hk3)) | (apply S_callL ([17]) (f := 69); (· repeat' (first | exact gts_nil | exact gt_any rfl | apply gts_cons)); (· exact rfl); (· (apply c4) <;> first | assumption | decide | omega)) | apply S_callQ (f := 70) | apply c5 | apply S_call (f := 62) | apply toTrust_cv | exact viewL_nil | apply viewL_cons | (apply View.pure; exact PureC.out) | (apply view_slM; (· exact rfl); (· (apply mlen; first | exact rfl | assumption | exact Nat.le_of_ble_eq_true rfl | omega | (simp [bA_length]; done) | (simp [bA_length]; omega))); (· exact PureEC.out)) | apply view_agg | exact FlatC.out | exact OwnC.out | exact ownB_nil | (apply ownB_boxM; (· (apply mlen; first | exact rfl | assumption | exact Nat.le_of_ble_eq_true rfl | omega | (simp [bA_length]; done) | (simp [bA_length]; omega))); (· exact OwnEC.out)) | exact PureLC.out | exact gt_any rfl | exact gts_nil | (apply gts_cons; (· exact gt_any rfl)) | exact okCells_of rfl rfl | assumption | (apply view_rowsR; (· exact rfl); (· exact rfl); (· (apply mlen; first | exact rfl | assumption | exact Nat.le_of_ble_eq_true rfl | omega | (simp [bA_length]; done) | (simp [bA_length]; omega)))) | (apply vw_vlds; (· exact rfl); (· exact rfl); (· (apply mlen; first | exact rfl | assumption | exact Nat.le_of_ble_eq_true rfl | omega | (simp [bA_length]; done) | (simp [bA_length]; omega)))) | exact rfl | fail)

end Go.Proofs.Ythfikpgbddpmoaa
