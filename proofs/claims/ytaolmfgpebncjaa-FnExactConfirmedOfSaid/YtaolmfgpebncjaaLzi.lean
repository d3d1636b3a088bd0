/- The law of ConfirmedOf. -/
import Derived.Test.YtaolmfgpebncjaaNh
import Derived.Test.YtaolmfgpebncjaaRa
import Derived.Test.YtaolmfgpebncjaaGj
import Derived.Test.YtaolmfgpebncjaaGk
set_option maxRecDepth 100000
set_option maxHeartbeats 3200000
set_option linter.unusedSimpArgs false
set_option linter.unusedVariables false
namespace Go.Proofs.Ytaolmfgpebncjaa
open Go.Av
attribute [local irreducible] T thenQ blockQ againQ againS WX retV retR Gt Gts GtsP okCells CV CR Av.Pure
attribute [local irreducible] cliFault confL mainL cfL

theorem law_ConfirmedOf (c : Cli) (hx : CliR c) : CV Try.prog 9 [cliA c] (· = .bool true) := by
  refine CV_intro tyOk Try.func9 (by kernel_rfl) rfl 69 rfl (by simp) [.tmp 2] rfl ?_
  intro w0 ok0
  have c0 := szClient_cv c 1048576 hx (by decide) (by decide)
  by_cases g3 : (1048576 : Int) - (CliW c : Nat) < 0
  · rw [szAfter_neg g3] at c0
    have d3 : decide ((-1 : Int) < 0) = true := rfl
    repeat' (first | refine T_seq ?_ | refine N_then ?_ | refine N_thenR ?_ | refine T_regX tyOk ?_ | refine S_nil ?_ | refine T_ret ?_ | (apply E_tmp; (· exact rfl); (· (repeat' (first | exact pure_int _ _ | exact pure_bool _ | exact pure_str _); done))) | (apply T_ifT; (· exact rfl); (· (first | assumption | exact rfl))) | apply S_move | apply S_assign | (apply S_loadW; (· exact rfl); (· exact gt_any rfl); (· exact rfl); (· exact rfl); (· exact rfl); (· exact rfl); (· exact rfl); (· exact rfl)) | apply S_lss | apply S_box | apply S_callQ (f := 10) | apply c0 | exact viewL_nil | apply viewL_cons | (apply View.pure; exact PureC.out) | exact FlatC.out | exact gt_any rfl | exact gts_nil | (apply gts_cons; (· exact gt_any rfl)) | exact okCells_of rfl rfl | assumption | exact rfl | fail)
  rw [szAfter_pos g3] at c0
  have d3 : decide ((1048576 : Int) - ((CliW c : Nat) : Int) < 0) = false := decide_eq_false g3
  have hW : CliW c ≤ 1048576 := by omega
  have hl : c.heads.length ≤ 1048576 := by have := hW; unfold CliW listW at this; omega
  have a1 := fun N => toCli_cr c hW N
  have a2 := specConfirmedOf_cv c hl
  have a3 := fun N => implConfirmedOf_cr c hl N
  have a4 := implConfirmedOf_cv c hl
  have hr := @cfL_le c
  have c3 := fun (i j N : Nat) (hi : i < N) (hj : j < N) (hij : i ≠ j) => markCli_at c 1 hW (by decide) (by decide) i j N hi hj hij
  generalize cliFault c = k at *
  generalize cfL c = r at *
  have e4 : decide ((1 : Int) + (r.length : Int) < 0) = false := by simp; omega
  have e5 : (!decide ((1 : Int) + (r.length : Int) = 1 + (r.length : Int))) = false := by simp
  have e7 : (!true) = false := rfl
  have hm : r.length = (r.map natA).length := by simp
  have hm2 : r.length = ((marksI 1 r.length).map numA).length := by rw [List.length_map, marksI_length]
  have c1 := eqPath_cv k r (by omega)
  have c2 := eqClient_cv c hW
  have c4 := fun (id N : Nat) (hid : id < N) => markPath_at k r 1 true (by omega) (by decide) (by decide) id N hid
  have c5 := heldPath_cv k r.length 1 (by omega) (by decide) (by decide)
  repeat' (first | refine T_seq ?_ | refine N_then ?_ | refine T_regX tyOk ?_ | (apply T_drawM (id := 10) 3 tyOk mixed; (· exact rfl); (· exact rfl); (· kernel_rfl); (· exact Nat.le_of_ble_eq_true rfl)) | refine S_nil ?_ | refine T_skip ?_ | refine T_ret ?_ | (apply E_tmp; (· exact rfl); (· (repeat' (first | exact pure_int _ _ | exact pure_bool _ | exact pure_str _); done))) | (apply T_ifF; (· exact rfl); (· (first | assumption | exact rfl))) | (apply S_gf; (· exact rfl); (· exact rfl); (· (first | assumption | exact rfl))) | apply S_move | apply S_assign | (apply S_pickF; (· exact gt_any rfl); (· (first | assumption | exact rfl))) | (apply S_loadW; (· exact rfl); (· exact gt_any rfl); (· exact rfl); (· exact rfl); (· exact rfl); (· exact rfl); (· exact rfl); (· exact rfl)) | apply S_lss | (apply S_neq; (· exact gt_any rfl); (· exact gt_any rfl)) | apply S_not | apply S_alloc | apply S_box | (apply S_store1; (· exact rfl); (· exact gt_any rfl); (· exact rfl); (· exact rfl); (· exact rfl); (· exact rfl)) | apply S_callQ (f := 10) | apply c0 | apply S_callI (f := 12) | apply a1 | apply S_callW (f := 31) | apply a2 | apply S_callI (f := 32) | apply a3 | apply S_callQ (f := 33) | apply c1 | apply S_callQ (f := 14) | apply c2 | (apply S_callX ([4, 5]) (f := 34); (· repeat' (first | exact gts_nil | exact gt_any rfl | apply gts_cons)); (· exact rfl); (· (apply c3) <;> first | assumption | decide | omega); (· exact rfl); (intro k9 hk1 hk2 hk3)) | (apply S_callL ([7]) (f := 35); (· repeat' (first | exact gts_nil | exact gt_any rfl | apply gts_cons)); (· exact rfl); (· (apply c4) <;> first | assumption | decide | omega)) | apply S_callQ (f := 36) | apply c5 | apply S_call (f := 12) | apply toClient_cv | exact viewL_nil | apply viewL_cons | (apply View.pure; exact PureC.out) | (apply view_slM; (· exact rfl); (· (apply mlen; first | exact rfl | assumption | exact Nat.le_of_ble_eq_true rfl | omega | (simp [bA_length]; done) | (simp [bA_length]; omega))); (· exact PureEC.out)) | apply view_agg | exact FlatC.out | exact OwnC.out | exact ownB_nil | (apply ownB_boxM; (· (apply mlen; first | exact rfl | assumption | exact Nat.le_of_ble_eq_true rfl | omega | (simp [bA_length]; done) | (simp [bA_length]; omega))); (· exact OwnEC.out)) | exact PureLC.out | exact gt_any rfl | exact gts_nil | (apply gts_cons; (· exact gt_any rfl)) | exact okCells_of rfl rfl | assumption | (apply vw_hds; (· exact rfl); (· exact rfl); (· (apply mlen; first | exact rfl | assumption | exact Nat.le_of_ble_eq_true rfl | omega | (simp [bA_length]; done) | (simp [bA_length]; omega)))) | exact rfl | fail)

end Go.Proofs.Ytaolmfgpebncjaa
