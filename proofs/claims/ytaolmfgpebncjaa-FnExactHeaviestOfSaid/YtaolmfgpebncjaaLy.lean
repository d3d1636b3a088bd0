/- The laws of trees' faults and of the heaviest blocks. -/
import Derived.Test.YtaolmfgpebncjaaZzk
import Derived.Test.YtaolmfgpebncjaaWe
set_option maxRecDepth 100000
set_option maxHeartbeats 3200000
set_option linter.unusedSimpArgs false
set_option linter.unusedVariables false
namespace Go.Proofs.Ytaolmfgpebncjaa
open Go.Av
attribute [local irreducible] T thenQ blockQ againQ againS WX retV retR Gt Gts GtsP okCells CV CR Av.Pure
attribute [local irreducible] treeFault heavyV

theorem blk_events {tr : List Blk} (h : listW BlkW tr ≤ 1048576) : tr.length ≤ 1048576 ∧ ∀ b ∈ tr, b.events.length ≤ 1048576 := by
  refine ⟨by unfold listW at h; omega, fun b hb => ?_⟩
  have h1 : BlkW b ≤ listW BlkW tr := by have := listW_mem BlkW tr hb; omega
  have h2 : listW List.length b.events ≤ BlkW b := by unfold BlkW; omega
  have h3 : b.events.length ≤ listW List.length b.events := by unfold listW; omega
  omega

theorem law_TreeFault (tr : List Blk) (hx : listR BlkR tr) : CV Try.prog 5 [blkAS tr] (· = .bool true) := by
  refine CV_intro tyOk Try.func5 (by kernel_rfl) rfl 27 rfl (by simp) [.tmp 2] rfl ?_
  intro w0 ok0
  have c0 := szBlockS_cv tr 1048576 hx (by decide) (by decide)
  by_cases g3 : (1048576 : Int) - (listW BlkW tr : Nat) < 0
  · rw [szAfter_neg g3] at c0
    have d3 : decide ((-1 : Int) < 0) = true := rfl
    repeat' (first | refine T_seq ?_ | refine N_then ?_ | refine N_thenR ?_ | refine T_regX tyOk ?_ | refine S_nil ?_ | refine T_ret ?_ | (apply E_tmp; (· exact rfl); (· (repeat' (first | exact pure_int _ _ | exact pure_bool _ | exact pure_str _); done))) | (apply T_ifT; (· exact rfl); (· (first | assumption | exact rfl))) | apply S_move | apply S_assign | apply S_lss | apply S_callQ (f := 18) | apply c0 | exact viewL_nil | apply viewL_cons | (apply View.pure; exact PureC.out) | exact FlatC.out | exact gt_any rfl | exact gts_nil | (apply gts_cons; (· exact gt_any rfl)) | assumption | exact rfl | fail)
  rw [szAfter_pos g3] at c0
  have d3 : decide ((1048576 : Int) - ((listW BlkW tr : Nat) : Int) < 0) = false := decide_eq_false g3
  have hW : listW BlkW tr ≤ 1048576 := by omega
  obtain ⟨hl, he⟩ := blk_events hW
  have c1 := toBlockS_cv tr hW
  have c4 := specTreeFault_cv tr hl he
  have c5 := treeFault_cv tr hl he
  have c6 := eqBlockS_cv tr hW
  have e1 : (!decide (treeFault tr = treeFault tr)) = false := by rw [decide_eq_true rfl]; rfl
  have e2 : (!true) = false := rfl
  repeat' (first | refine T_seq ?_ | refine N_then ?_ | refine T_regX tyOk ?_ | refine S_nil ?_ | refine T_skip ?_ | refine T_ret ?_ | (apply E_tmp; (· exact rfl); (· (repeat' (first | exact pure_int _ _ | exact pure_bool _ | exact pure_str _); done))) | (apply T_ifF; (· exact rfl); (· (first | assumption | exact rfl))) | apply S_move | apply S_assign | apply S_lss | (apply S_neq; (· exact gt_any rfl); (· exact gt_any rfl)) | apply S_not | apply S_callQ (f := 18) | apply c0 | apply S_call (f := 20) | apply c1 | apply S_callQ (f := 19) | apply c4 | apply S_callQ (f := 21) | apply c5 | apply S_callQ (f := 22) | apply c6 | exact viewL_nil | apply viewL_cons | exact viewE_pure PureEC.out | apply view_lsV | (apply View.pure; exact PureC.out) | exact FlatC.out | exact PureLC.out | exact gt_any rfl | exact gts_nil | (apply gts_cons; (· exact gt_any rfl)) | exact rfl | fail)

theorem law_HeaviestOf (tr : List Blk) (hx : listR BlkR tr) : CV Try.prog 8 [blkAS tr] (· = .bool true) := by
  refine CV_intro tyOk Try.func8 (by kernel_rfl) rfl 28 rfl (by simp) [.tmp 2] rfl ?_
  intro w0 ok0
  have c0 := szBlockS_cv tr 1048576 hx (by decide) (by decide)
  by_cases g3 : (1048576 : Int) - (listW BlkW tr : Nat) < 0
  · rw [szAfter_neg g3] at c0
    have d3 : decide ((-1 : Int) < 0) = true := rfl
    repeat' (first | refine T_seq ?_ | refine N_then ?_ | refine N_thenR ?_ | refine T_regX tyOk ?_ | refine S_nil ?_ | refine T_ret ?_ | (apply E_tmp; (· exact rfl); (· (repeat' (first | exact pure_int _ _ | exact pure_bool _ | exact pure_str _); done))) | (apply T_ifT; (· exact rfl); (· (first | assumption | exact rfl))) | apply S_move | apply S_assign | apply S_lss | apply S_callQ (f := 18) | apply c0 | exact viewL_nil | apply viewL_cons | (apply View.pure; exact PureC.out) | exact FlatC.out | exact gt_any rfl | exact gts_nil | (apply gts_cons; (· exact gt_any rfl)) | assumption | exact rfl | fail)
  rw [szAfter_pos g3] at c0
  have d3 : decide ((1048576 : Int) - ((listW BlkW tr : Nat) : Int) < 0) = false := decide_eq_false g3
  have hW : listW BlkW tr ≤ 1048576 := by omega
  obtain ⟨hl, he⟩ := blk_events hW
  have c1 := toBlockS_cv tr hW
  have c4 := specHeaviestOf_cv tr hl he
  have c5 := heaviestOf_cv tr hl he
  have c6 := eqBlockS_cv tr hW
  have c8 := eqIntResult_cv (treeFault tr) (heavyV tr) (treeFault tr) (heavyV tr)
  rw [decide_eq_true rfl, decide_eq_true rfl] at c8
  have e1 : (!(true && true)) = false := rfl
  have e2 : (!true) = false := rfl
  repeat' (first | refine T_seq ?_ | refine N_then ?_ | refine T_regX tyOk ?_ | refine S_nil ?_ | refine T_skip ?_ | refine T_ret ?_ | (apply E_tmp; (· exact rfl); (· (repeat' (first | exact pure_int _ _ | exact pure_bool _ | exact pure_str _); done))) | (apply T_ifF; (· exact rfl); (· (first | assumption | exact rfl))) | apply S_move | apply S_assign | (apply S_loadW; (· exact rfl); (· exact gt_any rfl); (· exact rfl); (· exact rfl); (· exact rfl); (· exact rfl); (· exact rfl); (· exact rfl)) | apply S_lss | apply S_not | apply S_alloc | (apply S_store1; (· exact rfl); (· exact gt_any rfl); (· exact rfl); (· exact rfl); (· exact rfl); (· exact rfl)) | apply S_callQ (f := 18) | apply c0 | apply S_call (f := 20) | apply c1 | apply S_callQ (f := 29) | apply c4 | apply S_callQ (f := 30) | apply c5 | apply S_callQ (f := 22) | apply c6 | apply S_callQ (f := 17) | apply c8 | exact viewL_nil | apply viewL_cons | exact viewE_pure PureEC.out | apply view_lsV | (apply View.pure; exact PureC.out) | exact FlatC.out | exact PureLC.out | exact gt_any rfl | exact gts_nil | (apply gts_cons; (· exact gt_any rfl)) | exact okCells_of rfl rfl | exact rfl | fail)

theorem isBlks {x : AV} (h : TyV ty 37 x) : ∃ l : List Blk, x = blkAS l ∧ listR BlkR l := by
  obtain ⟨h1, h2⟩ := inv_leafs h (l := [37]) rfl
  have h3 := h.2.2.2 ⟨_, rfl, rfl⟩
  obtain ⟨ei, xs, e1, rfl, e2, e3⟩ := h2 0 37 x rfl (by rw [h3]; rfl)
  obtain rfl := Option.some.inj e1
  obtain ⟨q, rfl, hq⟩ := list_ofP blkA (fun x hx => elemBlock rfl hx) xs e3
  rw [List.length_map] at e2
  exact ⟨q, rfl, e2, hq⟩

end Go.Proofs.Ytaolmfgpebncjaa
