/- The law of ChainTo. -/
import Derived.Test.YtaolmfgpebncjaaGreatZzj
import Derived.Test.YtaolmfgpebncjaaGreatWe
import Derived.Test.YtaolmfgpebncjaaGreatNj
import Derived.Test.YtaolmfgpebncjaaGreatNk
import Derived.Test.YtaolmfgpebncjaaGreatWt
import Derived.Test.YtaolmfgpebncjaaGreatGj
import Derived.Test.YtaolmfgpebncjaaGreatGk
set_option maxRecDepth 100000
set_option maxHeartbeats 3200000
set_option linter.unusedSimpArgs false
set_option linter.unusedVariables false
namespace Go.Proofs.YtaolmfgpebncjaaGreat
open Go.Av
attribute [local irreducible] T thenQ blockQ againQ againS WX retV retR Gt Gts GtsP okCells CV CR Av.Pure
attribute [local irreducible] sha zerosL lz8 hdD hdFault zerosN hardF firstB wayD chainL bestUp wtL joinF fewB rootL parI treeFault

def heavyV (tr : List Blk) : Int := if treeFault tr = 0 then (bestL (headsL tr) : Int) else 0

end Go.Proofs.YtaolmfgpebncjaaGreat

set_option maxRecDepth 100000
set_option maxHeartbeats 3200000
set_option linter.unusedSimpArgs false
set_option linter.unusedVariables false
namespace Go.Proofs.YtaolmfgpebncjaaGreat
open Go.Av
attribute [local irreducible] T thenQ blockQ againQ againS WX retV retR Gt Gts GtsP okCells CV CR Av.Pure
attribute [local irreducible] treeFault heavyV

theorem blk_events {tr : List Blk} (h : listW BlkW tr ≤ 1048576) : tr.length ≤ 1048576 ∧ ∀ b ∈ tr, b.events.length ≤ 1048576 := by
  refine ⟨by unfold listW at h; omega, fun b hb => ?_⟩
  have h1 : BlkW b ≤ listW BlkW tr := by have := listW_mem BlkW tr hb; omega
  have h2 : listW List.length b.events ≤ BlkW b := by unfold BlkW; omega
  have h3 : b.events.length ≤ listW List.length b.events := by unfold listW; omega
  omega

theorem isBlks {x : AV} (h : TyV ty 22 x) : ∃ l : List Blk, x = blkAS l ∧ listR BlkR l := by
  obtain ⟨h1, h2⟩ := inv_leafs h (l := [22]) rfl
  have h3 := h.2.2.2 ⟨_, rfl, rfl⟩
  obtain ⟨ei, xs, e1, rfl, e2, e3⟩ := h2 0 22 x rfl (by rw [h3]; rfl)
  obtain rfl := Option.some.inj e1
  obtain ⟨q, rfl, hq⟩ := list_ofP blkA (fun x hx => elemBlock rfl hx) xs e3
  rw [List.length_map] at e2
  exact ⟨q, rfl, e2, hq⟩

end Go.Proofs.YtaolmfgpebncjaaGreat

set_option maxRecDepth 100000
set_option maxHeartbeats 3200000
set_option linter.unusedSimpArgs false
set_option linter.unusedVariables false
namespace Go.Proofs.YtaolmfgpebncjaaGreat
open Go.Av
attribute [local irreducible] T thenQ blockQ againQ againS WX retV retR Gt Gts GtsP okCells CV CR Av.Pure
attribute [local irreducible] treeFault ctCode ctL

theorem law_ChainTo (tr : List Blk) (i : Int) (hx : listR BlkR tr) : CV Tryz.prog 3 [blkAS tr, .int .i64 i] (· = .bool true) := by
  refine CV_intro tyOk Tryz.func3 (by kernel_rfl) rfl 74 rfl (by simp) [.tmp 4] rfl ?_
  intro w0 ok0
  have c0 := szBlockS_cv tr 1048576 hx (by decide) (by decide)
  by_cases g3 : (1048576 : Int) - (listW BlkW tr : Nat) < 0
  · rw [szAfter_neg g3] at c0
    have d3 : decide ((-1 : Int) < 0) = true := rfl
    repeat' (first | refine T_seq ?_ | refine N_then ?_ | refine N_thenR ?_ | refine T_regX tyOk ?_ | refine S_nil ?_ | refine T_ret ?_ | (apply E_tmp; (· exact rfl); (· (repeat' (first | exact pure_int _ _ | exact pure_bool _ | exact pure_str _); done))) | (apply T_ifT; (· exact rfl); (· (first | assumption | exact rfl))) | apply S_move | apply S_assign | apply S_lss | apply S_callQ (f := 8) | apply c0 | exact viewL_nil | apply viewL_cons | (apply View.pure; exact PureC.out) | exact FlatC.out | exact gt_any rfl | exact gts_nil | (apply gts_cons; (· exact gt_any rfl)) | assumption | exact rfl | fail)
  rw [szAfter_pos g3] at c0
  have d3 : decide ((1048576 : Int) - ((listW BlkW tr : Nat) : Int) < 0) = false := decide_eq_false g3
  have hW : listW BlkW tr ≤ 1048576 := by omega
  obtain ⟨hl, he⟩ := blk_events hW
  have a1 := fun N => toBlks_cr tr hW N
  have a2 := specChainTo_cv tr i hl he
  have a3 := fun N => implChainTo_cr tr i hl he N
  have a4 := implChainTo_cv tr i hl he
  have hr := ctL_le tr i
  have c3 := fun (i j m N : Nat) (hi : i < N) (hj : j < N) (hm : m < N) (hij : i ≠ j) (him : i ≠ m) (hjm : j ≠ m) => markBlks_at tr 1 true true false hW (by decide) (by decide) i j m N hi hj hm hij him hjm
  generalize ctCode tr i = k at *
  generalize ctL tr i = r at *
  have e4 : decide ((1 : Int) + (r.length : Int) < 0) = false := by simp; omega
  have e5 : (!decide ((1 : Int) + (r.length : Int) = 1 + (r.length : Int))) = false := by simp
  have e7 : (!true) = false := rfl
  have hm : r.length = (r.map natA).length := by simp
  have hm2 : r.length = ((marksI 1 r.length).map numA).length := by rw [List.length_map, marksI_length]
  have c1 := eqPath_cv k r (by omega)
  have c2 := eqBlockS_cv tr hW
  have c4 := fun (id N : Nat) (hid : id < N) => markPath_at k r 1 true (by omega) (by decide) (by decide) id N hid
  have c5 := heldPath_cv k r.length 1 (by omega) (by decide) (by decide)
  repeat' (first | refine T_seq ?_ | refine N_then ?_ | refine T_regX tyOk ?_ | refine S_nil ?_ | refine T_skip ?_ | refine T_ret ?_ | (apply E_tmp; (· exact rfl); (· (repeat' (first | exact pure_int _ _ | exact pure_bool _ | exact pure_str _); done))) | (apply T_ifF; (· exact rfl); (· (first | assumption | exact rfl))) | (apply S_gf; (· exact rfl); (· exact rfl); (· (first | assumption | exact rfl))) | apply S_move | apply S_assign | (apply S_pickF; (· exact gt_any rfl); (· (first | assumption | exact rfl))) | (apply S_loadW; (· exact rfl); (· exact gt_any rfl); (· exact rfl); (· exact rfl); (· exact rfl); (· exact rfl); (· exact rfl); (· exact rfl)) | apply S_lss | (apply S_neq; (· exact gt_any rfl); (· exact gt_any rfl)) | apply S_not | apply S_alloc | (apply S_store1; (· exact rfl); (· exact gt_any rfl); (· exact rfl); (· exact rfl); (· exact rfl); (· exact rfl)) | apply S_callQ (f := 8) | apply c0 | apply S_callI (f := 10) | apply a1 | apply S_callW (f := 9) | apply a2 | apply S_callI (f := 11) | apply a3 | apply S_callQ (f := 12) | apply c1 | apply S_callQ (f := 13) | apply c2 | (apply S_callX ([4, 5, 6]) (f := 14); (· repeat' (first | exact gts_nil | exact gt_any rfl | apply gts_cons)); (· exact rfl); (· (apply c3) <;> first | assumption | decide | omega); (· exact rfl); (intro k9 hk1 hk2 hk3)) | (apply S_callL ([7]) (f := 15); (· repeat' (first | exact gts_nil | exact gt_any rfl | apply gts_cons)); (· exact rfl); (· (apply c4) <;> first | assumption | decide | omega)) | apply S_callQ (f := 16) | apply c5 | exact viewL_nil | apply viewL_cons | exact viewE_pure PureEC.out | apply view_lsV | (apply View.pure; exact PureC.out) | (apply view_slM; (· exact rfl); (· (apply mlen; first | exact rfl | assumption | exact Nat.le_of_ble_eq_true rfl | omega | (simp [bA_length]; done) | (simp [bA_length]; omega))); (· exact PureEC.out)) | apply view_agg | exact FlatC.out | exact OwnC.out | exact ownB_nil | (apply ownB_boxM; (· (apply mlen; first | exact rfl | assumption | exact Nat.le_of_ble_eq_true rfl | omega | (simp [bA_length]; done) | (simp [bA_length]; omega))); (· exact OwnEC.out)) | exact gt_any rfl | exact gts_nil | (apply gts_cons; (· exact gt_any rfl)) | exact okCells_of rfl rfl | (apply vx_blks; (· exact rfl); (· exact rfl); (· exact rfl); (· (apply mlen; first | exact rfl | assumption | exact Nat.le_of_ble_eq_true rfl | omega | (simp [bA_length]; done) | (simp [bA_length]; omega)))) | exact rfl | fail)

end Go.Proofs.YtaolmfgpebncjaaGreat
