/- The law of heads that are mined. -/
import Derived.Test.YthfikpgbddpmoaaZzo
import Derived.Test.YthfikpgbddpmoaaWe
set_option maxRecDepth 100000
set_option maxHeartbeats 3200000
set_option linter.unusedSimpArgs false
set_option linter.unusedVariables false
namespace Go.Proofs.Ythfikpgbddpmoaa
open Go.Av
attribute [local irreducible] T thenQ blockQ againQ againS WX retV retR Gt Gts GtsP okCells CV CR Av.Pure
attribute [local irreducible] mnCode mnHead

theorem mnHead_le (x : Hd) (t : Int) : (mnHead x t).parent.length ≤ 32 ∧ (mnHead x t).root.length ≤ 32 := by
  by_cases h : mnCode x t = 0
  · have e : mnHead x t = withN x (mineH x t) := by unfold mnHead; rw [if_pos h]
    have h0 : hdFault x = 0 := by
      unfold mnCode at h
      split at h
      · rename_i q; exact absurd h q
      · rename_i q; exact Classical.not_not.1 q
    have := (hd_zero h0).1
    rw [e]
    exact ⟨by show x.parent.length ≤ 32; omega, by show x.root.length ≤ 32; omega⟩
  · have e : mnHead x t = Hd0 := by unfold mnHead; rw [if_neg h]
    rw [e]
    exact ⟨by decide, by decide⟩

theorem law_MineHead (x : Hd) (t : Int) (hx : HdR x) : CV Try.prog 7 [hdA x, .int .i64 t] (· = .bool true) := by
  refine CV_intro tyOk Try.func7 (by kernel_rfl) rfl 74 rfl (by simp) [.tmp 4] rfl ?_
  intro w0 ok0
  have c0 := szHead_cv x 1048576 hx (by decide) (by decide)
  by_cases g3 : (1048576 : Int) - (HdW x : Nat) < 0
  · rw [szAfter_neg g3] at c0
    have d3 : decide ((-1 : Int) < 0) = true := rfl
    repeat' (first | refine T_seq ?_ | refine N_then ?_ | refine N_thenR ?_ | refine T_regX tyOk ?_ | refine S_nil ?_ | refine T_ret ?_ | (apply E_tmp; (· exact rfl); (· (repeat' (first | exact pure_int _ _ | exact pure_bool _ | exact pure_str _); done))) | (apply T_ifT; (· exact rfl); (· (first | assumption | exact rfl))) | apply S_move | apply S_assign | (apply S_loadW; (· exact rfl); (· exact gt_any rfl); (· exact rfl); (· exact rfl); (· exact rfl); (· exact rfl); (· exact rfl); (· exact rfl)) | apply S_lss | apply S_box | apply S_callQ (f := 38) | apply c0 | exact viewL_nil | apply viewL_cons | (apply View.pure; exact PureC.out) | exact FlatC.out | exact gt_any rfl | exact gts_nil | (apply gts_cons; (· exact gt_any rfl)) | exact okCells_of rfl rfl | assumption | exact rfl | fail)
  rw [szAfter_pos g3] at c0
  have d3 : decide ((1048576 : Int) - ((HdW x : Nat) : Int) < 0) = false := decide_eq_false g3
  have hW : HdW x ≤ 1048576 := by omega
  have hW' := hW
  unfold HdW at hW'
  have hr := mnHead_le x t
  have hrW : HdW (mnHead x t) ≤ 1048576 := by unfold HdW; omega
  have a1 := fun N => toHead_cr x (by omega) (by omega) N
  have a2 := fun N => specMineHead_cr x t (by omega) (by omega) N
  have a3 := fun N => implMineHead_cr x t (by omega) (by omega) N
  have c1 := eqHeadResult_cv (mnCode x t) (mnHead x t) hrW
  generalize mnCode x t = c at *
  generalize mnHead x t = y at *
  have e3 : decide ((1 : Int) + (x.parent.length : Int) + (x.root.length : Int) < 0) = false := decide_eq_false (by omega)
  have e4 : decide ((1 : Int) + (y.parent.length : Int) + (y.root.length : Int) < 0) = false := decide_eq_false (by omega)
  have e5 : (!decide ((1 : Int) + (y.parent.length : Int) + (y.root.length : Int) = 1 + (y.parent.length : Int) + (y.root.length : Int))) = false := by rw [decide_eq_true rfl]; rfl
  have e2 : (!true) = false := rfl
  have m1 : y.parent.length = (bA y.parent).length := by rw [bA_length]
  have m2 : y.root.length = (bA y.root).length := by rw [bA_length]
  have m3 : x.parent.length = (bA x.parent).length := by rw [bA_length]
  have m4 : x.root.length = (bA x.root).length := by rw [bA_length]
  have m5 : y.parent.length = (bA (marksB 1 y.parent.length)).length := by rw [bA_length, marksB_length]
  have m6 : y.root.length = (bA (marksB (1 + (y.parent.length : Int)) y.root.length)).length := by rw [bA_length, marksB_length]
  have c2 := eqHead_cv x hW
  have c3 := fun (i j N : Nat) (hi : i < N) (hj : j < N) (hij : i ≠ j) => markHead_at x 1 false (by omega) (by omega) (by decide) (by decide) i j N hi hj hij
  have c4 := fun (i j N : Nat) (hi : i < N) (hj : j < N) (hij : i ≠ j) => markHeadResult_at c y 1 (by omega) (by omega) (by decide) (by decide) i j N hi hj hij
  have c5 := heldHeadResult_cv c y y.parent.length y.root.length 1 (by omega) (by omega) (by decide) (by decide)
  have c6 := toHead_cv x hW
  repeat' (first | refine T_seq ?_ | refine N_then ?_ | refine T_regX tyOk ?_ | (apply T_drawM (id := 10) 3 tyOk mixed; (· exact rfl); (· exact rfl); (· kernel_rfl); (· exact Nat.le_of_ble_eq_true rfl)) | refine S_nil ?_ | refine T_skip ?_ | refine T_ret ?_ | (apply E_tmp; (· exact rfl); (· (repeat' (first | exact pure_int _ _ | exact pure_bool _ | exact pure_str _); done))) | (apply T_ifF; (· exact rfl); (· (first | assumption | exact rfl))) | (apply S_gf; (· exact rfl); (· exact rfl); (· (first | assumption | exact rfl))) | apply S_move | apply S_assign | (apply S_pickF; (· exact gt_any rfl); (· (first | assumption | exact rfl))) | (apply S_loadW; (· exact rfl); (· exact gt_any rfl); (· exact rfl); (· exact rfl); (· exact rfl); (· exact rfl); (· exact rfl); (· exact rfl)) | apply S_lss | (apply S_neq; (· exact gt_any rfl); (· exact gt_any rfl)) | apply S_not | apply S_alloc | apply S_box | (apply S_store1; (· exact rfl); (· exact gt_any rfl); (· exact rfl); (· exact rfl); (· exact rfl); (· exact rfl)) | apply S_callQ (f := 38) | apply c0 | apply S_callI (f := 40) | apply a1 | apply S_callI (f := 39) | apply a2 | apply S_callI (f := 41) | apply a3 | apply S_call (f := 40) | apply c6 | apply S_callQ (f := 42) | apply c1 | apply S_callQ (f := 43) | apply c2 | (apply S_callL ([6, 7]) (f := 44); (· repeat' (first | exact gts_nil | exact gt_any rfl | apply gts_cons)); (· exact rfl); (· (apply c3) <;> first | assumption | decide | omega)) | (apply S_callL ([9, 10]) (f := 45); (· repeat' (first | exact gts_nil | exact gt_any rfl | apply gts_cons)); (· exact rfl); (· (apply c4) <;> first | assumption | decide | omega)) | apply S_callQ (f := 46) | apply c5 | exact viewL_nil | apply viewL_cons | (apply View.pure; exact PureC.out) | (apply view_slM; (· exact rfl); (· (apply mlen; first | exact rfl | assumption | exact Nat.le_of_ble_eq_true rfl | omega | (simp [bA_length]; done) | (simp [bA_length]; omega))); (· exact PureEC.out)) | apply view_agg | exact FlatC.out | exact OwnC.out | exact ownB_nil | (apply ownB_boxM; (· (apply mlen; first | exact rfl | assumption | exact Nat.le_of_ble_eq_true rfl | omega | (simp [bA_length]; done) | (simp [bA_length]; omega))); (· exact OwnEC.out)) | exact PureLC.out | exact gt_any rfl | exact gts_nil | (apply gts_cons; (· exact gt_any rfl)) | exact okCells_of rfl rfl | exact rfl | fail)

end Go.Proofs.Ythfikpgbddpmoaa
