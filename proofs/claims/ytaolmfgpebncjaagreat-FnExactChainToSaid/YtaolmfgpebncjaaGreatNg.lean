/- Ways as results: compared, marked, held. -/
import Derived.Test.YtaolmfgpebncjaaGreatRa
import Derived.Test.YtaolmfgpebncjaaGreatXa
import Derived.Test.YtaolmfgpebncjaaGreatZt
import Derived.Test.YtaolmfgpebncjaaGreatGj
import Derived.Test.YtaolmfgpebncjaaGreatGk
set_option maxRecDepth 100000
set_option maxHeartbeats 3200000
set_option linter.unusedSimpArgs false
set_option linter.unusedVariables false
namespace Go.Proofs.YtaolmfgpebncjaaGreat
open Go.Av
attribute [local irreducible] T thenQ blockQ againQ againS WX retV retR Gt Gts GtsP okCells CV CR Av.Pure

abbrev pathA (k : Int) (l : List Nat) : AV := .agg [.int .i64 k, sl1 (l.map natA)]
abbrev pathB (N : Nat) (k : Int) (n : Nat) : AV := .agg [.int .i64 k, .sl N 0 n n]
abbrev pathM (k : Int) (l : List Int) : AV := .agg [.int .i64 k, sl1 (l.map numA)]
theorem nat_num (l : List Nat) : l.map natA = (l.map fun n : Nat => (n : Int)).map numA := by rw [List.map_map]; rfl

theorem eqPath_cv (k : Int) (l : List Nat) (h : l.length ≤ 1048576) : CV Tryz.prog 12 [pathA k l, pathA k l] (· = .bool true) := by
  refine CV_intro tyOk Tryz.func12 (by kernel_rfl) rfl 16 rfl (by simp) [.tmp 4] rfl ?_
  intro w0 ok0
  have e1 : (!decide (k = k)) = false := by simp
  have c0 := eqInt64S_cv (l.map fun n : Nat => (n : Int)) (l.map fun n : Nat => (n : Int)) (by simp; omega)
  rw [decide_eq_true rfl, ← nat_num] at c0
  have e2 : (!true) = false := rfl
  repeat' (first | refine T_seq ?_ | refine N_then ?_ | refine T_regX tyOk ?_ | refine S_nil ?_ | refine T_skip ?_ | refine T_ret ?_ | (apply E_tmp; (· exact rfl); (· (repeat' (first | exact pure_int _ _ | exact pure_bool _ | exact pure_str _); done))) | (apply T_ifF; (· exact rfl); (· (first | assumption | exact rfl))) | apply S_assign | (apply S_loadP; (· exact rfl); (· exact gt_any rfl); (· exact rfl); (· exact rfl); (· exact rfl); (· (first | exact ⟨rfl, rfl⟩ | exact ⟨rfl, trivial⟩ | assumption))) | (apply S_fieldP; (· exact rfl); (· exact rfl); (· exact rfl); (· exact rfl); (· exact gt_any rfl)) | (apply S_neq; (· exact gt_any rfl); (· exact gt_any rfl)) | apply S_not | apply S_box | apply S_call (f := 60) | apply c0 | exact PureLC.out | exact gt_any rfl | exact gts_nil | (apply gts_cons; (· exact gt_any rfl)) | exact okCells_of rfl rfl | exact rfl | fail)

theorem markPath_cr (e : Int) (l : List Nat) (k : Int) (sl : Bool) (hb : l.length ≤ 1048576) (h0 : 0 ≤ k) (h1 : k ≤ 1000000000000) :
    CR Tryz.prog 15 [pathB 0 e l.length, .int .i64 k] [(0, some ⟨l.map natA, 1, sl, false⟩)] 1 (Is (.int .i64 (k + l.length)) [(0, some ⟨(marksI k l.length).map numA, 1, sl, false⟩)] 1) := by
  refine CR_introU tyOk Tryz.func15 (by kernel_rfl) rfl 10 rfl (by simp) [.tmp 4] rfl ?_
  intro w0 ok0 wr φ0
  have c0 := fun (id N : Nat) (hid : id < N) => markInt64S_at (l.map fun n : Nat => (n : Int)) k sl (by simp; omega) h0 (by omega) id N hid
  simp only [List.length_map] at c0
  rw [← nat_num] at c0
  repeat' (first | refine T_seq ?_ | refine N_then ?_ | refine T_regX tyOk ?_ | refine S_nil ?_ | refine T_ret ?_ | apply S_move | apply S_assign | (apply S_loadP; (· exact rfl); (· exact gt_any rfl); (· exact rfl); (· exact rfl); (· exact rfl); (· (first | exact ⟨rfl, rfl⟩ | exact ⟨rfl, trivial⟩ | assumption))) | (apply S_fieldP; (· exact rfl); (· exact rfl); (· exact rfl); (· exact rfl); (· exact gt_any rfl)) | apply S_box | (apply S_callL ([0]) (f := 63); (· repeat' (first | exact gts_nil | exact gt_any rfl | apply gts_cons)); (· exact rfl); (· (apply c0) <;> first | assumption | decide | omega)) | exact gt_any rfl | exact okCells_of rfl rfl | exact rfl | fail)
  (apply E_U0 [(0, 0)] <;> repeat' (first | exact resL_nil | (apply resL_tmp; (· exact rfl)) | (apply resL_cell; (· exact rfl); (· exact rfl); (· exact rfl); (· exact rfl); (· exact rfl); (· exact rfl)) | (apply resL_arr; (· exact rfl); (· exact rfl); (· exact rfl); (· exact rfl); (· (first | assumption | exact rfl))) | exact Ren.sl _ _ _ _ | (apply ren_slE; (· first | exact rfl | omega); (· first | exact rfl | assumption | (simp [bA_length]; done) | (simp [bA_length]; omega)); (· first | exact rfl | assumption | (simp [bA_length]; done) | (simp [bA_length]; omega))) | exact Ren.ptr _ _ _ | exact renL_nil | apply renL_cons | (apply Ren.pure; exact PureC.out) | apply ren_agg | apply ren_tup | exact Low.sl _ _ _ _ (by decide) | exact Low.ptr _ _ _ (by decide) | exact lowL_nil | apply lowL_cons | (apply Low.pure; exact PureC.out) | apply low_agg | apply low_tup | exact pullB_nil | (apply pullB_pureE; (· exact rfl); (· first | exact rfl | assumption | (simp [bA]; done)); (· exact PureEC.out)) | (apply pullB_one; (· exact rfl)) | exact lowBs_nil | apply lowBs_cons | (apply PureB.low; exact PureEC.out) | apply lowX_one | exact lowX_nil | (apply pullB_list; (· exact rfl)) | exact renEL_nil | apply renEL_cons | apply lowX_cons | exact outsN_ren _ _ _ _ | exact outsN_low _ _ _ (by decide) | exact rfl))
theorem markPath_at (e : Int) (l : List Nat) (k : Int) (sl : Bool) (hb : l.length ≤ 1048576) (h0 : 0 ≤ k) (h1 : k ≤ 1000000000000) (id N : Nat) (hid : id < N) :
    CR Tryz.prog 15 [pathB id e l.length, .int .i64 k] [(id, some ⟨l.map natA, 1, sl, false⟩)] N (Is (.int .i64 (k + l.length)) [(id, some ⟨(marksI k l.length).map numA, 1, sl, false⟩)] N) :=
  (CR.toI (markPath_cr e l k sl hb h0 h1) [id] rfl (by simp [*] <;> omega) _ (by simp [*] <;> omega) (by repeat' (first | exact Ren.sl _ _ _ _ | exact Ren.ptr _ _ _ | exact renL_nil | apply renL_cons | (apply Ren.pure; exact PureC.out) | apply ren_agg | apply ren_tup | exact renBs_nil | (apply renBs_pure; (· exact rfl); (· exact PureEC.out)) | (apply renBs_one; (· exact rfl)) | (apply renBs_list; (· exact rfl)) | exact renEL_nil | apply renEL_cons | exact outsN_ren _ _ _ _)) (by repeat' (first | exact Ren.sl _ _ _ _ | exact Ren.ptr _ _ _ | exact renL_nil | apply renL_cons | (apply Ren.pure; exact PureC.out) | apply ren_agg | apply ren_tup | exact renBs_nil | (apply renBs_pure; (· exact rfl); (· exact PureEC.out)) | (apply renBs_one; (· exact rfl)) | (apply renBs_list; (· exact rfl)) | exact renEL_nil | apply renEL_cons | exact outsN_ren _ _ _ _)) (by omega) (by repeat' (first | exact Ren.sl _ _ _ _ | exact Ren.ptr _ _ _ | exact renL_nil | apply renL_cons | (apply Ren.pure; exact PureC.out) | apply ren_agg | apply ren_tup | exact renBs_nil | (apply renBs_pure; (· exact rfl); (· exact PureEC.out)) | (apply renBs_one; (· exact rfl)) | (apply renBs_list; (· exact rfl)) | exact renEL_nil | apply renEL_cons | exact outsN_ren _ _ _ _)) (by repeat' (first | exact Ren.sl _ _ _ _ | exact Ren.ptr _ _ _ | exact renL_nil | apply renL_cons | (apply Ren.pure; exact PureC.out) | apply ren_agg | apply ren_tup | exact renBs_nil | (apply renBs_pure; (· exact rfl); (· exact PureEC.out)) | (apply renBs_one; (· exact rfl)) | (apply renBs_list; (· exact rfl)) | exact renEL_nil | apply renEL_cons | exact outsN_ren _ _ _ _)))
theorem heldPath_cv (e : Int) (n : Nat) (k : Int) (hb : n ≤ 1048576) (h0 : 0 ≤ k) (h1 : k ≤ 1000000000000) : CV Tryz.prog 16 [pathM e (marksI k n), .int .i64 k] (· = /-flat-/ .int .i64 (k + n)) := by
  refine CV_intro tyOk Tryz.func16 (by kernel_rfl) rfl 12 rfl (by simp) [.tmp 4] rfl ?_
  intro w0 ok0
  have c0 := heldInt64S_cv n k (by omega) h0 (by omega)
  have hd : decide (k + (n : Int) < 0) = false := by simp only [decide_eq_false_iff_not]; omega
  repeat' (first | refine T_seq ?_ | refine N_then ?_ | refine T_regX tyOk ?_ | refine S_nil ?_ | refine T_skip ?_ | refine T_ret ?_ | (apply E_tmp; (· exact rfl); (· (repeat' (first | exact pure_int _ _ | exact pure_bool _ | exact pure_str _); done))) | (apply T_ifF; (· exact rfl); (· (first | assumption | exact rfl))) | apply S_move | apply S_assign | (apply S_loadP; (· exact rfl); (· exact gt_any rfl); (· exact rfl); (· exact rfl); (· exact rfl); (· (first | exact ⟨rfl, rfl⟩ | exact ⟨rfl, trivial⟩ | assumption))) | (apply S_fieldP; (· exact rfl); (· exact rfl); (· exact rfl); (· exact rfl); (· exact gt_any rfl)) | apply S_lss | apply S_box | apply S_call (f := 64) | apply c0 | exact PureLC.out | exact gt_any rfl | exact gts_nil | (apply gts_cons; (· exact gt_any rfl)) | exact okCells_of rfl rfl | exact rfl | fail)

end Go.Proofs.YtaolmfgpebncjaaGreat
