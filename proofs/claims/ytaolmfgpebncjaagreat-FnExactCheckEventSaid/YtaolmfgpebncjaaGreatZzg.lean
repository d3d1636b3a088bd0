/- Is a digest that of a confirmed head; did a fork break in deeper. -/
import Derived.Test.YtaolmfgpebncjaaGreatZzf
set_option maxRecDepth 100000
set_option maxHeartbeats 3200000
set_option linter.unusedSimpArgs false
set_option linter.unusedVariables false
namespace Go.Proofs.YtaolmfgpebncjaaGreat
open Go.Av
attribute [local irreducible] T thenQ blockQ againQ againS WX retV retR Gt Gts GtsP okCells CV CR Av.Pure
attribute [local irreducible] sha zerosL lz8 hdD hdFault zerosN hardF firstB wayD chainL bestUp wtL joinF cliFault bestL confL mainL

theorem isConfirmed_cv (c : Cli) (d : List UInt8) (h : cliFault c = 0) : CV Tryz.prog 108 [cliA c, byA d] (· = .bool (isConfB c d)) := by
  refine CV_intro tyOk Tryz.func108 (by kernel_rfl) rfl 17 rfl (by simp) [.tmp 4] rfl ?_
  intro w0 ok0
  obtain ⟨hdep, h1, h2, hJ⟩ := cliFault_zero h
  have c0 := find_cv c d (by omega) hJ.1
  have c1 := confirmed_cv c h
  have hcl := confL_le c
  have hml := mainL_le h1
  have hpr := place_range (c.heads.map hdD) d
  unfold isConfB
  by_cases g : placeL (c.heads.map hdD) d < 0
  · have d0 : decide (0 ≤ placeL (c.heads.map hdD) d) = false := decide_eq_false (by omega)
    rw [d0, Bool.false_and]
    repeat' (first | refine T_seq ?_ | refine N_then ?_ | refine T_regX tyOk ?_ | refine S_nil ?_ | refine T_ret ?_ | (apply E_tmp; (· exact rfl); (· (repeat' (first | exact pure_int _ _ | exact pure_bool _ | exact pure_str _); done))) | (apply S_gtF'; (· exact rfl); (· exact rfl); (· exact rfl); (· (first | assumption | exact rfl))) | apply S_move | apply S_assign | (apply S_pickF; (· exact gt_any rfl); (· (first | assumption | exact rfl))) | (apply S_loadW; (· exact rfl); (· exact gt_any rfl); (· exact rfl); (· exact rfl); (· exact rfl); (· exact rfl); (· exact rfl); (· exact rfl)) | apply S_geq | apply S_box | apply S_callQ (f := 100) | apply c0 | exact viewL_nil | apply viewL_cons | (apply View.pure; exact PureC.out) | exact FlatC.out | exact gt_any rfl | exact gts_nil | (apply gts_cons; (· exact gt_any rfl)) | exact okCells_of rfl rfl | exact rfl | fail)
  · have d0 : decide (0 ≤ placeL (c.heads.map hdD) d) = true := decide_eq_true (by omega)
    rw [d0, Bool.true_and]
    obtain ⟨k, hk⟩ : ∃ k : Nat, placeL (c.heads.map hdD) d = (k : Int) := ⟨(placeL (c.heads.map hdD) d).toNat, by omega⟩
    rw [hk] at c0 d0 ⊢
    rw [Int.toNat_natCast]
    have c2 := containsInt_cv (confL c) k (by omega)
    repeat' (first | refine T_seq ?_ | refine N_then ?_ | refine T_regX tyOk ?_ | refine S_nil ?_ | refine T_ret ?_ | (apply E_tmp; (· exact rfl); (· (repeat' (first | exact pure_int _ _ | exact pure_bool _ | exact pure_str _); done))) | (apply S_gt; (· exact rfl); (· exact rfl); (· (first | assumption | exact rfl))) | apply S_move | apply S_assign | (apply S_pickT; (· exact gt_any rfl); (· (first | assumption | exact rfl))) | (apply S_loadW; (· exact rfl); (· exact gt_any rfl); (· exact rfl); (· exact rfl); (· exact rfl); (· exact rfl); (· exact rfl); (· exact rfl)) | apply S_geq | apply S_box | apply S_callQ (f := 100) | apply c0 | apply S_call (f := 98) | apply c1 | apply S_callQ (f := 101) | apply c2 | exact viewL_nil | apply viewL_cons | (apply View.pure; exact PureC.out) | exact FlatC.out | exact PureLC.out | exact gt_any rfl | exact gts_nil | (apply gts_cons; (· exact gt_any rfl)) | exact okCells_of rfl rfl | assumption | exact rfl | fail)

theorem digs_le {c : Cli} : ∀ w ∈ c.heads.map hdD, w.length ≤ 1000000 := fun w hw => by
  obtain ⟨y, _, rfl⟩ := List.mem_map.1 hw
  rw [hdD_length]; decide

/-! forks -/
end Go.Proofs.YtaolmfgpebncjaaGreat
