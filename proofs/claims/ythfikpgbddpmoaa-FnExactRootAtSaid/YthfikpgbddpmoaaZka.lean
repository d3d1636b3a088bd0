/- Trusts whose roots are looked at. -/
import Derived.Test.YthfikpgbddpmoaaZk
set_option maxRecDepth 100000
set_option maxHeartbeats 3200000
set_option linter.unusedSimpArgs false
set_option linter.unusedVariables false
namespace Go.Proofs.Ythfikpgbddpmoaa
open Go.Av
attribute [local irreducible] T thenQ blockQ againQ againS WX retV retR Gt Gts GtsP okCells CV CR Av.Pure
attribute [local irreducible] sha putN setW packL setD

theorem truFault_true (t : Tru) (h : TruW t ≤ 1048576) (g0 : hbFault t.head = 0) (g1 : setFault t.next = 0) (g2 : t.head.next = setD t.next) (g3 : 1 ≤ t.period ∧ t.period ≤ 1099511627776) (g4 : ¬ 24 < t.roots.length) (g5 : ¬ t.roots.length = 0) (g6 : ¬ t.frm < 1) (g7 : ¬ 1000000 < t.frm) (g8 : t.frm + (t.roots.length : Int) - 1 = t.head.height) (g9 : t.roots.getD (t.roots.length - 1) [] = t.head.root) (g10 : t.roots.any badRoot = true) : CV Try.prog 63 [truA t] (· = .int .i64 (truFault t)) := by
  refine CV_intro tyOk Try.func63 (by kernel_rfl) rfl 80 rfl (by simp) [.tmp 2] rfl ?_
  intro w0 ok0
  unfold TruW HdBW listW at h
  have hml : (t.roots.map byA).length = t.roots.length := by simp
  have c0 := hbFault_cv t.head
  have c1 := setFault_cv t.next (by omega)
  rw [g0] at c0
  have d0 : (!decide ((0 : Int) = 0)) = false := rfl
  rw [g1] at c1
  have c2 := setDigest_cv t.next g1
  have c3 := equal_cv t.head.next (setD t.next)
  obtain ⟨_, hh, _⟩ := hb_zero g0
  have d2 : (!decide (t.head.next = setD t.next)) = false := by rw [decide_eq_true g2]; rfl
  have d3 := rng_t g3
  have d4 : decide ((24 : Int) < ((t.roots.map byA).length : Int)) = false := decide_eq_false (by omega)
  have hv : truFault t = if truOk t then 0 else 1 := by unfold truFault; rw [if_neg (fun k => k g0), if_neg (fun k => k g1), if_neg (fun k => k g2), if_neg (fun k => k g3), if_neg g4]
  rw [hv]
  have d5 : decide (((t.roots.map byA).length : Int) = 0) = false := decide_eq_false (by omega)
  have d6 : decide (t.frm < 1) = false := decide_eq_false g6
  have d7 : decide (1000000 < t.frm) = false := decide_eq_false g7
  have w1 : IntKind.wrap .i64 (t.frm + ((t.roots.map byA).length : Int)) = t.frm + (t.roots.length : Int) := by rw [wrap_i64 (by omega) (by omega)]; omega
  have w2 : IntKind.wrap .i64 (t.frm + (t.roots.length : Int) - 1) = t.frm + (t.roots.length : Int) - 1 := wrap_i64 (by omega) (by omega)
  have d8 : (!decide (t.frm + (t.roots.length : Int) - 1 = t.head.height)) = false := by rw [decide_eq_true g8]; rfl
  have w3 : IntKind.wrap .i64 (((t.roots.map byA).length : Int) - 1) = ((t.roots.length - 1 : Nat) : Int) := by rw [wrap_i64 (by omega) (by omega)]; omega
  have hget := map_getD byA t.roots [] (k := t.roots.length - 1) (by omega)
  have hn1 : t.roots.length - 1 < t.roots.length := by omega
  have c4 := equal_cv (t.roots.getD (t.roots.length - 1) []) t.head.root
  have d9 : (!decide (t.roots.getD (t.roots.length - 1) [] = t.head.root)) = false := by rw [decide_eq_true g9]; rfl
  have c5 := containsRows_cv 144 [] t.roots badRoot inferInstance viewL_nil (by omega) (fun w _ => badRoot_cv w)
  rw [g10] at c5
  rw [if_neg (fun k => by have := k.2.2.2.2; rw [g10] at this; cases this)]
  generalize t.roots.length - 1 = n1 at *
  repeat' (first | refine T_seq ?_ | refine N_then ?_ | refine N_thenR ?_ | refine N_blockR ?_ | refine T_regX tyOk ?_ | (apply T_drawM (id := 8) 6 tyOk mixed; (· exact rfl); (· exact rfl); (· kernel_rfl); (· exact Nat.le_of_ble_eq_true rfl)) | (apply T_drawM (id := 14) 33 tyOk mixed; (· exact rfl); (· exact rfl); (· kernel_rfl); (· exact Nat.le_of_ble_eq_true rfl)) | refine S_nil ?_ | refine T_skip ?_ | refine T_ret ?_ | refine T_block ?_ | (apply E_tmp; (· exact rfl); (· (repeat' (first | exact pure_int _ _ | exact pure_bool _ | exact pure_str _); done))) | (apply T_ifT; (· exact rfl); (· (first | assumption | exact rfl))) | (apply T_ifF; (· exact rfl); (· (first | assumption | exact rfl))) | (apply S_gf; (· exact rfl); (· exact rfl); (· (first | assumption | exact rfl))) | apply S_move | apply S_assign | (apply S_pickF; (· exact gt_any rfl); (· (first | assumption | exact rfl))) | (apply S_loadP; (· exact rfl); (· exact gt_any rfl); (· exact rfl); (· exact rfl); (· exact rfl); (· (first | exact ⟨rfl, rfl⟩ | exact ⟨rfl, trivial⟩ | assumption))) | (apply M_loadA; (· exact rfl); (· exact rfl); (· exact gt_any rfl); (· exact rfl); (· exact rfl); (· (repeat' constructor))) | (apply S_loadV; (· exact rfl); (· exact gt_any rfl); (· exact rfl); (· (first | exact ⟨rfl, rfl⟩ | exact ⟨rfl, trivial⟩ | assumption))) | (apply S_fieldP; (· exact rfl); (· exact rfl); (· exact rfl); (· exact rfl); (· exact gt_any rfl)) | apply S_lss | apply S_gtr | (apply S_eql; (· exact gt_any rfl); (· exact gt_any rfl)) | (apply S_neq; (· exact gt_any rfl); (· exact gt_any rfl)) | apply S_add | apply S_sub | apply S_not | (apply S_len_ls; (· exact rfl); (· exact gt_any rfl)) | apply S_box | (apply S_idxLs; (· exact rfl); (· exact rfl); (· exact gt_any rfl); (· exact gt_any rfl)) | apply S_callQ (f := 139) | apply c0 | apply S_callQ (f := 140) | apply c1 | apply S_call (f := 142) | apply c2 | apply S_callQ (f := 141) | apply c3 | apply c4 | apply S_callQ (f := 143) | apply c5 | apply S_callQ (f := 86) | apply in_cv | exact viewL_nil | apply viewL_cons | (apply View.pure; exact PureC.out) | exact FlatC.out | exact PureLC.out | exact gt_any rfl | exact gts_nil | (apply gts_cons; (· exact gt_any rfl)) | exact okCells_of rfl rfl | assumption | (refine ⟨?_, ?_⟩ <;> omega) | exact rfl | fail)

theorem truFault_false (t : Tru) (h : TruW t ≤ 1048576) (g0 : hbFault t.head = 0) (g1 : setFault t.next = 0) (g2 : t.head.next = setD t.next) (g3 : 1 ≤ t.period ∧ t.period ≤ 1099511627776) (g4 : ¬ 24 < t.roots.length) (g5 : ¬ t.roots.length = 0) (g6 : ¬ t.frm < 1) (g7 : ¬ 1000000 < t.frm) (g8 : t.frm + (t.roots.length : Int) - 1 = t.head.height) (g9 : t.roots.getD (t.roots.length - 1) [] = t.head.root) (g10 : t.roots.any badRoot = false) : CV Try.prog 63 [truA t] (· = .int .i64 (truFault t)) := by
  refine CV_intro tyOk Try.func63 (by kernel_rfl) rfl 80 rfl (by simp) [.tmp 2] rfl ?_
  intro w0 ok0
  unfold TruW HdBW listW at h
  have hml : (t.roots.map byA).length = t.roots.length := by simp
  have c0 := hbFault_cv t.head
  have c1 := setFault_cv t.next (by omega)
  rw [g0] at c0
  have d0 : (!decide ((0 : Int) = 0)) = false := rfl
  rw [g1] at c1
  have c2 := setDigest_cv t.next g1
  have c3 := equal_cv t.head.next (setD t.next)
  obtain ⟨_, hh, _⟩ := hb_zero g0
  have d2 : (!decide (t.head.next = setD t.next)) = false := by rw [decide_eq_true g2]; rfl
  have d3 := rng_t g3
  have d4 : decide ((24 : Int) < ((t.roots.map byA).length : Int)) = false := decide_eq_false (by omega)
  have hv : truFault t = if truOk t then 0 else 1 := by unfold truFault; rw [if_neg (fun k => k g0), if_neg (fun k => k g1), if_neg (fun k => k g2), if_neg (fun k => k g3), if_neg g4]
  rw [hv]
  have d5 : decide (((t.roots.map byA).length : Int) = 0) = false := decide_eq_false (by omega)
  have d6 : decide (t.frm < 1) = false := decide_eq_false g6
  have d7 : decide (1000000 < t.frm) = false := decide_eq_false g7
  have w1 : IntKind.wrap .i64 (t.frm + ((t.roots.map byA).length : Int)) = t.frm + (t.roots.length : Int) := by rw [wrap_i64 (by omega) (by omega)]; omega
  have w2 : IntKind.wrap .i64 (t.frm + (t.roots.length : Int) - 1) = t.frm + (t.roots.length : Int) - 1 := wrap_i64 (by omega) (by omega)
  have d8 : (!decide (t.frm + (t.roots.length : Int) - 1 = t.head.height)) = false := by rw [decide_eq_true g8]; rfl
  have w3 : IntKind.wrap .i64 (((t.roots.map byA).length : Int) - 1) = ((t.roots.length - 1 : Nat) : Int) := by rw [wrap_i64 (by omega) (by omega)]; omega
  have hget := map_getD byA t.roots [] (k := t.roots.length - 1) (by omega)
  have hn1 : t.roots.length - 1 < t.roots.length := by omega
  have c4 := equal_cv (t.roots.getD (t.roots.length - 1) []) t.head.root
  have d9 : (!decide (t.roots.getD (t.roots.length - 1) [] = t.head.root)) = false := by rw [decide_eq_true g9]; rfl
  have c5 := containsRows_cv 144 [] t.roots badRoot inferInstance viewL_nil (by omega) (fun w _ => badRoot_cv w)
  rw [g10] at c5
  rw [if_pos ⟨g5, by omega, g8, g9, g10⟩]
  generalize t.roots.length - 1 = n1 at *
  repeat' (first | refine T_seq ?_ | refine N_then ?_ | refine N_block ?_ | refine T_regX tyOk ?_ | (apply T_drawM (id := 8) 6 tyOk mixed; (· exact rfl); (· exact rfl); (· kernel_rfl); (· exact Nat.le_of_ble_eq_true rfl)) | (apply T_drawM (id := 14) 33 tyOk mixed; (· exact rfl); (· exact rfl); (· kernel_rfl); (· exact Nat.le_of_ble_eq_true rfl)) | refine S_nil ?_ | refine T_skip ?_ | refine T_ret ?_ | refine T_block ?_ | (apply E_tmp; (· exact rfl); (· (repeat' (first | exact pure_int _ _ | exact pure_bool _ | exact pure_str _); done))) | (apply T_ifF; (· exact rfl); (· (first | assumption | exact rfl))) | (apply S_gf; (· exact rfl); (· exact rfl); (· (first | assumption | exact rfl))) | apply S_move | apply S_assign | (apply S_pickF; (· exact gt_any rfl); (· (first | assumption | exact rfl))) | (apply S_loadP; (· exact rfl); (· exact gt_any rfl); (· exact rfl); (· exact rfl); (· exact rfl); (· (first | exact ⟨rfl, rfl⟩ | exact ⟨rfl, trivial⟩ | assumption))) | (apply M_loadA; (· exact rfl); (· exact rfl); (· exact gt_any rfl); (· exact rfl); (· exact rfl); (· (repeat' constructor))) | (apply S_loadV; (· exact rfl); (· exact gt_any rfl); (· exact rfl); (· (first | exact ⟨rfl, rfl⟩ | exact ⟨rfl, trivial⟩ | assumption))) | (apply S_fieldP; (· exact rfl); (· exact rfl); (· exact rfl); (· exact rfl); (· exact gt_any rfl)) | apply S_lss | apply S_gtr | (apply S_eql; (· exact gt_any rfl); (· exact gt_any rfl)) | (apply S_neq; (· exact gt_any rfl); (· exact gt_any rfl)) | apply S_add | apply S_sub | apply S_not | (apply S_len_ls; (· exact rfl); (· exact gt_any rfl)) | apply S_box | (apply S_idxLs; (· exact rfl); (· exact rfl); (· exact gt_any rfl); (· exact gt_any rfl)) | apply S_callQ (f := 139) | apply c0 | apply S_callQ (f := 140) | apply c1 | apply S_call (f := 142) | apply c2 | apply S_callQ (f := 141) | apply c3 | apply c4 | apply S_callQ (f := 143) | apply c5 | apply S_callQ (f := 86) | apply in_cv | exact viewL_nil | apply viewL_cons | (apply View.pure; exact PureC.out) | exact FlatC.out | exact PureLC.out | exact gt_any rfl | exact gts_nil | (apply gts_cons; (· exact gt_any rfl)) | exact okCells_of rfl rfl | assumption | (refine ⟨?_, ?_⟩ <;> omega) | exact rfl | fail)

end Go.Proofs.Ythfikpgbddpmoaa
