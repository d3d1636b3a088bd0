/- Trusts: their faults. -/
import Derived.Test.YthfikpgbddpmoaaZj
import Derived.Test.YthfikpgbddpmoaaRg
set_option maxRecDepth 100000
set_option maxHeartbeats 3200000
set_option linter.unusedSimpArgs false
set_option linter.unusedVariables false
namespace Go.Proofs.Ythfikpgbddpmoaa
open Go.Av
attribute [local irreducible] T thenQ blockQ againQ againS WX retV retR Gt Gts GtsP okCells CV CR Av.Pure
attribute [local irreducible] sha putN setW packL setD

def hbFault (x : HdB) : Int :=
  if rows32 [x.root, x.set, x.next] = false then 1 else if ¬ ((1 ≤ x.height ∧ x.height ≤ 1000000) ∧ (0 ≤ x.time ∧ x.time ≤ 1099511627776)) then 3 else 0
theorem hb_form {x : HdB} (h : rows32 [x.root, x.set, x.next] = false) : hbFault x = 1 := if_pos h
theorem hb_range {x : HdB} (h : rows32 [x.root, x.set, x.next] = true) (h2 : ¬ ((1 ≤ x.height ∧ x.height ≤ 1000000) ∧ (0 ≤ x.time ∧ x.time ≤ 1099511627776))) : hbFault x = 3 := by
  unfold hbFault; rw [if_neg (by rw [h]; decide), if_pos h2]
theorem hb_ok {x : HdB} (h : rows32 [x.root, x.set, x.next] = true) (h2 : (1 ≤ x.height ∧ x.height ≤ 1000000) ∧ (0 ≤ x.time ∧ x.time ≤ 1099511627776)) : hbFault x = 0 := by
  unfold hbFault; rw [if_neg (by rw [h]; decide), if_neg (fun k => k h2)]
theorem hb_zero {x : HdB} (h : hbFault x = 0) : (x.root.length = 32 ∧ x.set.length = 32 ∧ x.next.length = 32) ∧ (1 ≤ x.height ∧ x.height ≤ 1000000) ∧ (0 ≤ x.time ∧ x.time ≤ 1099511627776) := by
  unfold hbFault at h
  split at h
  · cases h
  · split at h
    · cases h
    · rename_i a b
      refine ⟨?_, Classical.not_not.1 b⟩
      unfold rows32 at a
      simpa using a

theorem hbFault_cv (x : HdB) : CV Try.prog 139 [hdbA x] (· = .int .i64 (hbFault x)) := by
  refine CV_intro tyOk Try.func139 (by kernel_rfl) rfl 24 rfl (by simp) [.tmp 2] rfl ?_
  intro w0 ok0
  have c0 := areDigests_cv [x.root, x.set, x.next] (by simp)
  cases g1 : rows32 [x.root, x.set, x.next] with
  | false =>
    rw [g1] at c0
    rw [hb_form g1]
    have d0 : (!false) = true := rfl
    repeat' (first | refine T_seq ?_ | refine N_then ?_ | refine N_thenR ?_ | refine N_blockR ?_ | refine T_regX tyOk ?_ | refine S_nil ?_ | refine T_ret ?_ | refine T_block ?_ | (apply E_tmp; (· exact rfl); (· (repeat' (first | exact pure_int _ _ | exact pure_bool _ | exact pure_str _); done))) | (apply T_ifT; (· exact rfl); (· (first | assumption | exact rfl))) | apply S_assign | (apply S_loadP; (· exact rfl); (· exact gt_any rfl); (· exact rfl); (· exact rfl); (· exact rfl); (· (first | exact ⟨rfl, rfl⟩ | exact ⟨rfl, trivial⟩ | assumption))) | (apply S_fieldP; (· exact rfl); (· exact rfl); (· exact rfl); (· exact rfl); (· exact gt_any rfl)) | apply S_not | apply S_box | (apply S_buildV tyOk; (· exact rfl); (· exact rfl)) | apply S_callQ (f := 114) | apply c0 | exact viewL_nil | apply viewL_cons | exact viewE_nil | apply viewE_one | exact viewE_pure PureEC.out | apply view_lsV | exact FlatC.out | exact gtsI_nil | (apply gtsI_cons; (· exact gt_any rfl)) | exact elts_nil | apply elts_cons | (intro hu; cases hu; done) | exact gt_any rfl | exact gts_nil | (apply gts_cons; (· exact gt_any rfl)) | exact okCells_of rfl rfl | assumption | exact Nat.le_of_ble_eq_true rfl | exact rfl | fail)
  | true =>
    rw [g1] at c0
    have d0 : (!true) = false := rfl
    by_cases g2 : 1 ≤ x.height ∧ x.height ≤ 1000000
    · have d1 := rng_t g2
      by_cases g3 : 0 ≤ x.time ∧ x.time ≤ 1099511627776
      · have d2 := rng_t g3
        rw [hb_ok g1 ⟨g2, g3⟩]
        repeat' (first | refine T_seq ?_ | refine N_then ?_ | refine N_block ?_ | refine T_regX tyOk ?_ | refine S_nil ?_ | refine T_skip ?_ | refine T_ret ?_ | refine T_block ?_ | (apply E_tmp; (· exact rfl); (· (repeat' (first | exact pure_int _ _ | exact pure_bool _ | exact pure_str _); done))) | (apply T_ifF; (· exact rfl); (· (first | assumption | exact rfl))) | (apply S_gf; (· exact rfl); (· exact rfl); (· (first | assumption | exact rfl))) | apply S_move | apply S_assign | (apply S_pickF; (· exact gt_any rfl); (· (first | assumption | exact rfl))) | (apply S_loadP; (· exact rfl); (· exact gt_any rfl); (· exact rfl); (· exact rfl); (· exact rfl); (· (first | exact ⟨rfl, rfl⟩ | exact ⟨rfl, trivial⟩ | assumption))) | (apply S_fieldP; (· exact rfl); (· exact rfl); (· exact rfl); (· exact rfl); (· exact gt_any rfl)) | apply S_not | apply S_box | (apply S_buildV tyOk; (· exact rfl); (· exact rfl)) | apply S_callQ (f := 114) | apply c0 | apply S_callQ (f := 86) | apply in_cv | exact viewL_nil | apply viewL_cons | exact viewE_nil | apply viewE_one | exact viewE_pure PureEC.out | apply view_lsV | (apply View.pure; exact PureC.out) | exact FlatC.out | exact gtsI_nil | (apply gtsI_cons; (· exact gt_any rfl)) | exact elts_nil | apply elts_cons | (intro hu; cases hu; done) | exact gt_any rfl | exact gts_nil | (apply gts_cons; (· exact gt_any rfl)) | exact okCells_of rfl rfl | exact Nat.le_of_ble_eq_true rfl | exact rfl | fail)
      · have d2 := rng_f g3
        rw [hb_range g1 (fun k => g3 k.2)]
        repeat' (first | refine T_seq ?_ | refine N_then ?_ | refine N_thenR ?_ | refine N_blockR ?_ | refine T_regX tyOk ?_ | refine S_nil ?_ | refine T_ret ?_ | refine T_block ?_ | (apply E_tmp; (· exact rfl); (· (repeat' (first | exact pure_int _ _ | exact pure_bool _ | exact pure_str _); done))) | (apply T_ifT; (· exact rfl); (· (first | assumption | exact rfl))) | (apply T_ifF; (· exact rfl); (· (first | assumption | exact rfl))) | (apply S_gf; (· exact rfl); (· exact rfl); (· (first | assumption | exact rfl))) | apply S_move | apply S_assign | (apply S_pickF; (· exact gt_any rfl); (· (first | assumption | exact rfl))) | (apply S_loadP; (· exact rfl); (· exact gt_any rfl); (· exact rfl); (· exact rfl); (· exact rfl); (· (first | exact ⟨rfl, rfl⟩ | exact ⟨rfl, trivial⟩ | assumption))) | (apply S_fieldP; (· exact rfl); (· exact rfl); (· exact rfl); (· exact rfl); (· exact gt_any rfl)) | apply S_not | apply S_box | (apply S_buildV tyOk; (· exact rfl); (· exact rfl)) | apply S_callQ (f := 114) | apply c0 | apply S_callQ (f := 86) | apply in_cv | exact viewL_nil | apply viewL_cons | exact viewE_nil | apply viewE_one | exact viewE_pure PureEC.out | apply view_lsV | (apply View.pure; exact PureC.out) | exact FlatC.out | exact gtsI_nil | (apply gtsI_cons; (· exact gt_any rfl)) | exact elts_nil | apply elts_cons | (intro hu; cases hu; done) | exact gt_any rfl | exact gts_nil | (apply gts_cons; (· exact gt_any rfl)) | exact okCells_of rfl rfl | exact Nat.le_of_ble_eq_true rfl | exact rfl | fail)
    · have d1 := rng_f g2
      rw [hb_range g1 (fun k => g2 k.1)]
      repeat' (first | refine T_seq ?_ | refine N_then ?_ | refine N_thenR ?_ | refine N_blockR ?_ | refine T_regX tyOk ?_ | refine S_nil ?_ | refine T_ret ?_ | refine T_block ?_ | (apply E_tmp; (· exact rfl); (· (repeat' (first | exact pure_int _ _ | exact pure_bool _ | exact pure_str _); done))) | (apply T_ifT; (· exact rfl); (· (first | assumption | exact rfl))) | (apply T_ifF; (· exact rfl); (· (first | assumption | exact rfl))) | (apply S_gfT'; (· exact rfl); (· exact rfl); (· exact rfl); (· (first | assumption | exact rfl))) | apply S_move | apply S_assign | (apply S_pickT; (· exact gt_any rfl); (· (first | assumption | exact rfl))) | (apply S_loadP; (· exact rfl); (· exact gt_any rfl); (· exact rfl); (· exact rfl); (· exact rfl); (· (first | exact ⟨rfl, rfl⟩ | exact ⟨rfl, trivial⟩ | assumption))) | (apply S_fieldP; (· exact rfl); (· exact rfl); (· exact rfl); (· exact rfl); (· exact gt_any rfl)) | apply S_not | apply S_box | (apply S_buildV tyOk; (· exact rfl); (· exact rfl)) | apply S_callQ (f := 114) | apply c0 | apply S_callQ (f := 86) | apply in_cv | exact viewL_nil | apply viewL_cons | exact viewE_nil | apply viewE_one | exact viewE_pure PureEC.out | apply view_lsV | (apply View.pure; exact PureC.out) | exact FlatC.out | exact gtsI_nil | (apply gtsI_cons; (· exact gt_any rfl)) | exact elts_nil | apply elts_cons | (intro hu; cases hu; done) | exact gt_any rfl | exact gts_nil | (apply gts_cons; (· exact gt_any rfl)) | exact okCells_of rfl rfl | exact Nat.le_of_ble_eq_true rfl | exact rfl | fail)

theorem specHbFault_cv (x : HdB) : CV Try.prog 133 [hdbA x] (· = .int .i64 (hbFault x)) := by
  refine CV_intro tyOk Try.func133 (by kernel_rfl) rfl 29 rfl (by simp) [.tmp 2] rfl ?_
  intro w0 ok0
  have l1 := bA_length x.root
  have l2 := bA_length x.set
  have l3 := bA_length x.next
  have hr : rows32 [x.root, x.set, x.next] = (decide (x.root.length = 32) && (decide (x.set.length = 32) && decide (x.next.length = 32))) := by simp [rows32]
  by_cases a1 : x.root.length = 32
  · have b1 : (!decide (((bA x.root).length : Int) = 32)) = false := by rw [decide_eq_true (by omega)]; rfl
    by_cases a2 : x.set.length = 32
    · have b2 : (!decide (((bA x.set).length : Int) = 32)) = false := by rw [decide_eq_true (by omega)]; rfl
      by_cases a3 : x.next.length = 32
      · have b3 : (!decide (((bA x.next).length : Int) = 32)) = false := by rw [decide_eq_true (by omega)]; rfl
        have g1 : rows32 [x.root, x.set, x.next] = true := by rw [hr, decide_eq_true a1, decide_eq_true a2, decide_eq_true a3]; rfl
        by_cases g2 : 1 ≤ x.height ∧ x.height ≤ 1000000
        · have d1 := rng_t g2
          by_cases g3 : 0 ≤ x.time ∧ x.time ≤ 1099511627776
          · have d2 := rng_t g3
            rw [hb_ok g1 ⟨g2, g3⟩]
            repeat' (first | refine T_seq ?_ | refine N_then ?_ | refine T_regX tyOk ?_ | refine S_nil ?_ | refine T_skip ?_ | refine T_ret ?_ | (apply E_tmp; (· exact rfl); (· (repeat' (first | exact pure_int _ _ | exact pure_bool _ | exact pure_str _); done))) | (apply T_ifF; (· exact rfl); (· (first | assumption | exact rfl))) | (apply S_gf; (· exact rfl); (· exact rfl); (· (first | assumption | exact rfl))) | apply S_move | apply S_assign | (apply S_pickF; (· exact gt_any rfl); (· (first | assumption | exact rfl))) | (apply S_loadP; (· exact rfl); (· exact gt_any rfl); (· exact rfl); (· exact rfl); (· exact rfl); (· (first | exact ⟨rfl, rfl⟩ | exact ⟨rfl, trivial⟩ | assumption))) | (apply S_fieldP; (· exact rfl); (· exact rfl); (· exact rfl); (· exact rfl); (· exact gt_any rfl)) | (apply S_neq; (· exact gt_any rfl); (· exact gt_any rfl)) | apply S_not | (apply S_len_ls; (· exact rfl); (· exact gt_any rfl)) | apply S_box | apply S_callQ (f := 88) | apply l1In_cv | exact viewL_nil | apply viewL_cons | (apply View.pure; exact PureC.out) | exact FlatC.out | exact gt_any rfl | exact gts_nil | (apply gts_cons; (· exact gt_any rfl)) | exact okCells_of rfl rfl | exact rfl | fail)
          · have d2 := rng_f g3
            rw [hb_range g1 (fun k => g3 k.2)]
            repeat' (first | refine T_seq ?_ | refine N_then ?_ | refine N_thenR ?_ | refine T_regX tyOk ?_ | refine S_nil ?_ | refine T_skip ?_ | refine T_ret ?_ | (apply E_tmp; (· exact rfl); (· (repeat' (first | exact pure_int _ _ | exact pure_bool _ | exact pure_str _); done))) | (apply T_ifT; (· exact rfl); (· (first | assumption | exact rfl))) | (apply T_ifF; (· exact rfl); (· (first | assumption | exact rfl))) | (apply S_gf; (· exact rfl); (· exact rfl); (· (first | assumption | exact rfl))) | apply S_move | apply S_assign | (apply S_pickF; (· exact gt_any rfl); (· (first | assumption | exact rfl))) | (apply S_loadP; (· exact rfl); (· exact gt_any rfl); (· exact rfl); (· exact rfl); (· exact rfl); (· (first | exact ⟨rfl, rfl⟩ | exact ⟨rfl, trivial⟩ | assumption))) | (apply S_fieldP; (· exact rfl); (· exact rfl); (· exact rfl); (· exact rfl); (· exact gt_any rfl)) | (apply S_neq; (· exact gt_any rfl); (· exact gt_any rfl)) | apply S_not | (apply S_len_ls; (· exact rfl); (· exact gt_any rfl)) | apply S_box | apply S_callQ (f := 88) | apply l1In_cv | exact viewL_nil | apply viewL_cons | (apply View.pure; exact PureC.out) | exact FlatC.out | exact gt_any rfl | exact gts_nil | (apply gts_cons; (· exact gt_any rfl)) | exact okCells_of rfl rfl | exact rfl | fail)
        · have d1 := rng_f g2
          rw [hb_range g1 (fun k => g2 k.1)]
          repeat' (first | refine T_seq ?_ | refine N_then ?_ | refine N_thenR ?_ | refine T_regX tyOk ?_ | refine S_nil ?_ | refine T_skip ?_ | refine T_ret ?_ | (apply E_tmp; (· exact rfl); (· (repeat' (first | exact pure_int _ _ | exact pure_bool _ | exact pure_str _); done))) | (apply T_ifT; (· exact rfl); (· (first | assumption | exact rfl))) | (apply T_ifF; (· exact rfl); (· (first | assumption | exact rfl))) | (apply S_gf; (· exact rfl); (· exact rfl); (· (first | assumption | exact rfl))) | (apply S_gfT'; (· exact rfl); (· exact rfl); (· exact rfl); (· (first | assumption | exact rfl))) | apply S_move | apply S_assign | (apply S_pickT; (· exact gt_any rfl); (· (first | assumption | exact rfl))) | (apply S_pickF; (· exact gt_any rfl); (· (first | assumption | exact rfl))) | (apply S_loadP; (· exact rfl); (· exact gt_any rfl); (· exact rfl); (· exact rfl); (· exact rfl); (· (first | exact ⟨rfl, rfl⟩ | exact ⟨rfl, trivial⟩ | assumption))) | (apply S_fieldP; (· exact rfl); (· exact rfl); (· exact rfl); (· exact rfl); (· exact gt_any rfl)) | (apply S_neq; (· exact gt_any rfl); (· exact gt_any rfl)) | apply S_not | (apply S_len_ls; (· exact rfl); (· exact gt_any rfl)) | apply S_box | apply S_callQ (f := 88) | apply l1In_cv | exact viewL_nil | apply viewL_cons | (apply View.pure; exact PureC.out) | exact FlatC.out | exact gt_any rfl | exact gts_nil | (apply gts_cons; (· exact gt_any rfl)) | exact okCells_of rfl rfl | exact rfl | fail)
      · have b3 : (!decide (((bA x.next).length : Int) = 32)) = true := by rw [decide_eq_false (by omega)]; rfl
        have g1 : rows32 [x.root, x.set, x.next] = false := by rw [hr, decide_eq_false a3]; simp
        rw [hb_form g1]
        repeat' (first | refine T_seq ?_ | refine N_then ?_ | refine N_thenR ?_ | refine T_regX tyOk ?_ | refine S_nil ?_ | refine T_ret ?_ | (apply E_tmp; (· exact rfl); (· (repeat' (first | exact pure_int _ _ | exact pure_bool _ | exact pure_str _); done))) | (apply T_ifT; (· exact rfl); (· (first | assumption | exact rfl))) | (apply S_gf; (· exact rfl); (· exact rfl); (· (first | assumption | exact rfl))) | apply S_move | apply S_assign | (apply S_pickF; (· exact gt_any rfl); (· (first | assumption | exact rfl))) | (apply S_loadP; (· exact rfl); (· exact gt_any rfl); (· exact rfl); (· exact rfl); (· exact rfl); (· (first | exact ⟨rfl, rfl⟩ | exact ⟨rfl, trivial⟩ | assumption))) | (apply S_fieldP; (· exact rfl); (· exact rfl); (· exact rfl); (· exact rfl); (· exact gt_any rfl)) | (apply S_neq; (· exact gt_any rfl); (· exact gt_any rfl)) | (apply S_len_ls; (· exact rfl); (· exact gt_any rfl)) | apply S_box | exact gt_any rfl | exact okCells_of rfl rfl | exact rfl | fail)
    · have b2 : (!decide (((bA x.set).length : Int) = 32)) = true := by rw [decide_eq_false (by omega)]; rfl
      have g1 : rows32 [x.root, x.set, x.next] = false := by rw [hr, decide_eq_false a2]; simp
      rw [hb_form g1]
      repeat' (first | refine T_seq ?_ | refine N_then ?_ | refine N_thenR ?_ | refine T_regX tyOk ?_ | refine S_nil ?_ | refine T_ret ?_ | (apply E_tmp; (· exact rfl); (· (repeat' (first | exact pure_int _ _ | exact pure_bool _ | exact pure_str _); done))) | (apply T_ifT; (· exact rfl); (· (first | assumption | exact rfl))) | (apply S_gf; (· exact rfl); (· exact rfl); (· (first | assumption | exact rfl))) | (apply S_gfT'; (· exact rfl); (· exact rfl); (· exact rfl); (· (first | assumption | exact rfl))) | apply S_move | apply S_assign | (apply S_pickT; (· exact gt_any rfl); (· (first | assumption | exact rfl))) | (apply S_pickF; (· exact gt_any rfl); (· (first | assumption | exact rfl))) | (apply S_loadP; (· exact rfl); (· exact gt_any rfl); (· exact rfl); (· exact rfl); (· exact rfl); (· (first | exact ⟨rfl, rfl⟩ | exact ⟨rfl, trivial⟩ | assumption))) | (apply S_fieldP; (· exact rfl); (· exact rfl); (· exact rfl); (· exact rfl); (· exact gt_any rfl)) | (apply S_neq; (· exact gt_any rfl); (· exact gt_any rfl)) | (apply S_len_ls; (· exact rfl); (· exact gt_any rfl)) | apply S_box | exact gt_any rfl | exact okCells_of rfl rfl | exact rfl | fail)
  · have b1 : (!decide (((bA x.root).length : Int) = 32)) = true := by rw [decide_eq_false (by omega)]; rfl
    have g1 : rows32 [x.root, x.set, x.next] = false := by rw [hr, decide_eq_false a1]; simp
    rw [hb_form g1]
    repeat' (first | refine T_seq ?_ | refine N_then ?_ | refine N_thenR ?_ | refine T_regX tyOk ?_ | refine S_nil ?_ | refine T_ret ?_ | (apply E_tmp; (· exact rfl); (· (repeat' (first | exact pure_int _ _ | exact pure_bool _ | exact pure_str _); done))) | (apply T_ifT; (· exact rfl); (· (first | assumption | exact rfl))) | (apply S_gfT'; (· exact rfl); (· exact rfl); (· exact rfl); (· (first | assumption | exact rfl))) | apply S_move | apply S_assign | (apply S_pickT; (· exact gt_any rfl); (· (first | assumption | exact rfl))) | (apply S_loadP; (· exact rfl); (· exact gt_any rfl); (· exact rfl); (· exact rfl); (· exact rfl); (· (first | exact ⟨rfl, rfl⟩ | exact ⟨rfl, trivial⟩ | assumption))) | (apply S_fieldP; (· exact rfl); (· exact rfl); (· exact rfl); (· exact rfl); (· exact gt_any rfl)) | (apply S_neq; (· exact gt_any rfl); (· exact gt_any rfl)) | (apply S_len_ls; (· exact rfl); (· exact gt_any rfl)) | apply S_box | exact gt_any rfl | exact okCells_of rfl rfl | exact rfl | fail)

def badRoot (w : List UInt8) : Bool := decide (0 < w.length) && !decide (w.length = 32)
def truOk (t : Tru) : Prop := t.roots.length ≠ 0 ∧ 1 ≤ t.frm ∧ t.frm + t.roots.length - 1 = t.head.height ∧ t.roots.getD (t.roots.length - 1) [] = t.head.root ∧ t.roots.any badRoot = false
instance (t : Tru) : Decidable (truOk t) := by unfold truOk; infer_instance
def truFault (t : Tru) : Int :=
  if hbFault t.head ≠ 0 then hbFault t.head else if setFault t.next ≠ 0 then setFault t.next else if t.head.next ≠ setD t.next then 1
  else if ¬ (1 ≤ t.period ∧ t.period ≤ 1099511627776) then 3 else if 24 < t.roots.length then 2 else if truOk t then 0 else 1

theorem badRoot_cv (w : List UInt8) : CV Try.prog 144 [byA w] (· = .bool (badRoot w)) := by
  refine CV_intro tyOk Try.func144 (by kernel_rfl) rfl 11 rfl (by simp) [.tmp 2] rfl ?_
  intro w0 ok0
  have hl := bA_length w
  have c0 := isDigest_cv w
  unfold badRoot
  by_cases h : 0 < w.length
  · have d0 : decide ((0 : Int) < ((bA w).length : Int)) = true := decide_eq_true (by omega)
    rw [decide_eq_true h, Bool.true_and]
    repeat' (first | refine T_seq ?_ | refine N_then ?_ | refine T_regX tyOk ?_ | refine S_nil ?_ | refine T_ret ?_ | (apply E_tmp; (· exact rfl); (· (repeat' (first | exact pure_int _ _ | exact pure_bool _ | exact pure_str _); done))) | (apply S_gt; (· exact rfl); (· exact rfl); (· (first | assumption | exact rfl))) | apply S_move | apply S_assign | (apply S_pickT; (· exact gt_any rfl); (· (first | assumption | exact rfl))) | apply S_gtr | apply S_not | (apply S_len_ls; (· exact rfl); (· exact gt_any rfl)) | apply S_callQ (f := 145) | apply c0 | exact viewL_nil | apply viewL_cons | (apply View.pure; exact PureC.out) | exact FlatC.out | exact gt_any rfl | exact gts_nil | (apply gts_cons; (· exact gt_any rfl)) | exact rfl | fail)
  · have d0 : decide ((0 : Int) < ((bA w).length : Int)) = false := decide_eq_false (by omega)
    rw [decide_eq_false h, Bool.false_and]
    repeat' (first | refine T_seq ?_ | refine N_then ?_ | refine T_regX tyOk ?_ | refine S_nil ?_ | refine T_ret ?_ | (apply E_tmp; (· exact rfl); (· (repeat' (first | exact pure_int _ _ | exact pure_bool _ | exact pure_str _); done))) | (apply S_gtF'; (· exact rfl); (· exact rfl); (· exact rfl); (· (first | assumption | exact rfl))) | apply S_move | apply S_assign | (apply S_pickF; (· exact gt_any rfl); (· (first | assumption | exact rfl))) | apply S_gtr | (apply S_len_ls; (· exact rfl); (· exact gt_any rfl)) | exact gt_any rfl | exact rfl | fail)

end Go.Proofs.Ythfikpgbddpmoaa
