/- Trusts: their faults by the specification; events checked against them. -/
import Derived.Test.YthfikpgbddpmoaaZkb
set_option maxRecDepth 100000
set_option maxHeartbeats 3200000
set_option linter.unusedSimpArgs false
set_option linter.unusedVariables false
namespace Go.Proofs.Ythfikpgbddpmoaa
open Go.Av
attribute [local irreducible] T thenQ blockQ againQ againS WX retV retR Gt Gts GtsP okCells CV CR Av.Pure
attribute [local irreducible] sha putN setW packL setD

theorem badRoot_eq (w : List UInt8) : badRoot w = ((!decide (w.length = 32)) && !decide (w.length = 0)) := by
  unfold badRoot
  by_cases h : w.length = 0
  · rw [decide_eq_true h, decide_eq_false (by omega)]; simp
  · rw [decide_eq_false h, decide_eq_true (by omega : 0 < w.length)]; simp

theorem specTruFault_8 (t : Tru) (h : TruW t ≤ 1048576) (g0 : hbFault t.head = 0) (g1 : setFault t.next = 0) (g2 : t.head.next = setD t.next) (g3 : 1 ≤ t.period ∧ t.period ≤ 1099511627776) (g4 : ¬ 24 < t.roots.length) (g5 : ¬ t.roots.length = 0) (g6 : ¬ t.frm < 1) (g7 : ¬ t.head.height < t.frm) (g8 : t.frm + (t.roots.length : Int) - 1 = t.head.height) : CV Try.prog 61 [truA t] (· = .int .i64 (truFault t)) := by
  refine CV_intro tyOk Try.func61 (by kernel_rfl) rfl 94 rfl (by simp) [.tmp 2] rfl ?_
  intro w0 ok0
  have hkb : ∀ v ∈ t.next, v.key.length ≤ 1048576 := fun v hv => by
    have h1 := listW_mem VldW t.next hv
    unfold TruW at h
    have h2 : VldW v = v.key.length := rfl
    omega
  have hrb : ∀ k, (t.roots.getD k []).length ≤ 1048576 := fun k => by
    by_cases hk : k < t.roots.length
    · have h1 := listW_mem List.length t.roots (getD_mem t.roots [] hk)
      unfold TruW at h
      omega
    · rw [List.getD_eq_getElem?_getD, List.getElem?_eq_none (by omega)]; simp
  unfold TruW HdBW listW at h
  have hml : (t.roots.map byA).length = t.roots.length := by simp
  have c0 := specHbFault_cv t.head
  have c1 := specSetFault_cv t.next (by omega) hkb
  rw [g0] at c0
  have d0 : (!decide ((0 : Int) = 0)) = false := rfl
  rw [g1] at c1
  have c2 := l7Digest_cv t.next g1
  have hsd := setD_length t.next
  have c3 := same_cv t.head.next (setD t.next) (by omega) (by omega)
  obtain ⟨_, hh, _⟩ := hb_zero g0
  have d2 : (!decide (t.head.next = setD t.next)) = false := by rw [decide_eq_true g2]; rfl
  have d3 := rng_t g3
  have d4 : decide ((24 : Int) < ((t.roots.map byA).length : Int)) = false := decide_eq_false (by omega)
  have hv : truFault t = if truOk t then 0 else 1 := by unfold truFault; rw [if_neg (fun k => k g0), if_neg (fun k => k g1), if_neg (fun k => k g2), if_neg (fun k => k g3), if_neg g4]
  rw [hv]
  have d5 : decide (((t.roots.map byA).length : Int) = 0) = false := decide_eq_false (by omega)
  have d6 : decide (t.frm < 1) = false := decide_eq_false g6
  have d7 : decide (t.head.height < t.frm) = false := decide_eq_false g7
  have w1 : IntKind.wrap .i64 (t.frm + ((t.roots.map byA).length : Int)) = t.frm + (t.roots.length : Int) := by rw [wrap_i64 (by omega) (by omega)]; omega
  have w2 : IntKind.wrap .i64 (t.frm + (t.roots.length : Int) - 1) = t.frm + (t.roots.length : Int) - 1 := wrap_i64 (by omega) (by omega)
  have d8 : (!decide (t.frm + (t.roots.length : Int) - 1 = t.head.height)) = false := by rw [decide_eq_true g8]; rfl
  repeat' (first | refine T_seq ?_ | refine N_then ?_ | refine T_regX tyOk ?_ | (apply T_drawM (id := 7) 6 tyOk mixed; (· exact rfl); (· exact rfl); (· kernel_rfl); (· exact Nat.le_of_ble_eq_true rfl)) | refine S_nil ?_ | refine T_skip ?_ | refine T_block ?_ | (apply T_ifF; (· exact rfl); (· (first | assumption | exact rfl))) | (apply S_gf; (· exact rfl); (· exact rfl); (· (first | assumption | exact rfl))) | apply S_move | apply S_assign | (apply S_pickF; (· exact gt_any rfl); (· (first | assumption | exact rfl))) | (apply S_loadP; (· exact rfl); (· exact gt_any rfl); (· exact rfl); (· exact rfl); (· exact rfl); (· (first | exact ⟨rfl, rfl⟩ | exact ⟨rfl, trivial⟩ | assumption))) | (apply M_loadA; (· exact rfl); (· exact rfl); (· exact gt_any rfl); (· exact rfl); (· exact rfl); (· (repeat' constructor))) | (apply S_fieldP; (· exact rfl); (· exact rfl); (· exact rfl); (· exact rfl); (· exact gt_any rfl)) | apply S_lss | apply S_gtr | (apply S_eql; (· exact gt_any rfl); (· exact gt_any rfl)) | (apply S_neq; (· exact gt_any rfl); (· exact gt_any rfl)) | apply S_add | apply S_sub | apply S_not | (apply S_len_ls; (· exact rfl); (· exact gt_any rfl)) | apply S_box | apply S_callQ (f := 133) | apply c0 | apply S_callQ (f := 134) | apply c1 | apply S_call (f := 136) | apply c2 | apply S_callQ (f := 135) | apply c3 | apply S_callQ (f := 88) | apply l1In_cv | exact viewL_nil | apply viewL_cons | (apply View.pure; exact PureC.out) | exact FlatC.out | exact PureLC.out | exact gt_any rfl | exact gts_nil | (apply gts_cons; (· exact gt_any rfl)) | exact okCells_of rfl rfl | assumption | exact rfl | fail)
  refine T_roundsS (α := Nat) (fun k => ⟨[(1, .ptr 0 0 0), (5, .int .i64 (t.roots.map byA).length), (6, .int .i64 k)], [(0, some ⟨[truA t], 10, false, false⟩)], 1⟩)
    (fun k => t.roots.length - k) (fun k => k ≤ t.roots.length ∧ t.roots.any badRoot = (t.roots.drop k).any badRoot) 0 ((weak_of (by repeat' (first | exact keepE_nil | refine keepE_cons rfl ?_)) (by repeat' (first | exact keepB_nil | refine keepB_cons (by first | rfl | exact congrArg (fun l => some (Box.mk l _ _ _)) hset) ?_)) (Nat.le_refl _))).sub ⟨by omega, rfl⟩ ?_
  rintro k ⟨hk, hI⟩
  by_cases hkl : k < t.roots.length
  · have d9 : decide ((k : Int) < ((t.roots.map byA).length : Int)) = true := decide_eq_true (by omega)
    have hget := map_getD byA t.roots [] (k := k) (by omega)
    have hst := any_step badRoot t.roots [] hkl
    rw [badRoot_eq] at hst
    have hbl := bA_length (t.roots.getD k [])
    have hw : IntKind.wrap .i64 ((k : Int) + 1) = ((k + 1 : Nat) : Int) := by rw [wrap_i64 (by omega) (by omega)]; omega
    by_cases a1 : (t.roots.getD k []).length = 32
    · have b1 : (!decide (((bA (t.roots.getD k [])).length : Int) = 32)) = false := by rw [decide_eq_true (by omega)]; rfl
      rw [decide_eq_true a1] at hst
      generalize t.roots.getD k [] = q at *
      repeat' (first | refine T_seq ?_ | refine N_then ?_ | refine N_block ?_ | refine T_regX tyOk ?_ | refine S_nil ?_ | refine T_skip ?_ | refine T_block ?_ | (apply T_ifT; (· exact rfl); (· (first | assumption | exact rfl))) | (apply T_ifF; (· exact rfl); (· (first | assumption | exact rfl))) | (apply S_gtF'; (· exact rfl); (· exact rfl); (· exact rfl); (· (first | assumption | exact rfl))) | apply S_move | apply S_assign | (apply S_pickF; (· exact gt_any rfl); (· (first | assumption | exact rfl))) | (apply S_loadP; (· exact rfl); (· exact gt_any rfl); (· exact rfl); (· exact rfl); (· exact rfl); (· (first | exact ⟨rfl, rfl⟩ | exact ⟨rfl, trivial⟩ | assumption))) | (apply S_loadV; (· exact rfl); (· exact gt_any rfl); (· exact rfl); (· (first | exact ⟨rfl, rfl⟩ | exact ⟨rfl, trivial⟩ | assumption))) | (apply S_fieldP; (· exact rfl); (· exact rfl); (· exact rfl); (· exact rfl); (· exact gt_any rfl)) | apply S_lss | (apply S_neq; (· exact gt_any rfl); (· exact gt_any rfl)) | apply S_add | (apply S_len_ls; (· exact rfl); (· exact gt_any rfl)) | (apply S_idxLs; (· exact rfl); (· exact rfl); (· exact gt_any rfl); (· exact gt_any rfl)) | exact gt_any rfl | assumption | (refine ⟨?_, ?_⟩ <;> omega) | exact rfl | fail)
      exact N_againS (k + 1) ((weak_of (by repeat' (first | exact keepE_nil | refine keepE_cons rfl ?_)) (by repeat' (first | exact keepB_nil | refine keepB_cons (by first | rfl | exact congrArg (fun l => some (Box.mk l _ _ _)) hset) ?_)) (Nat.le_refl _))).sub ⟨by omega, hI.trans hst⟩ (by omega)
    · have b1 : (!decide (((bA (t.roots.getD k [])).length : Int) = 32)) = true := by rw [decide_eq_false (by omega)]; rfl
      rw [decide_eq_false a1] at hst
      by_cases a2 : (t.roots.getD k []).length = 0
      · have b2 : (!decide (((bA (t.roots.getD k [])).length : Int) = 0)) = false := by rw [decide_eq_true (by omega)]; rfl
        rw [decide_eq_true a2] at hst
        generalize t.roots.getD k [] = q at *
        repeat' (first | refine T_seq ?_ | refine N_then ?_ | refine N_block ?_ | refine T_regX tyOk ?_ | refine S_nil ?_ | refine T_skip ?_ | refine T_block ?_ | (apply T_ifT; (· exact rfl); (· (first | assumption | exact rfl))) | (apply T_ifF; (· exact rfl); (· (first | assumption | exact rfl))) | (apply S_gt; (· exact rfl); (· exact rfl); (· (first | assumption | exact rfl))) | apply S_move | apply S_assign | (apply S_pickT; (· exact gt_any rfl); (· (first | assumption | exact rfl))) | (apply S_loadP; (· exact rfl); (· exact gt_any rfl); (· exact rfl); (· exact rfl); (· exact rfl); (· (first | exact ⟨rfl, rfl⟩ | exact ⟨rfl, trivial⟩ | assumption))) | (apply S_loadV; (· exact rfl); (· exact gt_any rfl); (· exact rfl); (· (first | exact ⟨rfl, rfl⟩ | exact ⟨rfl, trivial⟩ | assumption))) | (apply S_fieldP; (· exact rfl); (· exact rfl); (· exact rfl); (· exact rfl); (· exact gt_any rfl)) | apply S_lss | (apply S_neq; (· exact gt_any rfl); (· exact gt_any rfl)) | apply S_add | (apply S_len_ls; (· exact rfl); (· exact gt_any rfl)) | (apply S_idxLs; (· exact rfl); (· exact rfl); (· exact gt_any rfl); (· exact gt_any rfl)) | exact gt_any rfl | assumption | (refine ⟨?_, ?_⟩ <;> omega) | exact rfl | fail)
        exact N_againS (k + 1) ((weak_of (by repeat' (first | exact keepE_nil | refine keepE_cons rfl ?_)) (by repeat' (first | exact keepB_nil | refine keepB_cons (by first | rfl | exact congrArg (fun l => some (Box.mk l _ _ _)) hset) ?_)) (Nat.le_refl _))).sub ⟨by omega, hI.trans hst⟩ (by omega)
      · have b2 : (!decide (((bA (t.roots.getD k [])).length : Int) = 0)) = true := by rw [decide_eq_false (by omega)]; rfl
        rw [decide_eq_false a2] at hst
        have hbad : t.roots.any badRoot = true := by rw [hI, hst]; rfl
        rw [if_neg (fun k => by have := k.2.2.2.2; rw [hbad] at this; cases this)]
        generalize t.roots.getD k [] = q at *
        repeat' (first | refine T_seq ?_ | refine N_then ?_ | refine N_thenR ?_ | refine N_blockR ?_ | refine N_againSR ?_ | refine T_regX tyOk ?_ | refine S_nil ?_ | refine T_skip ?_ | refine T_ret ?_ | refine T_block ?_ | (apply E_tmp; (· exact rfl); (· (repeat' (first | exact pure_int _ _ | exact pure_bool _ | exact pure_str _); done))) | (apply T_ifT; (· exact rfl); (· (first | assumption | exact rfl))) | (apply S_gt; (· exact rfl); (· exact rfl); (· (first | assumption | exact rfl))) | apply S_move | apply S_assign | (apply S_pickT; (· exact gt_any rfl); (· (first | assumption | exact rfl))) | (apply S_loadP; (· exact rfl); (· exact gt_any rfl); (· exact rfl); (· exact rfl); (· exact rfl); (· (first | exact ⟨rfl, rfl⟩ | exact ⟨rfl, trivial⟩ | assumption))) | (apply S_loadV; (· exact rfl); (· exact gt_any rfl); (· exact rfl); (· (first | exact ⟨rfl, rfl⟩ | exact ⟨rfl, trivial⟩ | assumption))) | (apply S_fieldP; (· exact rfl); (· exact rfl); (· exact rfl); (· exact rfl); (· exact gt_any rfl)) | apply S_lss | (apply S_neq; (· exact gt_any rfl); (· exact gt_any rfl)) | (apply S_len_ls; (· exact rfl); (· exact gt_any rfl)) | (apply S_idxLs; (· exact rfl); (· exact rfl); (· exact gt_any rfl); (· exact gt_any rfl)) | exact gt_any rfl | assumption | (refine ⟨?_, ?_⟩ <;> omega) | exact rfl | fail)
  · have d9 : decide ((k : Int) < ((t.roots.map byA).length : Int)) = false := decide_eq_false (by omega)
    have hgood : t.roots.any badRoot = false := by rw [hI, List.drop_of_length_le (by omega)]; rfl
    have w3 : IntKind.wrap .i64 (((t.roots.map byA).length : Int) - 1) = ((t.roots.length - 1 : Nat) : Int) := by rw [wrap_i64 (by omega) (by omega)]; omega
    have hget := map_getD byA t.roots [] (k := t.roots.length - 1) (by omega)
    have hn1 : t.roots.length - 1 < t.roots.length := by omega
    have hr1 := hrb (t.roots.length - 1)
    have c4 := same_cv (t.roots.getD (t.roots.length - 1) []) t.head.root (by omega) (by omega)
    by_cases g9 : t.roots.getD (t.roots.length - 1) [] = t.head.root
    · have e9 : (!decide (t.roots.getD (t.roots.length - 1) [] = t.head.root)) = false := by rw [decide_eq_true g9]; rfl
      rw [if_pos ⟨g5, by omega, g8, g9, hgood⟩]
      generalize t.roots.length - 1 = n1 at *
      repeat' (first | refine T_seq ?_ | refine N_then ?_ | refine N_thenE ?_ | refine N_blockE ?_ | refine N_againSE ?_ | refine T_regX tyOk ?_ | (apply T_drawM (id := 21) 9 tyOk mixed; (· exact rfl); (· exact rfl); (· kernel_rfl); (· exact Nat.le_of_ble_eq_true rfl)) | refine S_nil ?_ | refine T_skip ?_ | refine T_ret ?_ | refine T_exit ?_ | (apply E_tmp; (· exact rfl); (· (repeat' (first | exact pure_int _ _ | exact pure_bool _ | exact pure_str _); done))) | (apply T_ifF; (· exact rfl); (· (first | assumption | exact rfl))) | apply S_move | apply S_assign | (apply S_loadP; (· exact rfl); (· exact gt_any rfl); (· exact rfl); (· exact rfl); (· exact rfl); (· (first | exact ⟨rfl, rfl⟩ | exact ⟨rfl, trivial⟩ | assumption))) | (apply S_loadV; (· exact rfl); (· exact gt_any rfl); (· exact rfl); (· (first | exact ⟨rfl, rfl⟩ | exact ⟨rfl, trivial⟩ | assumption))) | (apply S_fieldP; (· exact rfl); (· exact rfl); (· exact rfl); (· exact rfl); (· exact gt_any rfl)) | apply S_lss | apply S_sub | apply S_not | (apply S_idxLs; (· exact rfl); (· exact rfl); (· exact gt_any rfl); (· exact gt_any rfl)) | apply S_callQ (f := 135) | apply c4 | exact viewL_nil | apply viewL_cons | (apply View.pure; exact PureC.out) | exact FlatC.out | exact gt_any rfl | exact gts_nil | (apply gts_cons; (· exact gt_any rfl)) | assumption | (refine ⟨?_, ?_⟩ <;> omega) | exact rfl | fail)
    · have e9 : (!decide (t.roots.getD (t.roots.length - 1) [] = t.head.root)) = true := by rw [decide_eq_false g9]; rfl
      rw [if_neg (fun k => g9 k.2.2.2.1)]
      generalize t.roots.length - 1 = n1 at *
      repeat' (first | refine T_seq ?_ | refine N_then ?_ | refine N_thenR ?_ | refine N_thenE ?_ | refine N_blockE ?_ | refine N_againSE ?_ | refine T_regX tyOk ?_ | (apply T_drawM (id := 21) 9 tyOk mixed; (· exact rfl); (· exact rfl); (· kernel_rfl); (· exact Nat.le_of_ble_eq_true rfl)) | refine S_nil ?_ | refine T_ret ?_ | refine T_exit ?_ | (apply E_tmp; (· exact rfl); (· (repeat' (first | exact pure_int _ _ | exact pure_bool _ | exact pure_str _); done))) | (apply T_ifT; (· exact rfl); (· (first | assumption | exact rfl))) | (apply T_ifF; (· exact rfl); (· (first | assumption | exact rfl))) | apply S_move | apply S_assign | (apply S_loadP; (· exact rfl); (· exact gt_any rfl); (· exact rfl); (· exact rfl); (· exact rfl); (· (first | exact ⟨rfl, rfl⟩ | exact ⟨rfl, trivial⟩ | assumption))) | (apply S_loadV; (· exact rfl); (· exact gt_any rfl); (· exact rfl); (· (first | exact ⟨rfl, rfl⟩ | exact ⟨rfl, trivial⟩ | assumption))) | (apply S_fieldP; (· exact rfl); (· exact rfl); (· exact rfl); (· exact rfl); (· exact gt_any rfl)) | apply S_lss | apply S_sub | apply S_not | (apply S_idxLs; (· exact rfl); (· exact rfl); (· exact gt_any rfl); (· exact gt_any rfl)) | apply S_callQ (f := 135) | apply c4 | exact viewL_nil | apply viewL_cons | (apply View.pure; exact PureC.out) | exact FlatC.out | exact gt_any rfl | exact gts_nil | (apply gts_cons; (· exact gt_any rfl)) | assumption | (refine ⟨?_, ?_⟩ <;> omega) | exact rfl | fail)

theorem specTruFault_cv (t : Tru) (h : TruW t ≤ 1048576) : CV Try.prog 61 [truA t] (· = .int .i64 (truFault t)) := by
  have h' := h
  have hkb : ∀ v ∈ t.next, v.key.length ≤ 1048576 := fun v hv => by
    have h1 := listW_mem VldW t.next hv
    unfold TruW at h
    have h2 : VldW v = v.key.length := rfl
    omega
  have hrb : ∀ k, (t.roots.getD k []).length ≤ 1048576 := fun k => by
    by_cases hk : k < t.roots.length
    · have h1 := listW_mem List.length t.roots (getD_mem t.roots [] hk)
      unfold TruW at h
      omega
    · rw [List.getD_eq_getElem?_getD, List.getElem?_eq_none (by omega)]; simp
  unfold TruW HdBW listW at h
  have hml : (t.roots.map byA).length = t.roots.length := by simp
  have c0 := specHbFault_cv t.head
  have c1 := specSetFault_cv t.next (by omega) hkb
  by_cases g0 : hbFault t.head = 0
  · rw [g0] at c0
    have d0 : (!decide ((0 : Int) = 0)) = false := rfl
    by_cases g1 : setFault t.next = 0
    · rw [g1] at c1
      have c2 := l7Digest_cv t.next g1
      have hsd := setD_length t.next
      have c3 := same_cv t.head.next (setD t.next) (by omega) (by omega)
      obtain ⟨_, hh, _⟩ := hb_zero g0
      by_cases g2 : t.head.next = setD t.next
      · have d2 : (!decide (t.head.next = setD t.next)) = false := by rw [decide_eq_true g2]; rfl
        by_cases g3 : 1 ≤ t.period ∧ t.period ≤ 1099511627776
        · have d3 := rng_t g3
          by_cases g4 : 24 < t.roots.length
          · have d4 : decide ((24 : Int) < ((t.roots.map byA).length : Int)) = true := decide_eq_true (by omega)
            have hv : truFault t = 2 := by unfold truFault; rw [if_neg (fun k => k g0), if_neg (fun k => k g1), if_neg (fun k => k g2), if_neg (fun k => k g3), if_pos g4]
            rw [hv]
            refine CV_intro tyOk Try.func61 (by kernel_rfl) rfl 94 rfl (by simp) [.tmp 2] rfl ?_
            intro w0 ok0
            repeat' (first | refine T_seq ?_ | refine N_then ?_ | refine N_thenR ?_ | refine T_regX tyOk ?_ | (apply T_drawM (id := 7) 6 tyOk mixed; (· exact rfl); (· exact rfl); (· kernel_rfl); (· exact Nat.le_of_ble_eq_true rfl)) | refine S_nil ?_ | refine T_skip ?_ | refine T_ret ?_ | (apply E_tmp; (· exact rfl); (· (repeat' (first | exact pure_int _ _ | exact pure_bool _ | exact pure_str _); done))) | (apply T_ifT; (· exact rfl); (· (first | assumption | exact rfl))) | (apply T_ifF; (· exact rfl); (· (first | assumption | exact rfl))) | apply S_move | apply S_assign | (apply S_loadP; (· exact rfl); (· exact gt_any rfl); (· exact rfl); (· exact rfl); (· exact rfl); (· (first | exact ⟨rfl, rfl⟩ | exact ⟨rfl, trivial⟩ | assumption))) | (apply M_loadA; (· exact rfl); (· exact rfl); (· exact gt_any rfl); (· exact rfl); (· exact rfl); (· (repeat' constructor))) | (apply S_fieldP; (· exact rfl); (· exact rfl); (· exact rfl); (· exact rfl); (· exact gt_any rfl)) | apply S_gtr | (apply S_neq; (· exact gt_any rfl); (· exact gt_any rfl)) | apply S_not | (apply S_len_ls; (· exact rfl); (· exact gt_any rfl)) | apply S_box | apply S_callQ (f := 133) | apply c0 | apply S_callQ (f := 134) | apply c1 | apply S_call (f := 136) | apply c2 | apply S_callQ (f := 135) | apply c3 | apply S_callQ (f := 88) | apply l1In_cv | exact viewL_nil | apply viewL_cons | (apply View.pure; exact PureC.out) | exact FlatC.out | exact PureLC.out | exact gt_any rfl | exact gts_nil | (apply gts_cons; (· exact gt_any rfl)) | exact okCells_of rfl rfl | exact rfl | fail)
          have d4 : decide ((24 : Int) < ((t.roots.map byA).length : Int)) = false := decide_eq_false (by omega)
          have hv : truFault t = if truOk t then 0 else 1 := by unfold truFault; rw [if_neg (fun k => k g0), if_neg (fun k => k g1), if_neg (fun k => k g2), if_neg (fun k => k g3), if_neg g4]
          by_cases g5 : t.roots.length = 0
          · have d5 : decide (((t.roots.map byA).length : Int) = 0) = true := decide_eq_true (by omega)
            rw [hv, if_neg (fun k => k.1 g5)]
            refine CV_intro tyOk Try.func61 (by kernel_rfl) rfl 94 rfl (by simp) [.tmp 2] rfl ?_
            intro w0 ok0
            repeat' (first | refine T_seq ?_ | refine N_then ?_ | refine N_thenR ?_ | refine T_regX tyOk ?_ | (apply T_drawM (id := 7) 6 tyOk mixed; (· exact rfl); (· exact rfl); (· kernel_rfl); (· exact Nat.le_of_ble_eq_true rfl)) | refine S_nil ?_ | refine T_skip ?_ | refine T_ret ?_ | (apply E_tmp; (· exact rfl); (· (repeat' (first | exact pure_int _ _ | exact pure_bool _ | exact pure_str _); done))) | (apply T_ifT; (· exact rfl); (· (first | assumption | exact rfl))) | (apply T_ifF; (· exact rfl); (· (first | assumption | exact rfl))) | (apply S_gfT'; (· exact rfl); (· exact rfl); (· exact rfl); (· (first | assumption | exact rfl))) | apply S_move | apply S_assign | (apply S_pickT; (· exact gt_any rfl); (· (first | assumption | exact rfl))) | (apply S_loadP; (· exact rfl); (· exact gt_any rfl); (· exact rfl); (· exact rfl); (· exact rfl); (· (first | exact ⟨rfl, rfl⟩ | exact ⟨rfl, trivial⟩ | assumption))) | (apply M_loadA; (· exact rfl); (· exact rfl); (· exact gt_any rfl); (· exact rfl); (· exact rfl); (· (repeat' constructor))) | (apply S_fieldP; (· exact rfl); (· exact rfl); (· exact rfl); (· exact rfl); (· exact gt_any rfl)) | apply S_gtr | (apply S_eql; (· exact gt_any rfl); (· exact gt_any rfl)) | (apply S_neq; (· exact gt_any rfl); (· exact gt_any rfl)) | apply S_not | (apply S_len_ls; (· exact rfl); (· exact gt_any rfl)) | apply S_box | apply S_callQ (f := 133) | apply c0 | apply S_callQ (f := 134) | apply c1 | apply S_call (f := 136) | apply c2 | apply S_callQ (f := 135) | apply c3 | apply S_callQ (f := 88) | apply l1In_cv | exact viewL_nil | apply viewL_cons | (apply View.pure; exact PureC.out) | exact FlatC.out | exact PureLC.out | exact gt_any rfl | exact gts_nil | (apply gts_cons; (· exact gt_any rfl)) | exact okCells_of rfl rfl | exact rfl | fail)
          have d5 : decide (((t.roots.map byA).length : Int) = 0) = false := decide_eq_false (by omega)
          by_cases g6 : t.frm < 1
          · have d6 : decide (t.frm < 1) = true := decide_eq_true g6
            rw [hv, if_neg (fun k => by have := k.2.1; omega)]
            refine CV_intro tyOk Try.func61 (by kernel_rfl) rfl 94 rfl (by simp) [.tmp 2] rfl ?_
            intro w0 ok0
            repeat' (first | refine T_seq ?_ | refine N_then ?_ | refine N_thenR ?_ | refine T_regX tyOk ?_ | (apply T_drawM (id := 7) 6 tyOk mixed; (· exact rfl); (· exact rfl); (· kernel_rfl); (· exact Nat.le_of_ble_eq_true rfl)) | refine S_nil ?_ | refine T_skip ?_ | refine T_ret ?_ | (apply E_tmp; (· exact rfl); (· (repeat' (first | exact pure_int _ _ | exact pure_bool _ | exact pure_str _); done))) | (apply T_ifT; (· exact rfl); (· (first | assumption | exact rfl))) | (apply T_ifF; (· exact rfl); (· (first | assumption | exact rfl))) | (apply S_gf; (· exact rfl); (· exact rfl); (· (first | assumption | exact rfl))) | (apply S_gfT'; (· exact rfl); (· exact rfl); (· exact rfl); (· (first | assumption | exact rfl))) | apply S_move | apply S_assign | (apply S_pickT; (· exact gt_any rfl); (· (first | assumption | exact rfl))) | (apply S_pickF; (· exact gt_any rfl); (· (first | assumption | exact rfl))) | (apply S_loadP; (· exact rfl); (· exact gt_any rfl); (· exact rfl); (· exact rfl); (· exact rfl); (· (first | exact ⟨rfl, rfl⟩ | exact ⟨rfl, trivial⟩ | assumption))) | (apply M_loadA; (· exact rfl); (· exact rfl); (· exact gt_any rfl); (· exact rfl); (· exact rfl); (· (repeat' constructor))) | (apply S_fieldP; (· exact rfl); (· exact rfl); (· exact rfl); (· exact rfl); (· exact gt_any rfl)) | apply S_lss | apply S_gtr | (apply S_eql; (· exact gt_any rfl); (· exact gt_any rfl)) | (apply S_neq; (· exact gt_any rfl); (· exact gt_any rfl)) | apply S_not | (apply S_len_ls; (· exact rfl); (· exact gt_any rfl)) | apply S_box | apply S_callQ (f := 133) | apply c0 | apply S_callQ (f := 134) | apply c1 | apply S_call (f := 136) | apply c2 | apply S_callQ (f := 135) | apply c3 | apply S_callQ (f := 88) | apply l1In_cv | exact viewL_nil | apply viewL_cons | (apply View.pure; exact PureC.out) | exact FlatC.out | exact PureLC.out | exact gt_any rfl | exact gts_nil | (apply gts_cons; (· exact gt_any rfl)) | exact okCells_of rfl rfl | exact rfl | fail)
          have d6 : decide (t.frm < 1) = false := decide_eq_false g6
          by_cases g7 : t.head.height < t.frm
          · have d7 : decide (t.head.height < t.frm) = true := decide_eq_true g7
            rw [hv, if_neg (fun k => by have := k.2.2.1; omega)]
            refine CV_intro tyOk Try.func61 (by kernel_rfl) rfl 94 rfl (by simp) [.tmp 2] rfl ?_
            intro w0 ok0
            repeat' (first | refine T_seq ?_ | refine N_then ?_ | refine N_thenR ?_ | refine T_regX tyOk ?_ | (apply T_drawM (id := 7) 6 tyOk mixed; (· exact rfl); (· exact rfl); (· kernel_rfl); (· exact Nat.le_of_ble_eq_true rfl)) | refine S_nil ?_ | refine T_skip ?_ | refine T_ret ?_ | (apply E_tmp; (· exact rfl); (· (repeat' (first | exact pure_int _ _ | exact pure_bool _ | exact pure_str _); done))) | (apply T_ifT; (· exact rfl); (· (first | assumption | exact rfl))) | (apply T_ifF; (· exact rfl); (· (first | assumption | exact rfl))) | (apply S_gf; (· exact rfl); (· exact rfl); (· (first | assumption | exact rfl))) | (apply S_gfT'; (· exact rfl); (· exact rfl); (· exact rfl); (· (first | assumption | exact rfl))) | apply S_move | apply S_assign | (apply S_pickT; (· exact gt_any rfl); (· (first | assumption | exact rfl))) | (apply S_pickF; (· exact gt_any rfl); (· (first | assumption | exact rfl))) | (apply S_loadP; (· exact rfl); (· exact gt_any rfl); (· exact rfl); (· exact rfl); (· exact rfl); (· (first | exact ⟨rfl, rfl⟩ | exact ⟨rfl, trivial⟩ | assumption))) | (apply M_loadA; (· exact rfl); (· exact rfl); (· exact gt_any rfl); (· exact rfl); (· exact rfl); (· (repeat' constructor))) | (apply S_fieldP; (· exact rfl); (· exact rfl); (· exact rfl); (· exact rfl); (· exact gt_any rfl)) | apply S_lss | apply S_gtr | (apply S_eql; (· exact gt_any rfl); (· exact gt_any rfl)) | (apply S_neq; (· exact gt_any rfl); (· exact gt_any rfl)) | apply S_not | (apply S_len_ls; (· exact rfl); (· exact gt_any rfl)) | apply S_box | apply S_callQ (f := 133) | apply c0 | apply S_callQ (f := 134) | apply c1 | apply S_call (f := 136) | apply c2 | apply S_callQ (f := 135) | apply c3 | apply S_callQ (f := 88) | apply l1In_cv | exact viewL_nil | apply viewL_cons | (apply View.pure; exact PureC.out) | exact FlatC.out | exact PureLC.out | exact gt_any rfl | exact gts_nil | (apply gts_cons; (· exact gt_any rfl)) | exact okCells_of rfl rfl | exact rfl | fail)
          have d7 : decide (t.head.height < t.frm) = false := decide_eq_false g7
          have w1 : IntKind.wrap .i64 (t.frm + ((t.roots.map byA).length : Int)) = t.frm + (t.roots.length : Int) := by rw [wrap_i64 (by omega) (by omega)]; omega
          have w2 : IntKind.wrap .i64 (t.frm + (t.roots.length : Int) - 1) = t.frm + (t.roots.length : Int) - 1 := wrap_i64 (by omega) (by omega)
          by_cases g8 : t.frm + (t.roots.length : Int) - 1 = t.head.height
          · exact specTruFault_8 t h' g0 g1 g2 g3 g4 g5 g6 g7 g8
          · have d8 : (!decide (t.frm + (t.roots.length : Int) - 1 = t.head.height)) = true := by rw [decide_eq_false g8]; rfl
            rw [hv, if_neg (fun k => g8 k.2.2.1)]
            refine CV_intro tyOk Try.func61 (by kernel_rfl) rfl 94 rfl (by simp) [.tmp 2] rfl ?_
            intro w0 ok0
            repeat' (first | refine T_seq ?_ | refine N_then ?_ | refine N_thenR ?_ | refine T_regX tyOk ?_ | (apply T_drawM (id := 7) 6 tyOk mixed; (· exact rfl); (· exact rfl); (· kernel_rfl); (· exact Nat.le_of_ble_eq_true rfl)) | refine S_nil ?_ | refine T_skip ?_ | refine T_ret ?_ | (apply E_tmp; (· exact rfl); (· (repeat' (first | exact pure_int _ _ | exact pure_bool _ | exact pure_str _); done))) | (apply T_ifT; (· exact rfl); (· (first | assumption | exact rfl))) | (apply T_ifF; (· exact rfl); (· (first | assumption | exact rfl))) | (apply S_gf; (· exact rfl); (· exact rfl); (· (first | assumption | exact rfl))) | apply S_move | apply S_assign | (apply S_pickF; (· exact gt_any rfl); (· (first | assumption | exact rfl))) | (apply S_loadP; (· exact rfl); (· exact gt_any rfl); (· exact rfl); (· exact rfl); (· exact rfl); (· (first | exact ⟨rfl, rfl⟩ | exact ⟨rfl, trivial⟩ | assumption))) | (apply M_loadA; (· exact rfl); (· exact rfl); (· exact gt_any rfl); (· exact rfl); (· exact rfl); (· (repeat' constructor))) | (apply S_fieldP; (· exact rfl); (· exact rfl); (· exact rfl); (· exact rfl); (· exact gt_any rfl)) | apply S_lss | apply S_gtr | (apply S_eql; (· exact gt_any rfl); (· exact gt_any rfl)) | (apply S_neq; (· exact gt_any rfl); (· exact gt_any rfl)) | apply S_add | apply S_sub | apply S_not | (apply S_len_ls; (· exact rfl); (· exact gt_any rfl)) | apply S_box | apply S_callQ (f := 133) | apply c0 | apply S_callQ (f := 134) | apply c1 | apply S_call (f := 136) | apply c2 | apply S_callQ (f := 135) | apply c3 | apply S_callQ (f := 88) | apply l1In_cv | exact viewL_nil | apply viewL_cons | (apply View.pure; exact PureC.out) | exact FlatC.out | exact PureLC.out | exact gt_any rfl | exact gts_nil | (apply gts_cons; (· exact gt_any rfl)) | exact okCells_of rfl rfl | assumption | exact rfl | fail)
        · have d3 := rng_f g3
          have hv : truFault t = 3 := by unfold truFault; rw [if_neg (fun k => k g0), if_neg (fun k => k g1), if_neg (fun k => k g2), if_pos g3]
          rw [hv]
          refine CV_intro tyOk Try.func61 (by kernel_rfl) rfl 94 rfl (by simp) [.tmp 2] rfl ?_
          intro w0 ok0
          repeat' (first | refine T_seq ?_ | refine N_then ?_ | refine N_thenR ?_ | refine T_regX tyOk ?_ | (apply T_drawM (id := 7) 6 tyOk mixed; (· exact rfl); (· exact rfl); (· kernel_rfl); (· exact Nat.le_of_ble_eq_true rfl)) | refine S_nil ?_ | refine T_skip ?_ | refine T_ret ?_ | (apply E_tmp; (· exact rfl); (· (repeat' (first | exact pure_int _ _ | exact pure_bool _ | exact pure_str _); done))) | (apply T_ifT; (· exact rfl); (· (first | assumption | exact rfl))) | (apply T_ifF; (· exact rfl); (· (first | assumption | exact rfl))) | apply S_move | apply S_assign | (apply S_loadP; (· exact rfl); (· exact gt_any rfl); (· exact rfl); (· exact rfl); (· exact rfl); (· (first | exact ⟨rfl, rfl⟩ | exact ⟨rfl, trivial⟩ | assumption))) | (apply M_loadA; (· exact rfl); (· exact rfl); (· exact gt_any rfl); (· exact rfl); (· exact rfl); (· (repeat' constructor))) | (apply S_fieldP; (· exact rfl); (· exact rfl); (· exact rfl); (· exact rfl); (· exact gt_any rfl)) | (apply S_neq; (· exact gt_any rfl); (· exact gt_any rfl)) | apply S_not | apply S_box | apply S_callQ (f := 133) | apply c0 | apply S_callQ (f := 134) | apply c1 | apply S_call (f := 136) | apply c2 | apply S_callQ (f := 135) | apply c3 | apply S_callQ (f := 88) | apply l1In_cv | exact viewL_nil | apply viewL_cons | (apply View.pure; exact PureC.out) | exact FlatC.out | exact PureLC.out | exact gt_any rfl | exact gts_nil | (apply gts_cons; (· exact gt_any rfl)) | exact okCells_of rfl rfl | exact rfl | fail)
      · have d2 : (!decide (t.head.next = setD t.next)) = true := by rw [decide_eq_false g2]; rfl
        have hv : truFault t = 1 := by unfold truFault; rw [if_neg (fun k => k g0), if_neg (fun k => k g1), if_pos g2]
        rw [hv]
        refine CV_intro tyOk Try.func61 (by kernel_rfl) rfl 94 rfl (by simp) [.tmp 2] rfl ?_
        intro w0 ok0
        repeat' (first | refine T_seq ?_ | refine N_then ?_ | refine N_thenR ?_ | refine T_regX tyOk ?_ | (apply T_drawM (id := 7) 6 tyOk mixed; (· exact rfl); (· exact rfl); (· kernel_rfl); (· exact Nat.le_of_ble_eq_true rfl)) | refine S_nil ?_ | refine T_skip ?_ | refine T_ret ?_ | (apply E_tmp; (· exact rfl); (· (repeat' (first | exact pure_int _ _ | exact pure_bool _ | exact pure_str _); done))) | (apply T_ifT; (· exact rfl); (· (first | assumption | exact rfl))) | (apply T_ifF; (· exact rfl); (· (first | assumption | exact rfl))) | apply S_move | apply S_assign | (apply S_loadP; (· exact rfl); (· exact gt_any rfl); (· exact rfl); (· exact rfl); (· exact rfl); (· (first | exact ⟨rfl, rfl⟩ | exact ⟨rfl, trivial⟩ | assumption))) | (apply M_loadA; (· exact rfl); (· exact rfl); (· exact gt_any rfl); (· exact rfl); (· exact rfl); (· (repeat' constructor))) | (apply S_fieldP; (· exact rfl); (· exact rfl); (· exact rfl); (· exact rfl); (· exact gt_any rfl)) | (apply S_neq; (· exact gt_any rfl); (· exact gt_any rfl)) | apply S_not | apply S_box | apply S_callQ (f := 133) | apply c0 | apply S_callQ (f := 134) | apply c1 | apply S_call (f := 136) | apply c2 | apply S_callQ (f := 135) | apply c3 | exact viewL_nil | apply viewL_cons | (apply View.pure; exact PureC.out) | exact FlatC.out | exact PureLC.out | exact gt_any rfl | exact gts_nil | (apply gts_cons; (· exact gt_any rfl)) | exact okCells_of rfl rfl | exact rfl | fail)
    · have d1 : (!decide (setFault t.next = 0)) = true := by rw [decide_eq_false g1]; rfl
      have hv : truFault t = setFault t.next := by unfold truFault; rw [if_neg (fun k => k g0), if_pos g1]
      rw [hv]
      refine CV_intro tyOk Try.func61 (by kernel_rfl) rfl 94 rfl (by simp) [.tmp 2] rfl ?_
      intro w0 ok0
      repeat' (first | refine T_seq ?_ | refine N_then ?_ | refine N_thenR ?_ | refine T_regX tyOk ?_ | refine S_nil ?_ | refine T_skip ?_ | refine T_ret ?_ | (apply E_tmp; (· exact rfl); (· (repeat' (first | exact pure_int _ _ | exact pure_bool _ | exact pure_str _); done))) | (apply T_ifT; (· exact rfl); (· (first | assumption | exact rfl))) | (apply T_ifF; (· exact rfl); (· (first | assumption | exact rfl))) | apply S_move | apply S_assign | (apply S_loadP; (· exact rfl); (· exact gt_any rfl); (· exact rfl); (· exact rfl); (· exact rfl); (· (first | exact ⟨rfl, rfl⟩ | exact ⟨rfl, trivial⟩ | assumption))) | (apply M_loadA; (· exact rfl); (· exact rfl); (· exact gt_any rfl); (· exact rfl); (· exact rfl); (· (repeat' constructor))) | (apply S_fieldP; (· exact rfl); (· exact rfl); (· exact rfl); (· exact rfl); (· exact gt_any rfl)) | (apply S_neq; (· exact gt_any rfl); (· exact gt_any rfl)) | apply S_box | apply S_callQ (f := 133) | apply c0 | apply S_callQ (f := 134) | apply c1 | exact viewL_nil | apply viewL_cons | (apply View.pure; exact PureC.out) | exact FlatC.out | exact gt_any rfl | exact gts_nil | (apply gts_cons; (· exact gt_any rfl)) | exact okCells_of rfl rfl | exact rfl | fail)
  · have d0 : (!decide (hbFault t.head = 0)) = true := by rw [decide_eq_false g0]; rfl
    have hv : truFault t = hbFault t.head := by unfold truFault; rw [if_pos g0]
    rw [hv]
    refine CV_intro tyOk Try.func61 (by kernel_rfl) rfl 94 rfl (by simp) [.tmp 2] rfl ?_
    intro w0 ok0
    repeat' (first | refine T_seq ?_ | refine N_then ?_ | refine N_thenR ?_ | refine T_regX tyOk ?_ | refine S_nil ?_ | refine T_ret ?_ | (apply E_tmp; (· exact rfl); (· (repeat' (first | exact pure_int _ _ | exact pure_bool _ | exact pure_str _); done))) | (apply T_ifT; (· exact rfl); (· (first | assumption | exact rfl))) | apply S_move | apply S_assign | (apply M_loadA; (· exact rfl); (· exact rfl); (· exact gt_any rfl); (· exact rfl); (· exact rfl); (· (repeat' constructor))) | (apply S_fieldP; (· exact rfl); (· exact rfl); (· exact rfl); (· exact rfl); (· exact gt_any rfl)) | (apply S_neq; (· exact gt_any rfl); (· exact gt_any rfl)) | apply S_box | apply S_callQ (f := 133) | apply c0 | exact viewL_nil | apply viewL_cons | (apply View.pure; exact PureC.out) | exact FlatC.out | exact gt_any rfl | exact gts_nil | (apply gts_cons; (· exact gt_any rfl)) | exact okCells_of rfl rfl | exact rfl | fail)

end Go.Proofs.Ythfikpgbddpmoaa
