/- By when a relayer has tried so often. -/
import Derived.Test.YtgakkecaflppfaaYa
set_option maxRecDepth 100000
set_option maxHeartbeats 3200000
set_option linter.unusedSimpArgs false
set_option linter.unusedVariables false
namespace Go.Proofs.Ytgakkecaflppfaa
open Go.Av
attribute [local irreducible] T thenQ blockQ againQ againS WX retV retR Gt Gts GtsP okCells CV CR Av.Pure

/-- The waits' powers. -/
def waitN (k : Nat) : Nat := min k 8
def latN (now : Int) : Nat → Int
  | 0 => now
  | k + 1 => latN now k + 2 ^ waitN (k + 1)
theorem wait_le (k : Nat) : (2 : Int) ^ waitN k ≤ 256 ∧ (0 : Int) ≤ 2 ^ waitN k := by
  have : waitN k = 0 ∨ waitN k = 1 ∨ waitN k = 2 ∨ waitN k = 3 ∨ waitN k = 4 ∨ waitN k = 5 ∨ waitN k = 6 ∨ waitN k = 7 ∨ waitN k = 8 := by unfold waitN; omega
  rcases this with e | e | e | e | e | e | e | e | e <;> rw [e] <;> decide
theorem latN_le (now : Int) : ∀ k, now ≤ latN now k ∧ latN now k ≤ now + 256 * k
  | 0 => by simp [latN]
  | k + 1 => by
    have ih := latN_le now k
    have hw := wait_le (k + 1)
    simp only [latN]
    omega

def latOk (now tries : Int) : Bool := (decide (0 ≤ now) && decide (now ≤ 1099511627776)) && (decide (0 ≤ tries) && decide (tries ≤ 20))
def latC (now tries : Int) : Int := if latOk now tries = true then 0 else 3
def latV (now tries : Int) : Int := if latOk now tries = true then latN now tries.toNat else 0

theorem pow_shl (m : Int) (k : Nat) (h : m = (waitN k : Nat)) : IntKind.wrap .i64 (1 * 2 ^ min m.toNat IntKind.i64.bits) = 2 ^ waitN k := by
  subst h
  rw [Int.toNat_natCast]
  have : waitN k = 0 ∨ waitN k = 1 ∨ waitN k = 2 ∨ waitN k = 3 ∨ waitN k = 4 ∨ waitN k = 5 ∨ waitN k = 6 ∨ waitN k = 7 ∨ waitN k = 8 := by unfold waitN; omega
  rcases this with e | e | e | e | e | e | e | e | e <;> rw [e] <;> decide

theorem implLatestBy_cv (now tries : Int) : CV Try.prog 16 [.int .i64 now, .int .i64 tries] (· = .agg [.int .i64 (latC now tries), .int .i64 (latV now tries)]) := by
  refine CV_intro tyOk Try.func16 (by kernel_rfl) rfl 27 rfl (by simp) [.cell 4 23] rfl ?_
  intro w0 ok0
  unfold latC latV latOk
  by_cases h1 : 0 ≤ now ∧ now ≤ 1099511627776
  · have d1 : (!(decide (0 ≤ now) && decide (now ≤ 1099511627776))) = false := by simpa using h1
    by_cases h2 : 0 ≤ tries ∧ tries ≤ 20
    · have d2 : (!(decide (0 ≤ tries) && decide (tries ≤ 20))) = false := by simpa using h2
      rw [if_pos (by simp; omega), if_pos (by simp; omega)]
      repeat' (first | refine T_seq ?_ | refine N_then ?_ | refine T_regX tyOk ?_ | refine S_nil ?_ | refine T_skip ?_ | refine T_block ?_ | (apply T_ifF; (· exact rfl); (· (first | assumption | exact rfl))) | (apply S_gf; (· exact rfl); (· exact rfl); (· (first | assumption | exact rfl))) | apply S_move | apply S_assign | (apply S_pickF; (· exact gt_any rfl); (· (first | assumption | exact rfl))) | apply S_not | apply S_alloc | apply S_callQ (f := 62) | apply in_cv | exact viewL_nil | apply viewL_cons | (apply View.pure; exact PureC.out) | exact FlatC.out | exact gt_any rfl | exact gts_nil | (apply gts_cons; (· exact gt_any rfl)) | exact okCells_of rfl rfl | exact rfl | fail)
      refine T_roundsS (α := Nat) (fun k => ⟨[(0, .int .i64 (latN now k)), (1, .int .i64 tries), (4, .ptr 0 0 0), (5, .int .i64 ((k + 1 : Nat) : Int))], [(0, some ⟨[.agg [.int .i64 0, .int .i64 0]], 2, false, false⟩)], 1⟩)
        (fun k => tries.toNat - k) (fun k => k ≤ tries.toNat) 0 ((weak_of (by repeat' (first | exact keepE_nil | refine keepE_cons rfl ?_)) (by repeat' (first | exact keepB_nil | refine keepB_cons (by first | rfl | exact congrArg (fun l => some (Box.mk l _ _ _)) hset) ?_)) (Nat.le_refl _))).sub (by omega) ?_
      intro k hk
      have hb := latN_le now k
      have hw := wait_le (k + 1)
      by_cases h3 : k < tries.toNat
      · have c1 : decide (((k + 1 : Nat) : Int) ≤ tries) = true := by simp only [decide_eq_true_eq]; omega
        have w1 : IntKind.wrap .i64 (((k + 1 : Nat) : Int) + 1) = ((k + 1 + 1 : Nat) : Int) := by rw [wrap_i64 (by omega) (by omega)]; omega
        have hmin : (if (8 : Int) < ((k + 1 : Nat) : Int) then (8 : Int) else ((k + 1 : Nat) : Int)) = ((waitN (k + 1) : Nat) : Int) := by unfold waitN; split <;> omega
        have hb0 : 0 ≤ (if (8 : Int) < ((k + 1 : Nat) : Int) then (8 : Int) else ((k + 1 : Nat) : Int)) := by split <;> omega
        have p1 := pow_shl _ (k + 1) hmin
        have w2 : IntKind.wrap .i64 (latN now k + 2 ^ waitN (k + 1)) = latN now (k + 1) := by rw [wrap_i64 (by omega) (by omega)]; rfl
        repeat' (first | refine T_seq ?_ | refine N_then ?_ | refine N_block ?_ | refine T_regX tyOk ?_ | refine S_nil ?_ | refine T_skip ?_ | refine T_block ?_ | (apply T_ifT; (· exact rfl); (· (first | assumption | exact rfl))) | apply S_move | apply S_assign | apply S_leq | apply S_add | apply S_min | apply S_shlW | exact gt_any rfl | assumption | exact rfl | fail)
        exact N_againS (k + 1) ((weak_of (by repeat' (first | exact keepE_nil | refine keepE_cons rfl ?_)) (by repeat' (first | exact keepB_nil | refine keepB_cons (by first | rfl | exact congrArg (fun l => some (Box.mk l _ _ _)) hset) ?_)) (Nat.le_refl _))).sub (by omega) (by omega)
      · have c1 : decide (((k + 1 : Nat) : Int) ≤ tries) = false := by simp only [decide_eq_false_iff_not]; omega
        obtain rfl : k = tries.toNat := by omega
        repeat' (first | refine T_seq ?_ | refine N_then ?_ | refine N_thenE ?_ | refine N_blockE ?_ | refine N_againSE ?_ | refine T_regX tyOk ?_ | refine S_nil ?_ | refine T_ret ?_ | refine T_exit ?_ | (apply E_X <;> repeat' (first | exact resL_nil | (apply resL_tmp; (· exact rfl)) | (apply resL_cell; (· exact rfl); (· exact rfl); (· exact rfl); (· exact rfl); (· exact rfl); (· exact rfl)) | (apply resL_arr; (· exact rfl); (· exact rfl); (· exact rfl); (· exact rfl); (· (first | assumption | exact rfl))) | exact viewL_nil | apply viewL_cons | apply view_nothingE | (apply view_slE; (· exact rfl); (· first | exact rfl | assumption | (simp [bA_length]; done) | (simp [bA_length]; omega) | omega); (· exact PureEC.out)) | (apply view_loose; (· exact PureEC.out)) | apply view_agg | apply view_tup | (apply View.ofEq; (· exact PureC.out)) | exact rfl)) | (apply T_ifF; (· exact rfl); (· (first | assumption | exact rfl))) | apply S_move | apply S_leq | (apply S_store1; (· exact rfl); (· exact gt_any rfl); (· exact rfl); (· exact rfl); (· exact rfl); (· exact rfl)) | (apply S_build; (· exact rfl); (· exact rfl); (· exact rfl); (· (repeat' (first | exact gtsP_nil | exact gt_any rfl | apply gtsP_cons))); (· (repeat' (first | exact BuildR.nil _ | (apply BuildR.cons; (· exact rfl); (· exact rfl); (· exact rfl); (· exact rfl); (· (first | nofun | assumption)); (· (repeat' constructor))))))) | exact gt_any rfl | exact okCells_of rfl rfl | exact rfl | fail)
    · have d2 : (!(decide (0 ≤ tries) && decide (tries ≤ 20))) = true := by simp; omega
      rw [if_neg (by simp; omega), if_neg (by simp; omega)]
      repeat' (first | refine T_seq ?_ | refine N_then ?_ | refine N_thenR ?_ | refine T_regX tyOk ?_ | refine S_nil ?_ | refine T_ret ?_ | (apply E_X <;> repeat' (first | exact resL_nil | (apply resL_tmp; (· exact rfl)) | (apply resL_cell; (· exact rfl); (· exact rfl); (· exact rfl); (· exact rfl); (· exact rfl); (· exact rfl)) | (apply resL_arr; (· exact rfl); (· exact rfl); (· exact rfl); (· exact rfl); (· (first | assumption | exact rfl))) | exact viewL_nil | apply viewL_cons | apply view_nothingE | (apply view_slE; (· exact rfl); (· first | exact rfl | assumption | (simp [bA_length]; done) | (simp [bA_length]; omega) | omega); (· exact PureEC.out)) | (apply view_loose; (· exact PureEC.out)) | apply view_agg | apply view_tup | (apply View.ofEq; (· exact PureC.out)) | exact rfl)) | (apply T_ifT; (· exact rfl); (· (first | assumption | exact rfl))) | (apply S_gf; (· exact rfl); (· exact rfl); (· (first | assumption | exact rfl))) | apply S_move | (apply S_pickF; (· exact gt_any rfl); (· (first | assumption | exact rfl))) | apply S_not | apply S_alloc | (apply S_store1; (· exact rfl); (· exact gt_any rfl); (· exact rfl); (· exact rfl); (· exact rfl); (· exact rfl)) | (apply S_build; (· exact rfl); (· exact rfl); (· exact rfl); (· (repeat' (first | exact gtsP_nil | exact gt_any rfl | apply gtsP_cons))); (· (repeat' (first | exact BuildR.nil _ | (apply BuildR.cons; (· exact rfl); (· exact rfl); (· exact rfl); (· exact rfl); (· (first | nofun | assumption)); (· (repeat' constructor))))))) | apply S_callQ (f := 62) | apply in_cv | exact viewL_nil | apply viewL_cons | (apply View.pure; exact PureC.out) | exact FlatC.out | exact gt_any rfl | exact gts_nil | (apply gts_cons; (· exact gt_any rfl)) | exact okCells_of rfl rfl | exact rfl | fail)
  · have d1 : (!(decide (0 ≤ now) && decide (now ≤ 1099511627776))) = true := by simp; omega
    rw [if_neg (by simp; omega), if_neg (by simp; omega)]
    repeat' (first | refine T_seq ?_ | refine N_then ?_ | refine N_thenR ?_ | refine T_regX tyOk ?_ | refine S_nil ?_ | refine T_ret ?_ | (apply E_X <;> repeat' (first | exact resL_nil | (apply resL_tmp; (· exact rfl)) | (apply resL_cell; (· exact rfl); (· exact rfl); (· exact rfl); (· exact rfl); (· exact rfl); (· exact rfl)) | (apply resL_arr; (· exact rfl); (· exact rfl); (· exact rfl); (· exact rfl); (· (first | assumption | exact rfl))) | exact viewL_nil | apply viewL_cons | apply view_nothingE | (apply view_slE; (· exact rfl); (· first | exact rfl | assumption | (simp [bA_length]; done) | (simp [bA_length]; omega) | omega); (· exact PureEC.out)) | (apply view_loose; (· exact PureEC.out)) | apply view_agg | apply view_tup | (apply View.ofEq; (· exact PureC.out)) | exact rfl)) | (apply T_ifT; (· exact rfl); (· (first | assumption | exact rfl))) | (apply S_gfT'; (· exact rfl); (· exact rfl); (· exact rfl); (· (first | assumption | exact rfl))) | apply S_move | (apply S_pickT; (· exact gt_any rfl); (· (first | assumption | exact rfl))) | apply S_not | apply S_alloc | (apply S_store1; (· exact rfl); (· exact gt_any rfl); (· exact rfl); (· exact rfl); (· exact rfl); (· exact rfl)) | (apply S_build; (· exact rfl); (· exact rfl); (· exact rfl); (· (repeat' (first | exact gtsP_nil | exact gt_any rfl | apply gtsP_cons))); (· (repeat' (first | exact BuildR.nil _ | (apply BuildR.cons; (· exact rfl); (· exact rfl); (· exact rfl); (· exact rfl); (· (first | nofun | assumption)); (· (repeat' constructor))))))) | apply S_callQ (f := 62) | apply in_cv | exact viewL_nil | apply viewL_cons | (apply View.pure; exact PureC.out) | exact FlatC.out | exact gt_any rfl | exact gts_nil | (apply gts_cons; (· exact gt_any rfl)) | exact okCells_of rfl rfl | exact rfl | fail)

theorem specLatestBy_cv (now tries : Int) : CV Try.prog 15 [.int .i64 now, .int .i64 tries] (· = .agg [.int .i64 (latC now tries), .int .i64 (latV now tries)]) := by
  refine CV_intro tyOk Try.func15 (by kernel_rfl) rfl 28 rfl (by simp) [.cell 4 23] rfl ?_
  intro w0 ok0
  unfold latC latV latOk
  by_cases h1 : 0 ≤ now ∧ now ≤ 1099511627776
  · have d1 : (!(decide (0 ≤ now) && decide (now ≤ 1099511627776))) = false := by simpa using h1
    by_cases h2 : 0 ≤ tries ∧ tries ≤ 20
    · have d2 : (!(decide (0 ≤ tries) && decide (tries ≤ 20))) = false := by simpa using h2
      rw [if_pos (by simp; omega), if_pos (by simp; omega)]
      repeat' (first | refine T_seq ?_ | refine N_then ?_ | refine T_regX tyOk ?_ | refine S_nil ?_ | refine T_skip ?_ | refine T_block ?_ | (apply T_ifF; (· exact rfl); (· (first | assumption | exact rfl))) | (apply S_gf; (· exact rfl); (· exact rfl); (· (first | assumption | exact rfl))) | apply S_move | apply S_assign | (apply S_pickF; (· exact gt_any rfl); (· (first | assumption | exact rfl))) | apply S_not | apply S_alloc | apply S_callQ (f := 60) | apply l1In_cv | exact viewL_nil | apply viewL_cons | (apply View.pure; exact PureC.out) | exact FlatC.out | exact gt_any rfl | exact gts_nil | (apply gts_cons; (· exact gt_any rfl)) | exact okCells_of rfl rfl | exact rfl | fail)
      refine T_roundsS (α := Nat) (fun k => ⟨[(0, .int .i64 (latN now k)), (1, .int .i64 tries), (4, .ptr 0 0 0), (5, .int .i64 ((k + 1 : Nat) : Int))], [(0, some ⟨[.agg [.int .i64 0, .int .i64 0]], 2, false, false⟩)], 1⟩)
        (fun k => tries.toNat - k) (fun k => k ≤ tries.toNat) 0 ((weak_of (by repeat' (first | exact keepE_nil | refine keepE_cons rfl ?_)) (by repeat' (first | exact keepB_nil | refine keepB_cons (by first | rfl | exact congrArg (fun l => some (Box.mk l _ _ _)) hset) ?_)) (Nat.le_refl _))).sub (by omega) ?_
      intro k hk
      have hb := latN_le now k
      have hw := wait_le (k + 1)
      by_cases h3 : k < tries.toNat
      · have c1 : decide (((k + 1 : Nat) : Int) ≤ tries) = true := by simp only [decide_eq_true_eq]; omega
        have w1 : IntKind.wrap .i64 (((k + 1 : Nat) : Int) + 1) = ((k + 1 + 1 : Nat) : Int) := by rw [wrap_i64 (by omega) (by omega)]; omega
        have hmin : (if (8 : Int) < ((k + 1 : Nat) : Int) then (8 : Int) else ((k + 1 : Nat) : Int)) = ((waitN (k + 1) : Nat) : Int) := by unfold waitN; split <;> omega
        have c0 := l1Min_cv 8 ((k + 1 : Nat) : Int)
        rw [hmin] at c0
        have w3 : IntKind.wrap .u64 ((waitN (k + 1) : Nat) : Int) = ((waitN (k + 1) : Nat) : Int) := by
          have : waitN (k + 1) ≤ 8 := by unfold waitN; omega
          exact wrap_u64 (by omega) (by omega)
        have p1 := pow_shl _ (k + 1) (rfl : ((waitN (k + 1) : Nat) : Int) = _)
        have w2 : IntKind.wrap .i64 (latN now k + 2 ^ waitN (k + 1)) = latN now (k + 1) := by rw [wrap_i64 (by omega) (by omega)]; rfl
        repeat' (first | refine T_seq ?_ | refine N_then ?_ | refine N_block ?_ | refine T_regX tyOk ?_ | refine S_nil ?_ | refine T_skip ?_ | refine T_block ?_ | (apply T_ifT; (· exact rfl); (· (first | assumption | exact rfl))) | apply S_move | apply S_assign | apply S_leq | apply S_add | (apply S_conv; (· exact rfl); (· exact rfl); (· exact gt_any rfl)) | apply S_shlW | apply S_callQ (f := 61) | apply c0 | exact viewL_nil | apply viewL_cons | (apply View.pure; exact PureC.out) | exact FlatC.out | exact gt_any rfl | exact gts_nil | (apply gts_cons; (· exact gt_any rfl)) | assumption | omega | exact rfl | fail)
        exact N_againS (k + 1) ((weak_of (by repeat' (first | exact keepE_nil | refine keepE_cons rfl ?_)) (by repeat' (first | exact keepB_nil | refine keepB_cons (by first | rfl | exact congrArg (fun l => some (Box.mk l _ _ _)) hset) ?_)) (Nat.le_refl _))).sub (by omega) (by omega)
      · have c1 : decide (((k + 1 : Nat) : Int) ≤ tries) = false := by simp only [decide_eq_false_iff_not]; omega
        obtain rfl : k = tries.toNat := by omega
        repeat' (first | refine T_seq ?_ | refine N_then ?_ | refine N_thenE ?_ | refine N_blockE ?_ | refine N_againSE ?_ | refine T_regX tyOk ?_ | refine S_nil ?_ | refine T_ret ?_ | refine T_exit ?_ | (apply E_X <;> repeat' (first | exact resL_nil | (apply resL_tmp; (· exact rfl)) | (apply resL_cell; (· exact rfl); (· exact rfl); (· exact rfl); (· exact rfl); (· exact rfl); (· exact rfl)) | (apply resL_arr; (· exact rfl); (· exact rfl); (· exact rfl); (· exact rfl); (· (first | assumption | exact rfl))) | exact viewL_nil | apply viewL_cons | apply view_nothingE | (apply view_slE; (· exact rfl); (· first | exact rfl | assumption | (simp [bA_length]; done) | (simp [bA_length]; omega) | omega); (· exact PureEC.out)) | (apply view_loose; (· exact PureEC.out)) | apply view_agg | apply view_tup | (apply View.ofEq; (· exact PureC.out)) | exact rfl)) | (apply T_ifF; (· exact rfl); (· (first | assumption | exact rfl))) | apply S_move | apply S_leq | (apply S_store1; (· exact rfl); (· exact gt_any rfl); (· exact rfl); (· exact rfl); (· exact rfl); (· exact rfl)) | (apply S_build; (· exact rfl); (· exact rfl); (· exact rfl); (· (repeat' (first | exact gtsP_nil | exact gt_any rfl | apply gtsP_cons))); (· (repeat' (first | exact BuildR.nil _ | (apply BuildR.cons; (· exact rfl); (· exact rfl); (· exact rfl); (· exact rfl); (· (first | nofun | assumption)); (· (repeat' constructor))))))) | exact gt_any rfl | exact okCells_of rfl rfl | exact rfl | fail)
    · have d2 : (!(decide (0 ≤ tries) && decide (tries ≤ 20))) = true := by simp; omega
      rw [if_neg (by simp; omega), if_neg (by simp; omega)]
      repeat' (first | refine T_seq ?_ | refine N_then ?_ | refine N_thenR ?_ | refine T_regX tyOk ?_ | refine S_nil ?_ | refine T_ret ?_ | (apply E_X <;> repeat' (first | exact resL_nil | (apply resL_tmp; (· exact rfl)) | (apply resL_cell; (· exact rfl); (· exact rfl); (· exact rfl); (· exact rfl); (· exact rfl); (· exact rfl)) | (apply resL_arr; (· exact rfl); (· exact rfl); (· exact rfl); (· exact rfl); (· (first | assumption | exact rfl))) | exact viewL_nil | apply viewL_cons | apply view_nothingE | (apply view_slE; (· exact rfl); (· first | exact rfl | assumption | (simp [bA_length]; done) | (simp [bA_length]; omega) | omega); (· exact PureEC.out)) | (apply view_loose; (· exact PureEC.out)) | apply view_agg | apply view_tup | (apply View.ofEq; (· exact PureC.out)) | exact rfl)) | (apply T_ifT; (· exact rfl); (· (first | assumption | exact rfl))) | (apply S_gf; (· exact rfl); (· exact rfl); (· (first | assumption | exact rfl))) | apply S_move | (apply S_pickF; (· exact gt_any rfl); (· (first | assumption | exact rfl))) | apply S_not | apply S_alloc | (apply S_store1; (· exact rfl); (· exact gt_any rfl); (· exact rfl); (· exact rfl); (· exact rfl); (· exact rfl)) | (apply S_build; (· exact rfl); (· exact rfl); (· exact rfl); (· (repeat' (first | exact gtsP_nil | exact gt_any rfl | apply gtsP_cons))); (· (repeat' (first | exact BuildR.nil _ | (apply BuildR.cons; (· exact rfl); (· exact rfl); (· exact rfl); (· exact rfl); (· (first | nofun | assumption)); (· (repeat' constructor))))))) | apply S_callQ (f := 60) | apply l1In_cv | exact viewL_nil | apply viewL_cons | (apply View.pure; exact PureC.out) | exact FlatC.out | exact gt_any rfl | exact gts_nil | (apply gts_cons; (· exact gt_any rfl)) | exact okCells_of rfl rfl | exact rfl | fail)
  · have d1 : (!(decide (0 ≤ now) && decide (now ≤ 1099511627776))) = true := by simp; omega
    rw [if_neg (by simp; omega), if_neg (by simp; omega)]
    repeat' (first | refine T_seq ?_ | refine N_then ?_ | refine N_thenR ?_ | refine T_regX tyOk ?_ | refine S_nil ?_ | refine T_ret ?_ | (apply E_X <;> repeat' (first | exact resL_nil | (apply resL_tmp; (· exact rfl)) | (apply resL_cell; (· exact rfl); (· exact rfl); (· exact rfl); (· exact rfl); (· exact rfl); (· exact rfl)) | (apply resL_arr; (· exact rfl); (· exact rfl); (· exact rfl); (· exact rfl); (· (first | assumption | exact rfl))) | exact viewL_nil | apply viewL_cons | apply view_nothingE | (apply view_slE; (· exact rfl); (· first | exact rfl | assumption | (simp [bA_length]; done) | (simp [bA_length]; omega) | omega); (· exact PureEC.out)) | (apply view_loose; (· exact PureEC.out)) | apply view_agg | apply view_tup | (apply View.ofEq; (· exact PureC.out)) | exact rfl)) | (apply T_ifT; (· exact rfl); (· (first | assumption | exact rfl))) | (apply S_gfT'; (· exact rfl); (· exact rfl); (· exact rfl); (· (first | assumption | exact rfl))) | apply S_move | (apply S_pickT; (· exact gt_any rfl); (· (first | assumption | exact rfl))) | apply S_not | apply S_alloc | (apply S_store1; (· exact rfl); (· exact gt_any rfl); (· exact rfl); (· exact rfl); (· exact rfl); (· exact rfl)) | (apply S_build; (· exact rfl); (· exact rfl); (· exact rfl); (· (repeat' (first | exact gtsP_nil | exact gt_any rfl | apply gtsP_cons))); (· (repeat' (first | exact BuildR.nil _ | (apply BuildR.cons; (· exact rfl); (· exact rfl); (· exact rfl); (· exact rfl); (· (first | nofun | assumption)); (· (repeat' constructor))))))) | apply S_callQ (f := 60) | apply l1In_cv | exact viewL_nil | apply viewL_cons | (apply View.pure; exact PureC.out) | exact FlatC.out | exact gt_any rfl | exact gts_nil | (apply gts_cons; (· exact gt_any rfl)) | exact okCells_of rfl rfl | exact rfl | fail)

theorem drawLatestBy_cv (code : List UInt8) (hc : code.length ≤ 1073741824) : CV Try.prog 44 [sl1 (bA code)] (· = .tup [.int .i64 (pickV code 1 [nextV code 0 60, 0, 1099511627776, 1099511627777, -1]), .int .i64 (pickV code 3 [nextV code 2 21, 0, 1, 20, 21, -1])]) := by
  refine CV_intro tyOk Try.func44 (by kernel_rfl) rfl 17 rfl (by simp) [.tmp 2, .tmp 3] rfl ?_
  intro w0 ok0
  have c1 := fun (id N : Nat) (hid : id < N) => l1Next_at code 0 60 (by decide) hc id N hid
  have c2 := fun (id N : Nat) (hid : id < N) => l1Pick_at code 1 [nextV code 0 60, 0, 1099511627776, 1099511627777, -1] false true (by decide) hc (by simp) (by simp) id N hid
  have c3 := fun (id N : Nat) (hid : id < N) => l1Next_at code 2 21 (by decide) hc id N hid
  have c4 := fun (id N : Nat) (hid : id < N) => l1Pick_at code 3 [nextV code 2 21, 0, 1, 20, 21, -1] false true (by decide) hc (by simp) (by simp) id N hid
  have c0 := fun N => l1Source_cr code N
  repeat' (first | refine T_seq ?_ | refine N_then ?_ | refine T_regX tyOk ?_ | refine S_nil ?_ | refine T_ret ?_ | (apply E_X <;> repeat' (first | exact resL_nil | (apply resL_tmp; (· exact rfl)) | (apply resL_cell; (· exact rfl); (· exact rfl); (· exact rfl); (· exact rfl); (· exact rfl); (· exact rfl)) | (apply resL_arr; (· exact rfl); (· exact rfl); (· exact rfl); (· exact rfl); (· (first | assumption | exact rfl))) | exact viewL_nil | apply viewL_cons | apply view_nothingE | (apply view_slE; (· exact rfl); (· first | exact rfl | assumption | (simp [bA_length]; done) | (simp [bA_length]; omega) | omega); (· exact PureEC.out)) | (apply view_loose; (· exact PureEC.out)) | apply view_agg | apply view_tup | (apply View.ofEq; (· exact PureC.out)) | exact rfl)) | apply S_move | apply S_assign | (apply S_buildV tyOk; (· exact rfl); (· exact rfl)) | (apply S_callL ([]) (f := 85); (· repeat' (first | exact gts_nil | exact gt_any rfl | apply gts_cons)); (· exact rfl); (· (apply c0) <;> first | assumption | decide | omega)) | (apply S_callL ([0]) (f := 87); (· repeat' (first | exact gts_nil | exact gt_any rfl | apply gts_cons)); (· exact rfl); (· (apply c1) <;> first | assumption | decide | omega)) | (apply S_callL ([0]) (f := 86); (· repeat' (first | exact gts_nil | exact gt_any rfl | apply gts_cons)); (· exact rfl); (· (apply c2) <;> first | assumption | decide | omega)) | (apply S_callL ([0]) (f := 87); (· repeat' (first | exact gts_nil | exact gt_any rfl | apply gts_cons)); (· exact rfl); (· (apply c3) <;> first | assumption | decide | omega)) | (apply S_callL ([0]) (f := 86); (· repeat' (first | exact gts_nil | exact gt_any rfl | apply gts_cons)); (· exact rfl); (· (apply c4) <;> first | assumption | decide | omega)) | exact gtsI_nil | (apply gtsI_cons; (· exact gt_any rfl)) | exact elts_nil | apply elts_cons | (intro hu; cases hu; done) | exact gt_any rfl | exact okCells_of rfl rfl | exact Nat.le_of_ble_eq_true rfl | exact rfl | fail)

theorem lwBig_cv (code : List UInt8) : CV Try.prog 43 [sl1 (bA code)] (· = .bool (decide (1048576 < code.length))) := by
  refine CV_intro tyOk Try.func43 (by kernel_rfl) rfl 6 rfl (by simp) [.tmp 2] rfl ?_
  intro w0 ok0
  have hl := bA_length code
  have e : decide (1048576 < code.length) = decide ((1048576 : Int) < ((bA code).length : Int)) := by
    by_cases h : 1048576 < code.length
    · rw [decide_eq_true h, decide_eq_true (by omega)]
    · rw [decide_eq_false h, decide_eq_false (by omega)]
  rw [e]
  repeat' (first | refine T_seq ?_ | refine N_then ?_ | refine T_regX tyOk ?_ | refine S_nil ?_ | refine T_ret ?_ | (apply E_tmp; (· exact rfl); (· (repeat' (first | exact pure_int _ _ | exact pure_bool _ | exact pure_str _); done))) | apply S_move | apply S_assign | apply S_gtr | (apply S_len_ls; (· exact rfl); (· exact gt_any rfl)) | exact gt_any rfl | exact rfl | fail)

end Go.Proofs.Ytgakkecaflppfaa
