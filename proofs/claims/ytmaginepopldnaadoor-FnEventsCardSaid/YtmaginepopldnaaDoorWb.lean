/- Ranges, kinds, and the seven bytes of a number. -/
import Derived.Test.YtmaginepopldnaaDoorWa
set_option maxRecDepth 100000
set_option maxHeartbeats 3200000
set_option linter.unusedSimpArgs false
set_option linter.unusedVariables false
namespace Go.Proofs.YtmaginepopldnaaDoor
open Go.Av
attribute [local irreducible] T thenQ blockQ againQ againS WX retV retR Gt Gts GtsP okCells CV CR Av.Pure

theorem in_cv (n lo hi : Int) : CV Tryd.prog 29 [.int .i64 n, .int .i64 lo, .int .i64 hi] (· = .bool (decide (lo ≤ n) && decide (n ≤ hi))) := by
  refine CV_intro tyOk Tryd.func29 (by kernel_rfl) rfl 15 rfl (by simp) [.tmp 6] rfl ?_
  intro w0 ok0
  repeat' (first | refine T_seq ?_ | refine N_then ?_ | refine T_regX tyOk ?_ | refine S_nil ?_ | refine T_ret ?_ | (apply E_tmp; (· exact rfl); (· (repeat' (first | exact pure_int _ _ | exact pure_bool _ | exact pure_str _); done))) | (apply S_gt; (· exact rfl); (· exact rfl); (· (first | assumption | exact rfl))) | (apply S_gtF'; (· exact rfl); (· exact rfl); (· exact rfl); (· (first | assumption | exact rfl))) | refine S_gsplit rfl rfl (fun _ => ?_) (fun _ => ?_) | apply S_move | apply S_assign | (apply S_pickT; (· exact gt_any rfl); (· (first | assumption | exact rfl))) | (apply S_pickF; (· exact gt_any rfl); (· (first | assumption | exact rfl))) | apply S_leq | exact gt_any rfl | exact rfl | fail)
  all_goals (first | rfl | (simp_all; done) | (simp_all; omega))

theorem l1In_cv (n lo hi : Int) : CV Tryd.prog 26 [.int .i64 n, .int .i64 lo, .int .i64 hi] (· = .bool (decide (lo ≤ n) && decide (n ≤ hi))) := by
  refine CV_intro tyOk Tryd.func26 (by kernel_rfl) rfl 15 rfl (by simp) [.tmp 6] rfl ?_
  intro w0 ok0
  repeat' (first | refine T_seq ?_ | refine N_then ?_ | refine T_regX tyOk ?_ | refine S_nil ?_ | refine T_ret ?_ | (apply E_tmp; (· exact rfl); (· (repeat' (first | exact pure_int _ _ | exact pure_bool _ | exact pure_str _); done))) | (apply S_gt; (· exact rfl); (· exact rfl); (· (first | assumption | exact rfl))) | (apply S_gtF'; (· exact rfl); (· exact rfl); (· exact rfl); (· (first | assumption | exact rfl))) | refine S_gsplit rfl rfl (fun _ => ?_) (fun _ => ?_) | apply S_move | apply S_assign | (apply S_pickT; (· exact gt_any rfl); (· (first | assumption | exact rfl))) | (apply S_pickF; (· exact gt_any rfl); (· (first | assumption | exact rfl))) | apply S_leq | apply S_geq | exact gt_any rfl | exact rfl | fail)
  all_goals (first | rfl | (simp_all; done) | (simp_all; omega))

def isKind (k : Int) : Bool := decide (k = 1) || decide (k = 2)

theorem l9Kind_cv (k : Int) : CV Tryd.prog 25 [.int .i64 k] (· = .bool (isKind k)) := by
  refine CV_intro tyOk Tryd.func25 (by kernel_rfl) rfl 9 rfl (by simp) [.tmp 2] rfl ?_
  intro w0 ok0
  repeat' (first | refine T_seq ?_ | refine N_then ?_ | refine T_regX tyOk ?_ | refine S_nil ?_ | refine T_ret ?_ | (apply E_tmp; (· exact rfl); (· (repeat' (first | exact pure_int _ _ | exact pure_bool _ | exact pure_str _); done))) | (apply S_gf; (· exact rfl); (· exact rfl); (· (first | assumption | exact rfl))) | (apply S_gfT'; (· exact rfl); (· exact rfl); (· exact rfl); (· (first | assumption | exact rfl))) | refine S_gsplit rfl rfl (fun _ => ?_) (fun _ => ?_) | apply S_move | apply S_assign | (apply S_pickT; (· exact gt_any rfl); (· (first | assumption | exact rfl))) | (apply S_pickF; (· exact gt_any rfl); (· (first | assumption | exact rfl))) | (apply S_eql; (· exact gt_any rfl); (· exact gt_any rfl)) | exact gt_any rfl | exact rfl | fail)
  all_goals (unfold isKind; simp_all)

theorem isKind_cv (k : Int) : CV Tryd.prog 27 [.int .i64 k] (· = .bool (isKind k)) := by
  refine CV_intro tyOk Tryd.func27 (by kernel_rfl) rfl 9 rfl (by simp) [.tmp 2] rfl ?_
  intro w0 ok0
  repeat' (first | refine T_seq ?_ | refine N_then ?_ | refine T_regX tyOk ?_ | refine S_nil ?_ | refine T_ret ?_ | (apply E_tmp; (· exact rfl); (· (repeat' (first | exact pure_int _ _ | exact pure_bool _ | exact pure_str _); done))) | (apply S_gf; (· exact rfl); (· exact rfl); (· (first | assumption | exact rfl))) | (apply S_gfT'; (· exact rfl); (· exact rfl); (· exact rfl); (· (first | assumption | exact rfl))) | refine S_gsplit rfl rfl (fun _ => ?_) (fun _ => ?_) | apply S_move | apply S_assign | (apply S_pickT; (· exact gt_any rfl); (· (first | assumption | exact rfl))) | (apply S_pickF; (· exact gt_any rfl); (· (first | assumption | exact rfl))) | (apply S_eql; (· exact gt_any rfl); (· exact gt_any rfl)) | exact gt_any rfl | exact rfl | fail)
  all_goals (unfold isKind; simp_all)

theorem isNonce_cv (n : Int) : CV Tryd.prog 28 [.int .i64 n] (· = .bool (decide (1 ≤ n) && decide (n ≤ 1000000))) := by
  refine CV_intro tyOk Tryd.func28 (by kernel_rfl) rfl 5 rfl (by simp) [.tmp 2] rfl ?_
  intro w0 ok0
  repeat' (first | refine T_seq ?_ | refine N_then ?_ | refine T_regX tyOk ?_ | refine S_nil ?_ | refine T_ret ?_ | (apply E_tmp; (· exact rfl); (· (repeat' (first | exact pure_int _ _ | exact pure_bool _ | exact pure_str _); done))) | apply S_move | apply S_assign | apply S_callQ (f := 29) | apply in_cv | exact viewL_nil | apply viewL_cons | (apply View.pure; exact PureC.out) | exact FlatC.out | exact gt_any rfl | exact gts_nil | (apply gts_cons; (· exact gt_any rfl)) | exact rfl | fail)

def byteOf (n : Int) : UInt8 := UInt8.ofNat (n % 256).toNat

theorem byteOf_int (n : Int) : ((byteOf n).toNat : Int) = n % 256 := by
  unfold byteOf
  have h1 : 0 ≤ n % 256 := Int.emod_nonneg _ (by decide)
  have h2 : n % 256 < 256 := Int.emod_lt_of_pos _ (by decide)
  rw [UInt8.toNat_ofNat']
  rw [Nat.mod_eq_of_lt (by omega)]
  omega

theorem wrap_byte (n : Int) : IntKind.wrap .u8 n = ((byteOf n).toNat : Int) := by
  rw [byteOf_int]
  simp [IntKind.wrap, IntKind.bits, IntKind.signed]

def putN (n : Int) : List UInt8 := [byteOf (n.fdiv (2 ^ 48)), byteOf (n.fdiv (2 ^ 40)), byteOf (n.fdiv (2 ^ 32)), byteOf (n.fdiv (2 ^ 24)), byteOf (n.fdiv (2 ^ 16)), byteOf (n.fdiv (2 ^ 8)), byteOf n]

theorem putN_length (n : Int) : (putN n).length = 7 := rfl

def putPic (n : Int) : Nat → List UInt8
  | 0 => [0, 0, 0, 0, 0, 0, 0]
  | 1 => [0, 0, 0, 0, 0, 0, byteOf n]
  | 2 => [0, 0, 0, 0, 0, byteOf (n.fdiv (2 ^ 8)), byteOf n]
  | 3 => [0, 0, 0, 0, byteOf (n.fdiv (2 ^ 16)), byteOf (n.fdiv (2 ^ 8)), byteOf n]
  | 4 => [0, 0, 0, byteOf (n.fdiv (2 ^ 24)), byteOf (n.fdiv (2 ^ 16)), byteOf (n.fdiv (2 ^ 8)), byteOf n]
  | 5 => [0, 0, byteOf (n.fdiv (2 ^ 32)), byteOf (n.fdiv (2 ^ 24)), byteOf (n.fdiv (2 ^ 16)), byteOf (n.fdiv (2 ^ 8)), byteOf n]
  | 6 => [0, byteOf (n.fdiv (2 ^ 40)), byteOf (n.fdiv (2 ^ 32)), byteOf (n.fdiv (2 ^ 24)), byteOf (n.fdiv (2 ^ 16)), byteOf (n.fdiv (2 ^ 8)), byteOf n]
  | _ => putN n

def shN (n : Int) : Nat → Int
  | 0 => n
  | 1 => n.fdiv (2 ^ 8)
  | 2 => n.fdiv (2 ^ 16)
  | 3 => n.fdiv (2 ^ 24)
  | 4 => n.fdiv (2 ^ 32)
  | 5 => n.fdiv (2 ^ 40)
  | 6 => n.fdiv (2 ^ 48)
  | _ => n.fdiv (2 ^ 56)

theorem shN_step (n : Int) (j : Nat) (h : j < 7) : (shN n j).fdiv (2 ^ min ((8 : Int)).toNat IntKind.i64.bits) = shN n (j + 1) := by
  have e : min ((8 : Int)).toNat IntKind.i64.bits = 8 := by decide
  rw [e]
  have hj : j = 0 ∨ j = 1 ∨ j = 2 ∨ j = 3 ∨ j = 4 ∨ j = 5 ∨ j = 6 := by omega
  rcases hj with rfl | rfl | rfl | rfl | rfl | rfl | rfl <;> simp only [shN] <;> first | rfl | (rw [Int.fdiv_eq_ediv_of_nonneg _ (by decide), Int.fdiv_eq_ediv_of_nonneg _ (by decide), Int.fdiv_eq_ediv_of_nonneg _ (by decide)]; simp only [Int.reducePow]; omega)

theorem number_cr0 (n : Int) : CR Tryd.prog 54 [.int .i64 n] [] 0 (Is (.sl 0 0 7 7) [(0, some ⟨bA (putN n), 1, false, false⟩)] (0 + 1)) := by
  refine CR_introU tyOk Tryd.func54 (by kernel_rfl) rfl 18 rfl (by simp) [.tmp 2] rfl ?_
  intro w0 ok0 wr φ0
  repeat' (first | refine T_seq ?_ | refine N_then ?_ | refine T_regX tyOk ?_ | refine S_nil ?_ | refine T_block ?_ | apply S_assign | (apply S_make; (· exact rfl); (· exact rfl); (· exact gt_any rfl); (· exact gt_any rfl); (· exact rfl); (· (first | assumption | omega)); (· (first | assumption | omega | (dsimp only; omega) | (simp; omega))); (· (first | assumption | omega | (dsimp only; omega) | (simp; omega))); (· (first | assumption | omega | (dsimp only; omega) | (simp; omega))); (· (first | exact okCells_of rfl rfl | assumption)); (· (first | exact Nat.le_of_ble_eq_true rfl | omega | decide))) | exact gt_any rfl | exact rfl | fail)
  refine T_roundsS (α := Nat) (fun j => ⟨[(0, .int .i64 (shN n j)), (3, .sl 0 0 7 7), (4, .int .i64 (6 - j))], [(0, some ⟨bA (putPic n j), 1, false, false⟩)], 1⟩)
    (fun j => 7 - j) (fun j => j ≤ 7) 0 ((weak_of (by repeat' (first | exact keepE_nil | refine keepE_cons rfl ?_)) (by repeat' (first | exact keepB_nil | refine keepB_cons (by first | rfl | exact congrArg (fun l => some (Box.mk l _ _ _)) hset) ?_)) (Nat.le_refl _))).sub (by omega) ?_
  intro j hj
  have hsh := shN_step n j
  by_cases h7 : j = 7
  · subst h7
    repeat' (first | refine T_seq ?_ | refine N_then ?_ | refine N_thenE ?_ | refine N_blockE ?_ | refine N_againSE ?_ | refine T_regX tyOk ?_ | refine S_nil ?_ | refine T_ret ?_ | refine T_exit ?_ | (apply T_ifF; (· exact rfl); (· (first | assumption | exact rfl))) | apply S_move | apply S_assign | apply S_geq | exact gt_any rfl | exact rfl | fail)
    (apply E_U0 [(0, 0)] <;> repeat' (first | exact resL_nil | (apply resL_tmp; (· exact rfl)) | (apply resL_cell; (· exact rfl); (· exact rfl); (· exact rfl); (· exact rfl); (· exact rfl); (· exact rfl)) | (apply resL_arr; (· exact rfl); (· exact rfl); (· exact rfl); (· exact rfl); (· (first | assumption | exact rfl))) | exact Ren.sl _ _ _ _ | (apply ren_slE; (· first | exact rfl | omega); (· first | exact rfl | assumption | (simp [bA_length]; done) | (simp [bA_length]; omega)); (· first | exact rfl | assumption | (simp [bA_length]; done) | (simp [bA_length]; omega))) | exact Ren.ptr _ _ _ | exact renL_nil | apply renL_cons | (apply Ren.pure; exact PureC.out) | apply ren_agg | apply ren_tup | exact Low.sl _ _ _ _ (by decide) | exact Low.ptr _ _ _ (by decide) | exact lowL_nil | apply lowL_cons | (apply Low.pure; exact PureC.out) | apply low_agg | apply low_tup | exact pullB_nil | (apply pullB_pureE; (· exact rfl); (· first | exact rfl | assumption | (simp [bA]; done)); (· exact PureEC.out)) | (apply pullB_one; (· exact rfl)) | exact lowBs_nil | apply lowBs_cons | (apply PureB.low; exact PureEC.out) | apply lowX_one | exact lowX_nil | exact rfl))
  · have hw := wrap_byte (shN n j)
    have hst := hsh (by omega)
    have hc : decide ((0 : Int) ≤ 6 - (j : Int)) = true := by simp; omega
    have hix : (0 : Int) ≤ 6 - (j : Int) ∧ 6 - (j : Int) < (7 : Nat) := ⟨by omega, by omega⟩
    have hlt : 0 + (6 - (j : Int)).toNat < (bA (putPic n j)).length := by
      have : (bA (putPic n j)).length = 7 := by
        have hj' : j = 0 ∨ j = 1 ∨ j = 2 ∨ j = 3 ∨ j = 4 ∨ j = 5 ∨ j = 6 := by omega
        rcases hj' with rfl | rfl | rfl | rfl | rfl | rfl | rfl <;> rfl
      omega
    have hset : (bA (putPic n j)).set (0 + (6 - (j : Int)).toNat) (.int .u8 ((byteOf (shN n j)).toNat : Int)) = bA (putPic n (j + 1)) := by
      have hj' : j = 0 ∨ j = 1 ∨ j = 2 ∨ j = 3 ∨ j = 4 ∨ j = 5 ∨ j = 6 := by omega
      rcases hj' with rfl | rfl | rfl | rfl | rfl | rfl | rfl <;> rfl
    have hdec : IntKind.wrap .i64 ((6 : Int) - (j : Int) - 1) = 6 - ((j + 1 : Nat) : Int) := by rw [wrap_i64 (by omega) (by omega)]; omega
    repeat' (first | refine T_seq ?_ | refine N_then ?_ | refine N_block ?_ | refine T_regX tyOk ?_ | refine S_nil ?_ | refine T_skip ?_ | refine T_block ?_ | (apply T_ifT; (· exact rfl); (· (first | assumption | exact rfl))) | apply S_move | apply S_assign | apply S_geq | apply S_sub | (apply S_conv; (· exact rfl); (· exact rfl); (· exact gt_any rfl)) | apply S_shrW | (apply S_idxSl; (· exact rfl); (· exact rfl); (· exact gt_any rfl); (· exact rfl); (· exact gt_any rfl)) | (apply S_storeE; (· exact rfl); (· exact gt_any rfl); (· exact rfl); (· exact rfl); (· exact rfl)) | exact gt_any rfl | exact okCells_of rfl rfl | assumption | omega | exact rfl | fail)
    exact N_againS (j + 1) ((weak_of (by repeat' (first | exact keepE_nil | refine keepE_cons rfl ?_)) (by repeat' (first | exact keepB_nil | refine keepB_cons (by first | rfl | exact congrArg (fun l => some (Box.mk l _ _ _)) hset) ?_)) (Nat.le_refl _))).sub (by omega) (by omega)

theorem number_cr (n : Int) (N : Nat) : CR Tryd.prog 54 [.int .i64 n] [] N (Is (.sl N 0 7 7) [(N, some ⟨bA (putN n), 1, false, false⟩)] (N + 1)) :=
  CR.allN (number_cr0 n) N (by first | exact PureC.out | exact PureLC.out | assumption) (by repeat' (first | exact Ren.sl _ _ _ _ | exact Ren.ptr _ _ _ | exact renL_nil | apply renL_cons | (apply Ren.pure; (first | exact PureC.out | exact PureLC.out | assumption)) | apply ren_agg | apply ren_tup)) (by repeat' (first | exact renBs_nil | (apply renBs_pure; (· exact rfl); (· (exact PureEC.out))) | (apply renBs_one; (· exact rfl)) | exact renL_nil | apply renL_cons | exact Ren.sl _ _ _ _ | exact Ren.ptr _ _ _ | (apply Ren.pure; (first | exact PureC.out | exact PureLC.out | assumption)) | apply ren_agg))

theorem shr_shN (n : Int) (j : Nat) (h : j < 7) : n.fdiv (2 ^ min (IntKind.wrap .u64 (8 * (6 - (j : Int)))).toNat IntKind.i64.bits) = shN n (6 - j) := by
  have hj : j = 0 ∨ j = 1 ∨ j = 2 ∨ j = 3 ∨ j = 4 ∨ j = 5 ∨ j = 6 := by omega
  rcases hj with rfl | rfl | rfl | rfl | rfl | rfl | rfl
  all_goals first | rfl | skip
  rw [show min (IntKind.wrap .u64 (8 * (6 - ((6 : Nat) : Int)))).toNat IntKind.i64.bits = 0 by decide]
  rw [Int.fdiv_eq_ediv_of_nonneg _ (by decide)]
  simp [shN]

theorem putN_take (n : Int) (j : Nat) (h : j < 7) : bA ((putN n).take j) ++ [.int .u8 ((byteOf (shN n (6 - j))).toNat : Int)] = bA ((putN n).take (j + 1)) := by
  have hj : j = 0 ∨ j = 1 ∨ j = 2 ∨ j = 3 ∨ j = 4 ∨ j = 5 ∨ j = 6 := by omega
  rcases hj with rfl | rfl | rfl | rfl | rfl | rfl | rfl <;> rfl

theorem l1Put_cr0 (n : Int) : CR Tryd.prog 52 [.int .i64 n] [] 0 (Is (.sl 0 0 7 7) [(0, some ⟨bA (putN n), 1, true, false⟩)] (0 + 1)) := by
  refine CR_introU tyOk Tryd.func52 (by kernel_rfl) rfl 20 rfl (by simp) [.tmp 2] rfl ?_
  intro w0 ok0 wr φ0
  repeat' (first | refine T_seq ?_ | refine N_then ?_ | refine T_regX tyOk ?_ | refine S_nil ?_ | refine T_block ?_ | apply S_assign | (apply S_buildL tyOk; (· exact rfl); (· exact rfl); (· exact rfl)) | (dsimp only; omega) | exact gtsI_nil | exact elts_nil | exact gt_any rfl | exact rfl | fail)
  refine T_roundsS (α := Nat) (fun j => ⟨[(0, .int .i64 n), (3, .sl 0 0 j j), (4, .int .i64 (6 - j))], [(0, some ⟨bA ((putN n).take j), 1, true, false⟩)], 1⟩)
    (fun j => 7 - j) (fun j => j ≤ 7) 0 ((weak_of (by repeat' (first | exact keepE_nil | refine keepE_cons rfl ?_)) (by repeat' (first | exact keepB_nil | refine keepB_cons (by first | rfl | exact congrArg (fun l => some (Box.mk l _ _ _)) hset) ?_)) (Nat.le_refl _))).sub (by omega) ?_
  intro j hj
  by_cases h7 : j = 7
  · subst h7
    repeat' (first | refine T_seq ?_ | refine N_then ?_ | refine N_thenE ?_ | refine N_blockE ?_ | refine N_againSE ?_ | refine T_regX tyOk ?_ | refine S_nil ?_ | refine T_ret ?_ | refine T_exit ?_ | (apply T_ifF; (· exact rfl); (· (first | assumption | exact rfl))) | apply S_move | apply S_assign | apply S_geq | exact gt_any rfl | exact rfl | fail)
    (apply E_U0 [(0, 0)] <;> repeat' (first | exact resL_nil | (apply resL_tmp; (· exact rfl)) | (apply resL_cell; (· exact rfl); (· exact rfl); (· exact rfl); (· exact rfl); (· exact rfl); (· exact rfl)) | (apply resL_arr; (· exact rfl); (· exact rfl); (· exact rfl); (· exact rfl); (· (first | assumption | exact rfl))) | exact Ren.sl _ _ _ _ | (apply ren_slE; (· first | exact rfl | omega); (· first | exact rfl | assumption | (simp [bA_length]; done) | (simp [bA_length]; omega)); (· first | exact rfl | assumption | (simp [bA_length]; done) | (simp [bA_length]; omega))) | exact Ren.ptr _ _ _ | exact renL_nil | apply renL_cons | (apply Ren.pure; exact PureC.out) | apply ren_agg | apply ren_tup | exact Low.sl _ _ _ _ (by decide) | exact Low.ptr _ _ _ (by decide) | exact lowL_nil | apply lowL_cons | (apply Low.pure; exact PureC.out) | apply low_agg | apply low_tup | exact pullB_nil | (apply pullB_pureE; (· exact rfl); (· first | exact rfl | assumption | (simp [bA]; done)); (· exact PureEC.out)) | (apply pullB_one; (· exact rfl)) | exact lowBs_nil | apply lowBs_cons | (apply PureB.low; exact PureEC.out) | apply lowX_one | exact lowX_nil | exact rfl))
  · have hc : decide ((0 : Int) ≤ 6 - (j : Int)) = true := by simp; omega
    have hm : IntKind.wrap .i64 (8 * (6 - (j : Int))) = 8 * (6 - (j : Int)) := wrap_i64 (by omega) (by omega)
    have hu : IntKind.wrap .u64 (8 * (6 - (j : Int))) = 8 * (6 - (j : Int)) := wrap_u64 (by omega) (by omega)
    have hs := shr_shN n j (by omega)
    rw [hu] at hs
    have hw := wrap_byte (shN n (6 - j))
    have hset := putN_take n j (by omega)
    have hl : (bA ((putN n).take j)).length = j := by simp [bA_length, putN_length]; omega
    have hdec : IntKind.wrap .i64 ((6 : Int) - (j : Int) - 1) = 6 - ((j + 1 : Nat) : Int) := by rw [wrap_i64 (by omega) (by omega)]; omega
    repeat' (first | refine T_seq ?_ | refine N_then ?_ | refine N_block ?_ | refine T_regX tyOk ?_ | refine S_nil ?_ | refine T_skip ?_ | refine T_block ?_ | (apply T_ifT; (· exact rfl); (· (first | assumption | exact rfl))) | apply S_move | apply S_assign | apply S_geq | apply S_sub | apply S_mul | (apply S_conv; (· exact rfl); (· exact rfl); (· exact gt_any rfl)) | apply S_shrW | (apply M_appB; (· exact rfl); (· exact rfl); (· exact gt_any rfl)) | (apply S_buildL tyOk; (· exact rfl); (· exact rfl); (· exact rfl)) | (apply mlen; first | exact rfl | assumption | exact Nat.le_of_ble_eq_true rfl | omega | (simp [bA_length]; done) | (simp [bA_length]; omega)) | (apply msz; first | assumption | exact Nat.le_of_ble_eq_true rfl | (dsimp only; simp only [List.length_append, List.length_map, List.length_cons, List.length_nil, bA_length, List.length_take, List.length_drop, List.length_replicate] at *; omega) | (dsimp only; omega)) | (apply mnorm; first | with_reducible exact app_nil0 _ | exact app_norm _ _ | exact rfl) | (apply mtake; first | assumption | exact take_full (by first | rfl | (simp; done)) | exact rfl) | (apply src_sl; (· exact rfl); (· exact rfl); (· exact rfl)) | (dsimp only; omega) | exact gtsI_nil | (apply gtsI_cons; (· exact gt_any rfl)) | exact elts_nil | apply elts_cons | (intro hu; cases hu; done) | exact gt_any rfl | exact okCells_of rfl rfl | assumption | omega | exact rfl | fail)
    exact N_againS (j + 1) (sub_names [(0, 2)] (k0 := 0) rfl (by rfl) (by repeat' (first | exact pullE_nil | (apply pullE_cons; (· exact rfl)) | exact Ren.sl _ _ _ _ | (apply ren_slE; (· first | exact rfl | omega); (· first | exact rfl | assumption | (simp [bA_length]; done) | (simp [bA_length]; omega)); (· first | exact rfl | assumption | (simp [bA_length]; done) | (simp [bA_length]; omega))) | exact Ren.ptr _ _ _ | (apply Ren.pure; (first | exact PureC.out | exact PureLC.out | assumption)) | exact renL_nil | apply renL_cons | apply ren_agg | apply ren_tup)) (by repeat' (first | exact pullB_nil | (apply pullB_pure; (· first | exact rfl | exact congrArg (fun l => some (Box.mk l _ _ _)) hset); (· (exact PureEC.out))) | (apply pullB_one; (· exact rfl)) | exact renL_nil | apply renL_cons | exact Ren.sl _ _ _ _ | exact Ren.ptr _ _ _ | (apply Ren.pure; (first | exact PureC.out | exact PureLC.out | assumption)) | apply ren_agg)) (by repeat' (first | exact lowE_nil | apply lowE_cons | exact Low.sl _ _ _ _ (by decide) | exact Low.ptr _ _ _ (by decide) | (apply Low.pure; (first | exact PureC.out | exact PureLC.out | assumption)) | exact lowL_nil | apply lowL_cons | apply low_agg | apply low_tup)) (by repeat' (first | exact lowBs_nil | apply lowBs_cons | (apply PureB.low; (exact PureEC.out)) | apply lowX_one | exact lowX_nil | exact lowL_nil | apply lowL_cons | exact Low.sl _ _ _ _ (by decide) | exact Low.ptr _ _ _ (by decide) | (apply Low.pure; (first | exact PureC.out | exact PureLC.out | assumption))))) (by omega) (by omega)

theorem l1Put_cr (n : Int) (N : Nat) : CR Tryd.prog 52 [.int .i64 n] [] N (Is (.sl N 0 7 7) [(N, some ⟨bA (putN n), 1, true, false⟩)] (N + 1)) :=
  CR.allN (l1Put_cr0 n) N (by first | exact PureC.out | exact PureLC.out | assumption) (by repeat' (first | exact Ren.sl _ _ _ _ | exact Ren.ptr _ _ _ | exact renL_nil | apply renL_cons | (apply Ren.pure; (first | exact PureC.out | exact PureLC.out | assumption)) | apply ren_agg | apply ren_tup)) (by repeat' (first | exact renBs_nil | (apply renBs_pure; (· exact rfl); (· (exact PureEC.out))) | (apply renBs_one; (· exact rfl)) | exact renL_nil | apply renL_cons | exact Ren.sl _ _ _ _ | exact Ren.ptr _ _ _ | (apply Ren.pure; (first | exact PureC.out | exact PureLC.out | assumption)) | apply ren_agg))

end Go.Proofs.YtmaginepopldnaaDoor
