/- Digits of a message, steps of chains, signatures checked. -/
import Derived.Test.YtoempiaimebncaaZc
set_option maxRecDepth 100000
set_option maxHeartbeats 3200000
set_option linter.unusedSimpArgs false
set_option linter.unusedVariables false
namespace Go.Proofs.Ytoempiaimebncaa
open Go.Av
attribute [local irreducible] T thenQ blockQ againQ againS WX retV retR Gt Gts GtsP okCells CV CR Av.Pure
attribute [local irreducible] sha

abbrev messS : ByteArray := ByteArray.mk #[109, 101, 115, 115, 97, 103, 101]
abbrev stepS : ByteArray := ByteArray.mk #[115, 116, 101, 112]

def stepD (x : List UInt8) : List UInt8 := sha (tagL stepS ++ x)
theorem stepD_length (x : List UInt8) : (stepD x).length = 32 := sha_length _
/-- So many steps of a chain. -/
def stepN (x : List UInt8) : Nat → List UInt8
  | 0 => x
  | k + 1 => stepD (stepN x k)
theorem stepN_length (x : List UInt8) {b : Nat} (hb : 32 ≤ b) (h : x.length ≤ b) : ∀ k, (stepN x k).length ≤ b
  | 0 => h
  | k + 1 => by rw [stepN, stepD_length]; exact hb
theorem stepN_succ (x : List UInt8) : ∀ k, stepN (stepD x) k = stepN x (k + 1)
  | 0 => rfl
  | k + 1 => by rw [stepN, stepN_succ x k]; rfl

theorem bytesSClone_cv (p : List UInt8) (h : p.length ≤ 1073741824) : CV Try.prog 73 [sl1 (bA p)] (· = sl1 (bA p)) := by
  refine CV_intro tyOk Try.func73 (by kernel_rfl) rfl 8 rfl (by simp) [.tmp 2] rfl ?_
  intro w0 ok0
  have hl := bA_length p
  refine T_seq ?_
  refine T_regX tyOk ?_
  repeat' (first | refine T_seq ?_ | refine N_then ?_ | refine T_regX tyOk ?_ | refine S_nil ?_ | apply S_move | apply S_assign | exact gt_any rfl | exact rfl | fail)
  apply S_eqNil tyOk rfl (gt_any rfl) rfl
  · intro he
    have hb : p = [] := by cases p with
      | nil => rfl
      | cons a l => simp [bA] at he
    subst hb
    repeat' (first | refine T_seq ?_ | refine N_then ?_ | refine N_thenR ?_ | refine T_regX tyOk ?_ | refine S_nil ?_ | refine T_ret ?_ | (apply E_X <;> repeat' (first | exact resL_nil | (apply resL_tmp; (· exact rfl)) | (apply resL_cell; (· exact rfl); (· exact rfl); (· exact rfl); (· exact rfl); (· exact rfl); (· exact rfl)) | (apply resL_arr; (· exact rfl); (· exact rfl); (· exact rfl); (· exact rfl); (· (first | assumption | exact rfl))) | exact viewL_nil | apply viewL_cons | apply view_nothingE | (apply view_slE; (· exact rfl); (· first | exact rfl | assumption | (simp [bA_length]; done) | (simp [bA_length]; omega) | omega); (· exact PureEC.out)) | (apply view_loose; (· exact PureEC.out)) | apply view_agg | apply view_tup | (apply View.ofEq; (· exact PureC.out)) | exact rfl)) | (apply T_ifT; (· exact rfl); (· (first | assumption | exact rfl))) | apply S_assign | exact gt_any rfl | exact rfl | fail)
  · repeat' (first | refine T_seq ?_ | refine N_then ?_ | refine T_regX tyOk ?_ | refine S_nil ?_ | refine T_skip ?_ | refine T_ret ?_ | (apply E_X <;> repeat' (first | exact resL_nil | (apply resL_tmp; (· exact rfl)) | (apply resL_cell; (· exact rfl); (· exact rfl); (· exact rfl); (· exact rfl); (· exact rfl); (· exact rfl)) | (apply resL_arr; (· exact rfl); (· exact rfl); (· exact rfl); (· exact rfl); (· (first | assumption | exact rfl))) | exact viewL_nil | apply viewL_cons | apply view_nothingE | (apply view_slE; (· exact rfl); (· first | exact rfl | assumption | (simp [bA_length]; done) | (simp [bA_length]; omega) | omega); (· exact PureEC.out)) | (apply view_loose; (· exact PureEC.out)) | apply view_agg | apply view_tup | (apply View.ofEq; (· exact PureC.out)) | exact rfl)) | (apply T_ifF; (· exact rfl); (· (first | assumption | exact rfl))) | apply S_move | apply S_assign | (apply M_appB; (· exact rfl); (· exact rfl); (· exact gt_any rfl)) | (apply S_buildL tyOk; (· exact rfl); (· exact rfl); (· exact rfl)) | (apply mlen; first | exact rfl | assumption | exact Nat.le_of_ble_eq_true rfl | omega | (simp [bA_length]; done) | (simp [bA_length]; omega)) | (apply msz; first | assumption | exact Nat.le_of_ble_eq_true rfl | (dsimp only; simp only [List.length_append, List.length_map, List.length_cons, List.length_nil, bA_length, List.length_take, List.length_drop, List.length_replicate] at *; omega) | (dsimp only; omega)) | (apply mnorm; first | with_reducible exact app_nil0 _ | exact app_norm _ _ | exact rfl) | exact Src.ls rfl rfl | (dsimp only; omega) | exact gtsI_nil | exact elts_nil | exact gt_any rfl | omega | exact rfl | fail)

theorem climb_cv (x : List UInt8) (n : Nat) (h : x.length ≤ 100000000) (hn : n ≤ 1000000) : CV Try.prog 55 [sl1 (bA x), .int .i64 (n : Int)] (· = sl1 (bA (stepN x n))) := by
  refine CV_intro tyOk Try.func55 (by kernel_rfl) rfl 15 rfl (by simp) [.tmp 4] rfl ?_
  intro w0 ok0
  have c0 := bytesSClone_cv x (by omega)
  repeat' (first | refine T_seq ?_ | refine N_then ?_ | refine T_regX tyOk ?_ | refine S_nil ?_ | refine T_block ?_ | apply S_move | apply S_assign | apply S_call (f := 73) | apply c0 | exact PureLC.out | exact gt_any rfl | exact gts_nil | (apply gts_cons; (· exact gt_any rfl)) | exact rfl | fail)
  refine T_roundsS (α := Nat) (fun k => ⟨[(0, byA (stepN x k)), (7, .int .i64 (n : Int)), (8, .int .i64 k)], [], 0⟩)
    (fun k => n - k) (fun k => k ≤ n) 0 ((weak_of (by repeat' (first | exact keepE_nil | refine keepE_cons rfl ?_)) (by repeat' (first | exact keepB_nil | refine keepB_cons (by first | rfl | exact congrArg (fun l => some (Box.mk l _ _ _)) hset) ?_)) (Nat.le_refl _))).sub (by omega) ?_
  intro k hk
  have hl := stepN_length x (b := 100000000) (by decide) h k
  by_cases hkl : k < n
  · have d : decide ((k : Int) < (n : Int)) = true := decide_eq_true (by omega)
    have hn' : stepN x (k + 1) = stepD (stepN x k) := rfl
    generalize stepN x k = u at *
    have e : [u].flatten = u := by simp
    have c1 := tagged_cv stepS [u] (by decide) (by rw [e]; omega) (by simp)
    rw [e] at c1
    have c2 : CV Try.prog 51 [.str stepS, .ls 1 false true [byA u]] (· = sl1 (bA (stepD u))) := c1.args rfl (loose2 (Loose.refl _) (loose_ls _ _ _ _))
    rw [← hn'] at c2
    repeat' (first | refine T_seq ?_ | refine N_then ?_ | refine N_block ?_ | refine T_regX tyOk ?_ | refine S_nil ?_ | refine T_skip ?_ | refine T_block ?_ | (apply T_ifT; (· exact rfl); (· (first | assumption | exact rfl))) | apply S_move | apply S_assign | apply S_lss | apply S_add | (apply S_buildV tyOk; (· exact rfl); (· exact rfl)) | apply S_call (f := 51) | apply c2 | exact PureLC.out | exact gtsI_nil | (apply gtsI_cons; (· exact gt_any rfl)) | exact elts_nil | apply elts_cons | (intro hu; cases hu; done) | exact gt_any rfl | exact gts_nil | (apply gts_cons; (· exact gt_any rfl)) | exact okCells_of rfl rfl | (apply wrap_i64; (· omega); (· omega)) | exact Nat.le_of_ble_eq_true rfl | exact rfl | fail)
    exact N_againS (k + 1) ((weak_of (by repeat' (first | exact keepE_nil | refine keepE_cons rfl ?_)) (by repeat' (first | exact keepB_nil | refine keepB_cons (by first | rfl | exact congrArg (fun l => some (Box.mk l _ _ _)) hset) ?_)) (Nat.le_refl _))).sub (by omega) (by omega)
  · have d : decide ((k : Int) < (n : Int)) = false := decide_eq_false (by omega)
    obtain rfl : k = n := by omega
    repeat' (first | refine T_seq ?_ | refine N_then ?_ | refine N_thenE ?_ | refine N_blockE ?_ | refine N_againSE ?_ | refine T_regX tyOk ?_ | refine S_nil ?_ | refine T_ret ?_ | refine T_exit ?_ | (apply E_X <;> repeat' (first | exact resL_nil | (apply resL_tmp; (· exact rfl)) | (apply resL_cell; (· exact rfl); (· exact rfl); (· exact rfl); (· exact rfl); (· exact rfl); (· exact rfl)) | (apply resL_arr; (· exact rfl); (· exact rfl); (· exact rfl); (· exact rfl); (· (first | assumption | exact rfl))) | exact viewL_nil | apply viewL_cons | apply view_nothingE | (apply view_slE; (· exact rfl); (· first | exact rfl | assumption | (simp [bA_length]; done) | (simp [bA_length]; omega) | omega); (· exact PureEC.out)) | (apply view_loose; (· exact PureEC.out)) | apply view_agg | apply view_tup | (apply View.ofEq; (· exact PureC.out)) | exact rfl)) | (apply T_ifF; (· exact rfl); (· (first | assumption | exact rfl))) | apply S_move | apply S_assign | apply S_lss | exact gt_any rfl | exact rfl | fail)

theorem l4Step_cv (x : List UInt8) (n : Nat) (h : x.length ≤ 100000000) (hn : n ≤ 1000000) : CV Try.prog 43 [sl1 (bA x), .int .i64 (n : Int)] (· = sl1 (bA (stepN x n))) := by
  refine CV_intro tyOk Try.func43 (by kernel_rfl) rfl 14 rfl (by simp) [.tmp 4] rfl ?_
  intro w0 ok0
  repeat' (first | refine T_seq ?_ | refine N_then ?_ | refine T_regX tyOk ?_ | refine S_nil ?_ | refine T_block ?_ | apply S_assign | exact gt_any rfl | exact rfl | fail)
  refine T_roundsS (α := Nat) (fun k => ⟨[(0, byA (stepN x k)), (1, .int .i64 ((n - k : Nat) : Int))], [], 0⟩)
    (fun k => n - k) (fun k => k ≤ n) 0 ((weak_of (by repeat' (first | exact keepE_nil | refine keepE_cons rfl ?_)) (by repeat' (first | exact keepB_nil | refine keepB_cons (by first | rfl | exact congrArg (fun l => some (Box.mk l _ _ _)) hset) ?_)) (Nat.le_refl _))).sub (by omega) ?_
  intro k hk
  have hl := stepN_length x (b := 100000000) (by decide) h k
  by_cases hkl : k < n
  · have d : decide ((0 : Int) < ((n - k : Nat) : Int)) = true := decide_eq_true (by omega)
    have hn' : stepN x (k + 1) = stepD (stepN x k) := rfl
    generalize stepN x k = u at *
    have c1 := specTagged_cv stepS u (by decide) (by omega)
    have e : sha (tagL stepS ++ u) = stepN x (k + 1) := hn'.symm
    rw [e] at c1
    have w : IntKind.wrap .i64 (((n - k : Nat) : Int) - 1) = ((n - (k + 1) : Nat) : Int) := by rw [wrap_i64 (by omega) (by omega)]; omega
    repeat' (first | refine T_seq ?_ | refine N_then ?_ | refine N_block ?_ | refine T_regX tyOk ?_ | refine S_nil ?_ | refine T_skip ?_ | refine T_block ?_ | (apply T_ifT; (· exact rfl); (· (first | assumption | exact rfl))) | apply S_move | apply S_assign | apply S_gtr | apply S_sub | apply S_call (f := 39) | apply c1 | exact PureLC.out | exact gt_any rfl | exact gts_nil | (apply gts_cons; (· exact gt_any rfl)) | assumption | exact rfl | fail)
    exact N_againS (k + 1) ((weak_of (by repeat' (first | exact keepE_nil | refine keepE_cons rfl ?_)) (by repeat' (first | exact keepB_nil | refine keepB_cons (by first | rfl | exact congrArg (fun l => some (Box.mk l _ _ _)) hset) ?_)) (Nat.le_refl _))).sub (by omega) (by omega)
  · have d : decide ((0 : Int) < ((n - k : Nat) : Int)) = false := decide_eq_false (by omega)
    obtain rfl : k = n := by omega
    have hbl := bA_length (stepN x k)
    repeat' (first | refine T_seq ?_ | refine N_then ?_ | refine N_thenE ?_ | refine N_blockE ?_ | refine N_againSE ?_ | refine T_regX tyOk ?_ | refine S_nil ?_ | refine T_ret ?_ | refine T_exit ?_ | (apply E_X <;> repeat' (first | exact resL_nil | (apply resL_tmp; (· exact rfl)) | (apply resL_cell; (· exact rfl); (· exact rfl); (· exact rfl); (· exact rfl); (· exact rfl); (· exact rfl)) | (apply resL_arr; (· exact rfl); (· exact rfl); (· exact rfl); (· exact rfl); (· (first | assumption | exact rfl))) | exact viewL_nil | apply viewL_cons | apply view_nothingE | (apply view_slE; (· exact rfl); (· first | exact rfl | assumption | (simp [bA_length]; done) | (simp [bA_length]; omega) | omega); (· exact PureEC.out)) | (apply view_loose; (· exact PureEC.out)) | apply view_agg | apply view_tup | (apply View.ofEq; (· exact PureC.out)) | exact rfl)) | (apply T_ifF; (· exact rfl); (· (first | assumption | exact rfl))) | apply S_move | apply S_assign | apply S_gtr | (apply M_appB; (· exact rfl); (· exact rfl); (· exact gt_any rfl)) | (apply S_buildL tyOk; (· exact rfl); (· exact rfl); (· exact rfl)) | (apply mlen; first | exact rfl | assumption | exact Nat.le_of_ble_eq_true rfl | omega | (simp [bA_length]; done) | (simp [bA_length]; omega)) | (apply msz; first | assumption | exact Nat.le_of_ble_eq_true rfl | (dsimp only; simp only [List.length_append, List.length_map, List.length_cons, List.length_nil, bA_length, List.length_take, List.length_drop, List.length_replicate] at *; omega) | (dsimp only; omega)) | (apply mnorm; first | with_reducible exact app_nil0 _ | exact app_norm _ _ | exact rfl) | exact Src.ls rfl rfl | (dsimp only; omega) | exact gtsI_nil | exact elts_nil | exact gt_any rfl | omega | exact rfl | fail)

end Go.Proofs.Ytoempiaimebncaa
