/- Ranges, kinds, and the seven bytes of a number. -/
import Derived.Test.YtmaginepopldnaaDoorWa
set_option maxRecDepth 100000
set_option maxHeartbeats 3200000
set_option linter.unusedSimpArgs false
set_option linter.unusedVariables false
namespace Go.Proofs.YtmaginepopldnaaDoor
open Go.Av
attribute [local irreducible] T thenQ blockQ againQ againS WX retV retR Gt Gts GtsP okCells CV CR Av.Pure

theorem in_cv (n lo hi : Int) : CV Tryd.prog 29 [.int .i64 n, .int .i64 lo, .int .i64 hi] (· = .bool (decide (lo ≤ n) && decide (n ≤ hi))) := by
  refine CV_intro tyOk Tryd.func29 (by kernel_rfl) rfl 15 rfl (by simp) [.tmp 6] rfl ?_
  intro w0 ok0
  repeat' (first | refine T_seq ?_ | refine N_then ?_ | refine T_regX tyOk ?_ | refine S_nil ?_ | refine T_ret ?_ | (apply E_tmp; (· exact rfl); (· (repeat' (first | exact pure_int _ _ | exact pure_bool _ | exact pure_str _); done))) | (apply S_gt; (· exact rfl); (· exact rfl); (· (first | assumption | exact rfl))) | (apply S_gtF'; (· exact rfl); (· exact rfl); (· exact rfl); (· (first | assumption | exact rfl))) | refine S_gsplit rfl rfl (fun _ => ?_) (fun _ => ?_) | apply S_move | apply S_assign | (apply S_pickT; (· exact gt_any rfl); (· (first | assumption | exact rfl))) | (apply S_pickF; (· exact gt_any rfl); (· (first | assumption | exact rfl))) | apply S_leq | exact gt_any rfl | exact rfl | fail)
  all_goals (first | rfl | (simp_all; done) | (simp_all; omega))

theorem l1In_cv (n lo hi : Int) : CV Tryd.prog 26 [.int .i64 n, .int .i64 lo, .int .i64 hi] (· = .bool (decide (lo ≤ n) && decide (n ≤ hi))) := by
  refine CV_intro tyOk Tryd.func26 (by kernel_rfl) rfl 15 rfl (by simp) [.tmp 6] rfl ?_
  intro w0 ok0
  repeat' (first | refine T_seq ?_ | refine N_then ?_ | refine T_regX tyOk ?_ | refine S_nil ?_ | refine T_ret ?_ | (apply E_tmp; (· exact rfl); (· (repeat' (first | exact pure_int _ _ | exact pure_bool _ | exact pure_str _); done))) | (apply S_gt; (· exact rfl); (· exact rfl); (· (first | assumption | exact rfl))) | (apply S_gtF'; (· exact rfl); (· exact rfl); (· exact rfl); (· (first | assumption | exact rfl))) | refine S_gsplit rfl rfl (fun _ => ?_) (fun _ => ?_) | apply S_move | apply S_assign | (apply S_pickT; (· exact gt_any rfl); (· (first | assumption | exact rfl))) | (apply S_pickF; (· exact gt_any rfl); (· (first | assumption | exact rfl))) | apply S_leq | apply S_geq | exact gt_any rfl | exact rfl | fail)
  all_goals (first | rfl | (simp_all; done) | (simp_all; omega))

def isKind (k : Int) : Bool := decide (k = 1) || decide (k = 2)

theorem l9Kind_cv (k : Int) : CV Tryd.prog 25 [.int .i64 k] (· = .bool (isKind k)) := by
  refine CV_intro tyOk Tryd.func25 (by kernel_rfl) rfl 9 rfl (by simp) [.tmp 2] rfl ?_
  intro w0 ok0
  repeat' (first | refine T_seq ?_ | refine N_then ?_ | refine T_regX tyOk ?_ | refine S_nil ?_ | refine T_ret ?_ | (apply E_tmp; (· exact rfl); (· (repeat' (first | exact pure_int _ _ | exact pure_bool _ | exact pure_str _); done))) | (apply S_gf; (· exact rfl); (· exact rfl); (· (first | assumption | exact rfl))) | (apply S_gfT'; (· exact rfl); (· exact rfl); (· exact rfl); (· (first | assumption | exact rfl))) | refine S_gsplit rfl rfl (fun _ => ?_) (fun _ => ?_) | apply S_move | apply S_assign | (apply S_pickT; (· exact gt_any rfl); (· (first | assumption | exact rfl))) | (apply S_pickF; (· exact gt_any rfl); (· (first | assumption | exact rfl))) | (apply S_eql; (· exact gt_any rfl); (· exact gt_any rfl)) | exact gt_any rfl | exact rfl | fail)
  all_goals (unfold isKind; simp_all)

theorem isKind_cv (k : Int) : CV Tryd.prog 27 [.int .i64 k] (· = .bool (isKind k)) := by
  refine CV_intro tyOk Tryd.func27 (by kernel_rfl) rfl 9 rfl (by simp) [.tmp 2] rfl ?_
  intro w0 ok0
  repeat' (first | refine T_seq ?_ | refine N_then ?_ | refine T_regX tyOk ?_ | refine S_nil ?_ | refine T_ret ?_ | (apply E_tmp; (· exact rfl); (· (repeat' (first | exact pure_int _ _ | exact pure_bool _ | exact pure_str _); done))) | (apply S_gf; (· exact rfl); (· exact rfl); (· (first | assumption | exact rfl))) | (apply S_gfT'; (· exact rfl); (· exact rfl); (· exact rfl); (· (first | assumption | exact rfl))) | refine S_gsplit rfl rfl (fun _ => ?_) (fun _ => ?_) | apply S_move | apply S_assign | (apply S_pickT; (· exact gt_any rfl); (· (first | assumption | exact rfl))) | (apply S_pickF; (· exact gt_any rfl); (· (first | assumption | exact rfl))) | (apply S_eql; (· exact gt_any rfl); (· exact gt_any rfl)) | exact gt_any rfl | exact rfl | fail)
  all_goals (unfold isKind; simp_all)

theorem isNonce_cv (n : Int) : CV Tryd.prog 28 [.int .i64 n] (· = .bool (decide (1 ≤ n) && decide (n ≤ 1000000))) := by
  refine CV_intro tyOk Tryd.func28 (by kernel_rfl) rfl 5 rfl (by simp) [.tmp 2] rfl ?_
  intro w0 ok0
  repeat' (first | refine T_seq ?_ | refine N_then ?_ | refine T_regX tyOk ?_ | refine S_nil ?_ | refine T_ret ?_ | (apply E_tmp; (· exact rfl); (· (repeat' (first | exact pure_int _ _ | exact pure_bool _ | exact pure_str _); done))) | apply S_move | apply S_assign | apply S_callQ (f := 29) | apply in_cv | exact viewL_nil | apply viewL_cons | (apply View.pure; exact PureC.out) | exact FlatC.out | exact gt_any rfl | exact gts_nil | (apply gts_cons; (· exact gt_any rfl)) | exact rfl | fail)

def byteOf (n : Int) : UInt8 := UInt8.ofNat (n % 256).toNat

def putN (n : Int) : List UInt8 := [byteOf (n.fdiv (2 ^ 48)), byteOf (n.fdiv (2 ^ 40)), byteOf (n.fdiv (2 ^ 32)), byteOf (n.fdiv (2 ^ 24)), byteOf (n.fdiv (2 ^ 16)), byteOf (n.fdiv (2 ^ 8)), byteOf n]

def putPic (n : Int) : Nat → List UInt8
  | 0 => [0, 0, 0, 0, 0, 0, 0]
  | 1 => [0, 0, 0, 0, 0, 0, byteOf n]
  | 2 => [0, 0, 0, 0, 0, byteOf (n.fdiv (2 ^ 8)), byteOf n]
  | 3 => [0, 0, 0, 0, byteOf (n.fdiv (2 ^ 16)), byteOf (n.fdiv (2 ^ 8)), byteOf n]
  | 4 => [0, 0, 0, byteOf (n.fdiv (2 ^ 24)), byteOf (n.fdiv (2 ^ 16)), byteOf (n.fdiv (2 ^ 8)), byteOf n]
  | 5 => [0, 0, byteOf (n.fdiv (2 ^ 32)), byteOf (n.fdiv (2 ^ 24)), byteOf (n.fdiv (2 ^ 16)), byteOf (n.fdiv (2 ^ 8)), byteOf n]
  | 6 => [0, byteOf (n.fdiv (2 ^ 40)), byteOf (n.fdiv (2 ^ 32)), byteOf (n.fdiv (2 ^ 24)), byteOf (n.fdiv (2 ^ 16)), byteOf (n.fdiv (2 ^ 8)), byteOf n]
  | _ => putN n

def shN (n : Int) : Nat → Int
  | 0 => n
  | 1 => n.fdiv (2 ^ 8)
  | 2 => n.fdiv (2 ^ 16)
  | 3 => n.fdiv (2 ^ 24)
  | 4 => n.fdiv (2 ^ 32)
  | 5 => n.fdiv (2 ^ 40)
  | 6 => n.fdiv (2 ^ 48)
  | _ => n.fdiv (2 ^ 56)

end Go.Proofs.YtmaginepopldnaaDoor
