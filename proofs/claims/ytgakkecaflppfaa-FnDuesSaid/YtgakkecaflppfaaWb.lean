/- Ranges, kinds, and the seven bytes of a number. -/
import Derived.Test.YtgakkecaflppfaaWa
set_option maxRecDepth 100000
set_option maxHeartbeats 3200000
set_option linter.unusedSimpArgs false
set_option linter.unusedVariables false
namespace Go.Proofs.Ytgakkecaflppfaa
open Go.Av
attribute [local irreducible] T thenQ blockQ againQ againS WX retV retR Gt Gts GtsP okCells CV CR Av.Pure

theorem in_cv (n lo hi : Int) : CV Try.prog 62 [.int .i64 n, .int .i64 lo, .int .i64 hi] (· = .bool (decide (lo ≤ n) && decide (n ≤ hi))) := by
  refine CV_intro tyOk Try.func62 (by kernel_rfl) rfl 15 rfl (by simp) [.tmp 6] rfl ?_
  intro w0 ok0
  repeat' (first | refine T_seq ?_ | refine N_then ?_ | refine T_regX tyOk ?_ | refine S_nil ?_ | refine T_ret ?_ | (apply E_tmp; (· exact rfl); (· (repeat' (first | exact pure_int _ _ | exact pure_bool _ | exact pure_str _); done))) | (apply S_gt; (· exact rfl); (· exact rfl); (· (first | assumption | exact rfl))) | (apply S_gtF'; (· exact rfl); (· exact rfl); (· exact rfl); (· (first | assumption | exact rfl))) | refine S_gsplit rfl rfl (fun _ => ?_) (fun _ => ?_) | apply S_move | apply S_assign | (apply S_pickT; (· exact gt_any rfl); (· (first | assumption | exact rfl))) | (apply S_pickF; (· exact gt_any rfl); (· (first | assumption | exact rfl))) | apply S_leq | exact gt_any rfl | exact rfl | fail)
  all_goals (first | rfl | (simp_all; done) | (simp_all; omega))

theorem l1In_cv (n lo hi : Int) : CV Try.prog 60 [.int .i64 n, .int .i64 lo, .int .i64 hi] (· = .bool (decide (lo ≤ n) && decide (n ≤ hi))) := by
  refine CV_intro tyOk Try.func60 (by kernel_rfl) rfl 15 rfl (by simp) [.tmp 6] rfl ?_
  intro w0 ok0
  repeat' (first | refine T_seq ?_ | refine N_then ?_ | refine T_regX tyOk ?_ | refine S_nil ?_ | refine T_ret ?_ | (apply E_tmp; (· exact rfl); (· (repeat' (first | exact pure_int _ _ | exact pure_bool _ | exact pure_str _); done))) | (apply S_gt; (· exact rfl); (· exact rfl); (· (first | assumption | exact rfl))) | (apply S_gtF'; (· exact rfl); (· exact rfl); (· exact rfl); (· (first | assumption | exact rfl))) | refine S_gsplit rfl rfl (fun _ => ?_) (fun _ => ?_) | apply S_move | apply S_assign | (apply S_pickT; (· exact gt_any rfl); (· (first | assumption | exact rfl))) | (apply S_pickF; (· exact gt_any rfl); (· (first | assumption | exact rfl))) | apply S_leq | apply S_geq | exact gt_any rfl | exact rfl | fail)
  all_goals (first | rfl | (simp_all; done) | (simp_all; omega))

theorem l1Min_cv (a b : Int) : CV Try.prog 61 [.int .i64 a, .int .i64 b] (· = .int .i64 (if a < b then a else b)) := by
  refine CV_intro tyOk Try.func61 (by kernel_rfl) rfl 10 rfl (by simp) [.tmp 4] rfl ?_
  intro w0 ok0
  repeat' (first | refine T_seq ?_ | refine N_then ?_ | refine N_thenR ?_ | refine T_regX tyOk ?_ | refine S_nil ?_ | refine T_skip ?_ | refine T_ret ?_ | (apply E_tmp; (· exact rfl); (· (repeat' (first | exact pure_int _ _ | exact pure_bool _ | exact pure_str _); done))) | refine T_if rfl (fun _ => ?_) (fun _ => ?_) | apply S_move | apply S_assign | apply S_lss | exact gt_any rfl | exact rfl | fail)
  all_goals (first | rfl | (simp_all; done) | (simp_all; omega))

def isKind (k : Int) : Bool := decide (k = 1) || decide (k = 2)

def byteOf (n : Int) : UInt8 := UInt8.ofNat (n % 256).toNat

def putN (n : Int) : List UInt8 := [byteOf (n.fdiv (2 ^ 48)), byteOf (n.fdiv (2 ^ 40)), byteOf (n.fdiv (2 ^ 32)), byteOf (n.fdiv (2 ^ 24)), byteOf (n.fdiv (2 ^ 16)), byteOf (n.fdiv (2 ^ 8)), byteOf n]

def putPic (n : Int) : Nat → List UInt8
  | 0 => [0, 0, 0, 0, 0, 0, 0]
  | 1 => [0, 0, 0, 0, 0, 0, byteOf n]
  | 2 => [0, 0, 0, 0, 0, byteOf (n.fdiv (2 ^ 8)), byteOf n]
  | 3 => [0, 0, 0, 0, byteOf (n.fdiv (2 ^ 16)), byteOf (n.fdiv (2 ^ 8)), byteOf n]
  | 4 => [0, 0, 0, byteOf (n.fdiv (2 ^ 24)), byteOf (n.fdiv (2 ^ 16)), byteOf (n.fdiv (2 ^ 8)), byteOf n]
  | 5 => [0, 0, byteOf (n.fdiv (2 ^ 32)), byteOf (n.fdiv (2 ^ 24)), byteOf (n.fdiv (2 ^ 16)), byteOf (n.fdiv (2 ^ 8)), byteOf n]
  | 6 => [0, byteOf (n.fdiv (2 ^ 40)), byteOf (n.fdiv (2 ^ 32)), byteOf (n.fdiv (2 ^ 24)), byteOf (n.fdiv (2 ^ 16)), byteOf (n.fdiv (2 ^ 8)), byteOf n]
  | _ => putN n

def shN (n : Int) : Nat → Int
  | 0 => n
  | 1 => n.fdiv (2 ^ 8)
  | 2 => n.fdiv (2 ^ 16)
  | 3 => n.fdiv (2 ^ 24)
  | 4 => n.fdiv (2 ^ 32)
  | 5 => n.fdiv (2 ^ 40)
  | 6 => n.fdiv (2 ^ 48)
  | _ => n.fdiv (2 ^ 56)

end Go.Proofs.Ytgakkecaflppfaa
