/- Ranges, kinds, and the seven bytes of a number. -/
import Derived.Test.YthfikpgbddpmoaaWa
set_option maxRecDepth 100000
set_option maxHeartbeats 3200000
set_option linter.unusedSimpArgs false
set_option linter.unusedVariables false
namespace Go.Proofs.Ythfikpgbddpmoaa
open Go.Av
attribute [local irreducible] T thenQ blockQ againQ againS WX retV retR Gt Gts GtsP okCells CV CR Av.Pure

theorem in_cv (n lo hi : Int) : CV Try.prog 86 [.int .i64 n, .int .i64 lo, .int .i64 hi] (· = .bool (decide (lo ≤ n) && decide (n ≤ hi))) := by
  refine CV_intro tyOk Try.func86 (by kernel_rfl) rfl 15 rfl (by simp) [.tmp 6] rfl ?_
  intro w0 ok0
  repeat' (first | refine T_seq ?_ | refine N_then ?_ | refine T_regX tyOk ?_ | refine S_nil ?_ | refine T_ret ?_ | (apply E_tmp; (· exact rfl); (· (repeat' (first | exact pure_int _ _ | exact pure_bool _ | exact pure_str _); done))) | (apply S_gt; (· exact rfl); (· exact rfl); (· (first | assumption | exact rfl))) | (apply S_gtF'; (· exact rfl); (· exact rfl); (· exact rfl); (· (first | assumption | exact rfl))) | refine S_gsplit rfl rfl (fun _ => ?_) (fun _ => ?_) | apply S_move | apply S_assign | (apply S_pickT; (· exact gt_any rfl); (· (first | assumption | exact rfl))) | (apply S_pickF; (· exact gt_any rfl); (· (first | assumption | exact rfl))) | apply S_leq | exact gt_any rfl | exact rfl | fail)
  all_goals (first | rfl | (simp_all; done) | (simp_all; omega))

def isKind (k : Int) : Bool := decide (k = 1) || decide (k = 2)

def byteOf (n : Int) : UInt8 := UInt8.ofNat (n % 256).toNat

theorem byteOf_int (n : Int) : ((byteOf n).toNat : Int) = n % 256 := by
  unfold byteOf
  have h1 : 0 ≤ n % 256 := Int.emod_nonneg _ (by decide)
  have h2 : n % 256 < 256 := Int.emod_lt_of_pos _ (by decide)
  rw [UInt8.toNat_ofNat']
  rw [Nat.mod_eq_of_lt (by omega)]
  omega

theorem wrap_byte (n : Int) : IntKind.wrap .u8 n = ((byteOf n).toNat : Int) := by
  rw [byteOf_int]
  simp [IntKind.wrap, IntKind.bits, IntKind.signed]

def putN (n : Int) : List UInt8 := [byteOf (n.fdiv (2 ^ 48)), byteOf (n.fdiv (2 ^ 40)), byteOf (n.fdiv (2 ^ 32)), byteOf (n.fdiv (2 ^ 24)), byteOf (n.fdiv (2 ^ 16)), byteOf (n.fdiv (2 ^ 8)), byteOf n]

def putPic (n : Int) : Nat → List UInt8
  | 0 => [0, 0, 0, 0, 0, 0, 0]
  | 1 => [0, 0, 0, 0, 0, 0, byteOf n]
  | 2 => [0, 0, 0, 0, 0, byteOf (n.fdiv (2 ^ 8)), byteOf n]
  | 3 => [0, 0, 0, 0, byteOf (n.fdiv (2 ^ 16)), byteOf (n.fdiv (2 ^ 8)), byteOf n]
  | 4 => [0, 0, 0, byteOf (n.fdiv (2 ^ 24)), byteOf (n.fdiv (2 ^ 16)), byteOf (n.fdiv (2 ^ 8)), byteOf n]
  | 5 => [0, 0, byteOf (n.fdiv (2 ^ 32)), byteOf (n.fdiv (2 ^ 24)), byteOf (n.fdiv (2 ^ 16)), byteOf (n.fdiv (2 ^ 8)), byteOf n]
  | 6 => [0, byteOf (n.fdiv (2 ^ 40)), byteOf (n.fdiv (2 ^ 32)), byteOf (n.fdiv (2 ^ 24)), byteOf (n.fdiv (2 ^ 16)), byteOf (n.fdiv (2 ^ 8)), byteOf n]
  | _ => putN n

def shN (n : Int) : Nat → Int
  | 0 => n
  | 1 => n.fdiv (2 ^ 8)
  | 2 => n.fdiv (2 ^ 16)
  | 3 => n.fdiv (2 ^ 24)
  | 4 => n.fdiv (2 ^ 32)
  | 5 => n.fdiv (2 ^ 40)
  | 6 => n.fdiv (2 ^ 48)
  | _ => n.fdiv (2 ^ 56)

end Go.Proofs.Ythfikpgbddpmoaa
