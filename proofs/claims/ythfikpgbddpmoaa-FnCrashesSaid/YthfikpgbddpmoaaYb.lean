/- By when a relayer has tried so often. -/
import Derived.Test.YthfikpgbddpmoaaYa
set_option maxRecDepth 100000
set_option maxHeartbeats 3200000
set_option linter.unusedSimpArgs false
set_option linter.unusedVariables false
namespace Go.Proofs.Ythfikpgbddpmoaa
open Go.Av
attribute [local irreducible] T thenQ blockQ againQ againS WX retV retR Gt Gts GtsP okCells CV CR Av.Pure

/-- The waits' powers. -/
def waitN (k : Nat) : Nat := min k 8
def latN (now : Int) : Nat → Int
  | 0 => now
  | k + 1 => latN now k + 2 ^ waitN (k + 1)
theorem wait_le (k : Nat) : (2 : Int) ^ waitN k ≤ 256 ∧ (0 : Int) ≤ 2 ^ waitN k := by
  have : waitN k = 0 ∨ waitN k = 1 ∨ waitN k = 2 ∨ waitN k = 3 ∨ waitN k = 4 ∨ waitN k = 5 ∨ waitN k = 6 ∨ waitN k = 7 ∨ waitN k = 8 := by unfold waitN; omega
  rcases this with e | e | e | e | e | e | e | e | e <;> rw [e] <;> decide
theorem latN_le (now : Int) : ∀ k, now ≤ latN now k ∧ latN now k ≤ now + 256 * k
  | 0 => by simp [latN]
  | k + 1 => by
    have ih := latN_le now k
    have hw := wait_le (k + 1)
    simp only [latN]
    omega

def latOk (now tries : Int) : Bool := (decide (0 ≤ now) && decide (now ≤ 1099511627776)) && (decide (0 ≤ tries) && decide (tries ≤ 20))
def latC (now tries : Int) : Int := if latOk now tries = true then 0 else 3
def latV (now tries : Int) : Int := if latOk now tries = true then latN now tries.toNat else 0

theorem pow_shl (m : Int) (k : Nat) (h : m = (waitN k : Nat)) : IntKind.wrap .i64 (1 * 2 ^ min m.toNat IntKind.i64.bits) = 2 ^ waitN k := by
  subst h
  rw [Int.toNat_natCast]
  have : waitN k = 0 ∨ waitN k = 1 ∨ waitN k = 2 ∨ waitN k = 3 ∨ waitN k = 4 ∨ waitN k = 5 ∨ waitN k = 6 ∨ waitN k = 7 ∨ waitN k = 8 := by unfold waitN; omega
  rcases this with e | e | e | e | e | e | e | e | e <;> rw [e] <;> decide

theorem lwBig_cv (code : List UInt8) : CV Try.prog 13 [sl1 (bA code)] (· = .bool (decide (1048576 < code.length))) := by
  refine CV_intro tyOk Try.func13 (by kernel_rfl) rfl 6 rfl (by simp) [.tmp 2] rfl ?_
  intro w0 ok0
  have hl := bA_length code
  have e : decide (1048576 < code.length) = decide ((1048576 : Int) < ((bA code).length : Int)) := by
    by_cases h : 1048576 < code.length
    · rw [decide_eq_true h, decide_eq_true (by omega)]
    · rw [decide_eq_false h, decide_eq_false (by omega)]
  rw [e]
  repeat' (first | refine T_seq ?_ | refine N_then ?_ | refine T_regX tyOk ?_ | refine S_nil ?_ | refine T_ret ?_ | (apply E_tmp; (· exact rfl); (· (repeat' (first | exact pure_int _ _ | exact pure_bool _ | exact pure_str _); done))) | apply S_move | apply S_assign | apply S_gtr | (apply S_len_ls; (· exact rfl); (· exact gt_any rfl)) | exact gt_any rfl | exact rfl | fail)

end Go.Proofs.Ythfikpgbddpmoaa
