/- By when a relayer has tried so often. -/
import Derived.Test.YtmaginepopldnaaDoorYa
set_option maxRecDepth 100000
set_option maxHeartbeats 3200000
set_option linter.unusedSimpArgs false
set_option linter.unusedVariables false
namespace Go.Proofs.YtmaginepopldnaaDoor
open Go.Av
attribute [local irreducible] T thenQ blockQ againQ againS WX retV retR Gt Gts GtsP okCells CV CR Av.Pure

def waitN (k : Nat) : Nat := min k 8
def latN (now : Int) : Nat → Int
  | 0 => now
  | k + 1 => latN now k + 2 ^ waitN (k + 1)
def latOk (now tries : Int) : Bool := (decide (0 ≤ now) && decide (now ≤ 1099511627776)) && (decide (0 ≤ tries) && decide (tries ≤ 20))
def latC (now tries : Int) : Int := if latOk now tries = true then 0 else 3
def latV (now tries : Int) : Int := if latOk now tries = true then latN now tries.toNat else 0

theorem lwBig_cv (code : List UInt8) : CV Tryd.prog 21 [sl1 (bA code)] (· = .bool (decide (1048576 < code.length))) := by
  refine CV_intro tyOk Tryd.func21 (by kernel_rfl) rfl 6 rfl (by simp) [.tmp 2] rfl ?_
  intro w0 ok0
  have hl := bA_length code
  have e : decide (1048576 < code.length) = decide ((1048576 : Int) < ((bA code).length : Int)) := by
    by_cases h : 1048576 < code.length
    · rw [decide_eq_true h, decide_eq_true (by omega)]
    · rw [decide_eq_false h, decide_eq_false (by omega)]
  rw [e]
  repeat' (first | refine T_seq ?_ | refine N_then ?_ | refine T_regX tyOk ?_ | refine S_nil ?_ | refine T_ret ?_ | (apply E_tmp; (· exact rfl); (· (repeat' (first | exact pure_int _ _ | exact pure_bool _ | exact pure_str _); done))) | apply S_move | apply S_assign | apply S_gtr | (apply S_len_ls; (· exact rfl); (· exact gt_any rfl)) | exact gt_any rfl | exact rfl | fail)

end Go.Proofs.YtmaginepopldnaaDoor
