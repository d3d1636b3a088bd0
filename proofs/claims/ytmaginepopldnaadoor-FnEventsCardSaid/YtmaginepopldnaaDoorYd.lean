/- Logs and their records, by value. -/
import Derived.Test.YtmaginepopldnaaDoorWl
import Derived.Test.YtmaginepopldnaaDoorXl
import Derived.Test.YtmaginepopldnaaDoorXi
set_option maxRecDepth 100000
set_option maxHeartbeats 3200000
set_option linter.unusedSimpArgs false
set_option linter.unusedVariables false
namespace Go.Proofs.YtmaginepopldnaaDoor
open Go.Av
attribute [local irreducible] T thenQ blockQ againQ againS WX retV retR Gt Gts GtsP okCells CV CR Av.Pure
attribute [local irreducible] sha nextV

theorem lwBytes_cv (a b : List UInt8) : CV Tryd.prog 24 [sl1 (bA a), sl1 (bA b)] (· = .bool (decide (a = b))) := by
  refine CV_intro tyOk Tryd.func24 (by kernel_rfl) rfl 10 rfl (by simp) [.tmp 4] rfl ?_
  intro w0 ok0
  have e := str_eq (bStr a) (bStr b)
  rw [strB_bStr, strB_bStr] at e
  rw [← e]
  repeat' (first | refine T_seq ?_ | refine N_then ?_ | refine T_regX tyOk ?_ | refine S_nil ?_ | refine T_ret ?_ | (apply E_tmp; (· exact rfl); (· (repeat' (first | exact pure_int _ _ | exact pure_bool _ | exact pure_str _); done))) | apply S_move | apply S_assign | (apply M_convBS; (· exact rfl); (· exact rfl); (· exact rfl); (· exact gt_any rfl); (· exact rfl)) | (apply S_strEq; (· exact gt_any rfl); (· exact gt_any rfl)) | exact gt_any rfl | exact rfl | fail)

theorem lwBig_cv (code : List UInt8) : CV Tryd.prog 21 [sl1 (bA code)] (· = .bool (decide (1048576 < code.length))) := by
  refine CV_intro tyOk Tryd.func21 (by kernel_rfl) rfl 6 rfl (by simp) [.tmp 2] rfl ?_
  intro w0 ok0
  have hl := bA_length code
  have e : decide (1048576 < code.length) = decide ((1048576 : Int) < ((bA code).length : Int)) := by
    by_cases h : 1048576 < code.length
    · rw [decide_eq_true h, decide_eq_true (by omega)]
    · rw [decide_eq_false h, decide_eq_false (by omega)]
  rw [e]
  repeat' (first | refine T_seq ?_ | refine N_then ?_ | refine T_regX tyOk ?_ | refine S_nil ?_ | refine T_ret ?_ | (apply E_tmp; (· exact rfl); (· (repeat' (first | exact pure_int _ _ | exact pure_bool _ | exact pure_str _); done))) | apply S_move | apply S_assign | apply S_gtr | (apply S_len_ls; (· exact rfl); (· exact gt_any rfl)) | exact gt_any rfl | exact rfl | fail)

/-! frames laid behind one another are read -/
def frames (l : List (List UInt8)) : List UInt8 := (l.map frameL).flatten
end Go.Proofs.YtmaginepopldnaaDoor
