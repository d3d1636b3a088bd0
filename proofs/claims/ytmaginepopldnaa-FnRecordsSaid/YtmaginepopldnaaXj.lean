/- Bytes compared; records read, by value. -/
import Derived.Test.YtmaginepopldnaaXh
import Derived.Test.YtmaginepopldnaaGi
set_option maxRecDepth 100000
set_option maxHeartbeats 3200000
set_option linter.unusedSimpArgs false
set_option linter.unusedVariables false
namespace Go.Proofs.Ytmaginepopldnaa
open Go.Av
attribute [local irreducible] T thenQ blockQ againQ againS WX retV retR Gt Gts GtsP okCells CV CR Av.Pure
attribute [local irreducible] sha

def cmpL : List UInt8 → List UInt8 → Int
  | [], [] => 0
  | [], _ :: _ => -1
  | _ :: _, [] => 1
  | a :: u, b :: v => if a.toNat < b.toNat then -1 else if b.toNat < a.toNat then 1 else cmpL u v
theorem equal_cv (a b : List UInt8) : CV Try.prog 134 [sl1 (bA a), sl1 (bA b)] (· = .bool (decide (a = b))) := by
  refine CV_intro tyOk Try.func134 (by kernel_rfl) rfl 10 rfl (by simp) [.tmp 4] rfl ?_
  intro w0 ok0
  have e := str_eq (bStr a) (bStr b)
  rw [strB_bStr, strB_bStr] at e
  rw [← e]
  repeat' (first | refine T_seq ?_ | refine N_then ?_ | refine T_regX tyOk ?_ | refine S_nil ?_ | refine T_ret ?_ | (apply E_tmp; (· exact rfl); (· (repeat' (first | exact pure_int _ _ | exact pure_bool _ | exact pure_str _); done))) | apply S_move | apply S_assign | (apply M_convBS; (· exact rfl); (· exact rfl); (· exact rfl); (· exact gt_any rfl); (· exact rfl)) | (apply S_strEq; (· exact gt_any rfl); (· exact gt_any rfl)) | exact gt_any rfl | exact rfl | fail)

end Go.Proofs.Ytmaginepopldnaa
