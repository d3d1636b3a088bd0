/- Heads and clients, as the helpers of the laws take them. -/
import Derived.Test.YtaolmfgpebncjaaGreatRa
import Derived.Test.YtaolmfgpebncjaaGreatGi
set_option maxRecDepth 100000
set_option maxHeartbeats 3200000
set_option linter.unusedSimpArgs false
set_option linter.unusedVariables false
namespace Go.Proofs.YtaolmfgpebncjaaGreat
open Go.Av
attribute [local irreducible] T thenQ blockQ againQ againS WX retV retR Gt Gts GtsP okCells CV CR Av.Pure

structure Hd where
  parent : List UInt8
  height : Int
  time : Int
  zeros : Int
  root : List UInt8
  nonce : Int
  deriving DecidableEq

abbrev Hd0 : Hd := ⟨[], 0, 0, 0, [], 0⟩

abbrev hdA (x : Hd) : AV := .agg [byA x.parent, .int .i64 x.height, .int .i64 x.time, .int .i64 x.zeros, byA x.root, .int .i64 x.nonce]

abbrev hdAC (x : Hd) : List AV := [byA x.parent, .int .i64 x.height, .int .i64 x.time, .int .i64 x.zeros, byA x.root, .int .i64 x.nonce]

instance : ElemF hdA := ⟨fun a y hy => by
  have h := (inferInstance : CellsC (hdAC a)).out y hy
  exact h⟩

abbrev hdAS (l : List Hd) : AV := .ls 6 true false (l.map hdA)

def HdW (x : Hd) : Nat := x.parent.length + x.root.length

def HdR (x : Hd) : Prop := x.parent.length ≤ 9223372036854775807 ∧ x.root.length ≤ 9223372036854775807

theorem szHead_cv (x : Hd) (left : Int) (hx : HdR x) (h0 : 0 ≤ left) (h1 : left ≤ 9223372036854775807) :
    CV Tryz.prog 112 [hdA x, .int .i64 left] (· = .int .i64 (szAfter left (HdW x))) := by
  refine CV_intro tyOk Tryz.func112 (by kernel_rfl) rfl 18 rfl (by simp) [.tmp 4] rfl ?_
  intro w0 ok0
  obtain ⟨hx0, hx1⟩ := hx
  have c0 := szByteS_cv x.parent (left) hx0 (by omega) (by omega)
  by_cases g0 : left - (x.parent.length : Nat) < 0
  · have e0 : szAfter (left) (x.parent.length : Nat) = -1 := szAfter_neg g0
    rw [e0] at c0
    have f : szAfter left (HdW x : Nat) = -1 := szAfter_neg (by unfold HdW; omega)
    rw [f]
    have d : decide ((-1 : Int) < 0) = true := rfl
    repeat' (first | refine T_seq ?_ | refine N_then ?_ | refine N_thenR ?_ | refine T_regX tyOk ?_ | refine S_nil ?_ | refine T_ret ?_ | (apply E_tmp; (· exact rfl); (· (repeat' (first | exact pure_int _ _ | exact pure_bool _ | exact pure_str _); done))) | (apply T_ifT; (· exact rfl); (· (first | assumption | exact rfl))) | apply S_move | apply S_assign | (apply S_loadP; (· exact rfl); (· exact gt_any rfl); (· exact rfl); (· exact rfl); (· exact rfl); (· (first | exact ⟨rfl, rfl⟩ | exact ⟨rfl, trivial⟩ | assumption))) | (apply S_fieldP; (· exact rfl); (· exact rfl); (· exact rfl); (· exact rfl); (· exact gt_any rfl)) | apply S_lss | apply S_box | apply S_callQ (f := 65) | apply c0 | exact viewL_nil | apply viewL_cons | (apply View.pure; exact PureC.out) | exact FlatC.out | exact gt_any rfl | exact gts_nil | (apply gts_cons; (· exact gt_any rfl)) | exact okCells_of rfl rfl | assumption | exact rfl | fail)
  have e0 : szAfter (left) (x.parent.length : Nat) = left - (x.parent.length : Nat) := by rw [szAfter_pos g0]; try omega
  rw [e0] at c0
  have d0 : decide (left - ((x.parent.length : Nat) : Int) < 0) = false := decide_eq_false (by omega)
  have c1 := szByteS_cv x.root (left - (x.parent.length : Nat)) hx1 (by omega) (by omega)
  by_cases g1 : left - (x.parent.length : Nat) - (x.root.length : Nat) < 0
  · have e1 : szAfter (left - (x.parent.length : Nat)) (x.root.length : Nat) = -1 := szAfter_neg g1
    rw [e1] at c1
    have f : szAfter left (HdW x : Nat) = -1 := szAfter_neg (by unfold HdW; omega)
    rw [f]
    have d : decide ((-1 : Int) < 0) = true := rfl
    repeat' (first | refine T_seq ?_ | refine N_then ?_ | refine N_thenR ?_ | refine T_regX tyOk ?_ | refine S_nil ?_ | refine T_skip ?_ | refine T_ret ?_ | (apply E_tmp; (· exact rfl); (· (repeat' (first | exact pure_int _ _ | exact pure_bool _ | exact pure_str _); done))) | (apply T_ifT; (· exact rfl); (· (first | assumption | exact rfl))) | (apply T_ifF; (· exact rfl); (· (first | assumption | exact rfl))) | apply S_move | apply S_assign | (apply S_loadP; (· exact rfl); (· exact gt_any rfl); (· exact rfl); (· exact rfl); (· exact rfl); (· (first | exact ⟨rfl, rfl⟩ | exact ⟨rfl, trivial⟩ | assumption))) | (apply S_fieldP; (· exact rfl); (· exact rfl); (· exact rfl); (· exact rfl); (· exact gt_any rfl)) | apply S_lss | apply S_box | apply S_callQ (f := 65) | apply c0 | apply c1 | exact viewL_nil | apply viewL_cons | (apply View.pure; exact PureC.out) | exact FlatC.out | exact gt_any rfl | exact gts_nil | (apply gts_cons; (· exact gt_any rfl)) | exact okCells_of rfl rfl | assumption | exact rfl | fail)
  have e1 : szAfter (left - (x.parent.length : Nat)) (x.root.length : Nat) = left - (x.parent.length + x.root.length : Nat) := by rw [szAfter_pos g1]; try omega
  rw [e1] at c1
  have d1 : decide (left - ((x.parent.length + x.root.length : Nat) : Int) < 0) = false := decide_eq_false (by omega)
  have f : szAfter left (HdW x : Nat) = left - (x.parent.length + x.root.length : Nat) := szAfter_pos (by unfold HdW; omega)
  rw [f]
  repeat' (first | refine T_seq ?_ | refine N_then ?_ | refine T_regX tyOk ?_ | refine S_nil ?_ | refine T_skip ?_ | refine T_ret ?_ | (apply E_tmp; (· exact rfl); (· (repeat' (first | exact pure_int _ _ | exact pure_bool _ | exact pure_str _); done))) | (apply T_ifF; (· exact rfl); (· (first | assumption | exact rfl))) | apply S_move | apply S_assign | (apply S_loadP; (· exact rfl); (· exact gt_any rfl); (· exact rfl); (· exact rfl); (· exact rfl); (· (first | exact ⟨rfl, rfl⟩ | exact ⟨rfl, trivial⟩ | assumption))) | (apply S_fieldP; (· exact rfl); (· exact rfl); (· exact rfl); (· exact rfl); (· exact gt_any rfl)) | apply S_lss | apply S_box | apply S_callQ (f := 65) | apply c0 | apply c1 | exact viewL_nil | apply viewL_cons | (apply View.pure; exact PureC.out) | exact FlatC.out | exact gt_any rfl | exact gts_nil | (apply gts_cons; (· exact gt_any rfl)) | exact okCells_of rfl rfl | exact rfl | fail)

theorem eqHead_cv (x : Hd) (h : HdW x ≤ 1048576) : CV Tryz.prog 120 [hdA x, hdA x] (· = .bool true) := by
  refine CV_intro tyOk Tryz.func120 (by kernel_rfl) rfl 37 rfl (by simp) [.tmp 4] rfl ?_
  intro w0 ok0
  unfold HdW at h
  have c0 := eqB_cv x.parent (by omega)
  have c1 := eqB_cv x.root (by omega)
  have i1 : (!decide (x.height = x.height)) = false := by simp
  have i2 : (!decide (x.time = x.time)) = false := by simp
  have i3 : (!decide (x.zeros = x.zeros)) = false := by simp
  have i5 : (!decide (x.nonce = x.nonce)) = false := by simp
  repeat' (first | refine T_seq ?_ | refine N_then ?_ | refine T_regX tyOk ?_ | refine S_nil ?_ | refine T_skip ?_ | refine T_ret ?_ | (apply E_tmp; (· exact rfl); (· (repeat' (first | exact pure_int _ _ | exact pure_bool _ | exact pure_str _); done))) | (apply T_ifF; (· exact rfl); (· (first | assumption | exact rfl))) | apply S_assign | (apply S_loadP; (· exact rfl); (· exact gt_any rfl); (· exact rfl); (· exact rfl); (· exact rfl); (· (first | exact ⟨rfl, rfl⟩ | exact ⟨rfl, trivial⟩ | assumption))) | (apply S_fieldP; (· exact rfl); (· exact rfl); (· exact rfl); (· exact rfl); (· exact gt_any rfl)) | (apply S_neq; (· exact gt_any rfl); (· exact gt_any rfl)) | apply S_not | apply S_box | apply S_callQ (f := 34) | apply c0 | apply c1 | exact viewL_nil | apply viewL_cons | (apply View.pure; exact PureC.out) | exact FlatC.out | exact gt_any rfl | exact gts_nil | (apply gts_cons; (· exact gt_any rfl)) | exact okCells_of rfl rfl | exact rfl | fail)

structure Cli where
  heads : List Hd
  depth : Int
  deriving DecidableEq

abbrev Cli0 : Cli := ⟨[], 0⟩

abbrev cliA (x : Cli) : AV := .agg [hdAS x.heads, .int .i64 x.depth]

abbrev cliAC (x : Cli) : List AV := [hdAS x.heads, .int .i64 x.depth]

instance : ElemF cliA := ⟨fun a y hy => by
  have h := (inferInstance : CellsC (cliAC a)).out y hy
  exact h⟩

abbrev cliAS (l : List Cli) : AV := .ls 2 true false (l.map cliA)

def CliW (x : Cli) : Nat := listW HdW x.heads

def CliR (x : Cli) : Prop := listR HdR x.heads

end Go.Proofs.YtaolmfgpebncjaaGreat
