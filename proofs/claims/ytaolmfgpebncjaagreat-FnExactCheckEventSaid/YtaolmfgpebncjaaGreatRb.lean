/- Proofs and signatures, as the helpers of the laws take them. -/
import Derived.Test.YtaolmfgpebncjaaGreatRa
import Derived.Test.YtaolmfgpebncjaaGreatGi
set_option maxRecDepth 100000
set_option maxHeartbeats 3200000
set_option linter.unusedSimpArgs false
set_option linter.unusedVariables false
namespace Go.Proofs.YtaolmfgpebncjaaGreat
open Go.Av
attribute [local irreducible] T thenQ blockQ againQ againS WX retV retR Gt Gts GtsP okCells CV CR Av.Pure

structure Prf where
  place : Int
  count : Int
  path : List (List UInt8)
  deriving DecidableEq

abbrev Prf0 : Prf := ⟨0, 0, []⟩

abbrev prfA (x : Prf) : AV := .agg [.int .i64 x.place, .int .i64 x.count, rowsA x.path]

abbrev prfAC (x : Prf) : List AV := [.int .i64 x.place, .int .i64 x.count, rowsA x.path]

instance : ElemF prfA := ⟨fun a y hy => by
  have h := (inferInstance : CellsC (prfAC a)).out y hy
  exact h⟩

abbrev prfAS (l : List Prf) : AV := .ls 3 true false (l.map prfA)

def PrfW (x : Prf) : Nat := listW List.length x.path

def PrfR (x : Prf) : Prop := rowsR x.path

theorem szProof_cv (x : Prf) (left : Int) (hx : PrfR x) (h0 : 0 ≤ left) (h1 : left ≤ 9223372036854775807) :
    CV Tryz.prog 27 [prfA x, .int .i64 left] (· = .int .i64 (szAfter left (PrfW x))) := by
  refine CV_intro tyOk Tryz.func27 (by kernel_rfl) rfl 12 rfl (by simp) [.tmp 4] rfl ?_
  intro w0 ok0
  have hx0 : rowsR x.path := hx
  have c0 := szByteSS_cv x.path (left) hx0 (by omega) (by omega)
  by_cases g0 : left - (listW List.length x.path : Nat) < 0
  · have e0 : szAfter (left) (listW List.length x.path : Nat) = -1 := szAfter_neg g0
    rw [e0] at c0
    have f : szAfter left (PrfW x : Nat) = -1 := szAfter_neg (by unfold PrfW; omega)
    rw [f]
    have d : decide ((-1 : Int) < 0) = true := rfl
    repeat' (first | refine T_seq ?_ | refine N_then ?_ | refine N_thenR ?_ | refine T_regX tyOk ?_ | refine S_nil ?_ | refine T_ret ?_ | (apply E_tmp; (· exact rfl); (· (repeat' (first | exact pure_int _ _ | exact pure_bool _ | exact pure_str _); done))) | (apply T_ifT; (· exact rfl); (· (first | assumption | exact rfl))) | apply S_move | apply S_assign | (apply S_loadP; (· exact rfl); (· exact gt_any rfl); (· exact rfl); (· exact rfl); (· exact rfl); (· (first | exact ⟨rfl, rfl⟩ | exact ⟨rfl, trivial⟩ | assumption))) | (apply S_fieldP; (· exact rfl); (· exact rfl); (· exact rfl); (· exact rfl); (· exact gt_any rfl)) | apply S_lss | apply S_box | apply S_callQ (f := 17) | apply c0 | exact viewL_nil | apply viewL_cons | (apply View.pure; exact PureC.out) | exact FlatC.out | exact gt_any rfl | exact gts_nil | (apply gts_cons; (· exact gt_any rfl)) | exact okCells_of rfl rfl | assumption | exact rfl | fail)
  have e0 : szAfter (left) (listW List.length x.path : Nat) = left - (listW List.length x.path : Nat) := by rw [szAfter_pos g0]; try omega
  rw [e0] at c0
  have d0 : decide (left - ((listW List.length x.path : Nat) : Int) < 0) = false := decide_eq_false (by omega)
  have f : szAfter left (PrfW x : Nat) = left - (listW List.length x.path : Nat) := szAfter_pos (by unfold PrfW; omega)
  rw [f]
  repeat' (first | refine T_seq ?_ | refine N_then ?_ | refine T_regX tyOk ?_ | refine S_nil ?_ | refine T_skip ?_ | refine T_ret ?_ | (apply E_tmp; (· exact rfl); (· (repeat' (first | exact pure_int _ _ | exact pure_bool _ | exact pure_str _); done))) | (apply T_ifF; (· exact rfl); (· (first | assumption | exact rfl))) | apply S_move | apply S_assign | (apply S_loadP; (· exact rfl); (· exact gt_any rfl); (· exact rfl); (· exact rfl); (· exact rfl); (· (first | exact ⟨rfl, rfl⟩ | exact ⟨rfl, trivial⟩ | assumption))) | (apply S_fieldP; (· exact rfl); (· exact rfl); (· exact rfl); (· exact rfl); (· exact gt_any rfl)) | apply S_lss | apply S_box | apply S_callQ (f := 17) | apply c0 | exact viewL_nil | apply viewL_cons | (apply View.pure; exact PureC.out) | exact FlatC.out | exact gt_any rfl | exact gts_nil | (apply gts_cons; (· exact gt_any rfl)) | exact okCells_of rfl rfl | exact rfl | fail)

theorem toProof_cv (x : Prf) (h : PrfW x ≤ 1048576) : CV Tryz.prog 31 [prfA x] (· = prfA x) := by
  refine CV_intro tyOk Tryz.func31 (by kernel_rfl) rfl 15 rfl (by simp) [.cell 2 63] rfl ?_
  intro w0 ok0
  unfold PrfW at h
  have c0 := toByteSS_cv x.path (by omega)
  repeat' (first | refine T_seq ?_ | refine N_then ?_ | refine T_regX tyOk ?_ | refine S_nil ?_ | refine T_ret ?_ | (apply E_X <;> repeat' (first | exact resL_nil | (apply resL_tmp; (· exact rfl)) | (apply resL_cell; (· exact rfl); (· exact rfl); (· exact rfl); (· exact rfl); (· exact rfl); (· exact rfl)) | (apply resL_arr; (· exact rfl); (· exact rfl); (· exact rfl); (· exact rfl); (· (first | assumption | exact rfl))) | exact viewL_nil | apply viewL_cons | apply view_nothingE | (apply view_slE; (· exact rfl); (· first | exact rfl | assumption | (simp [bA_length]; done) | (simp [bA_length]; omega) | omega); (· exact PureEC.out)) | (apply view_loose; (· exact PureEC.out)) | apply view_agg | apply view_tup | (apply View.ofEq; (· exact PureC.out)) | exact rfl)) | (apply S_loadP; (· exact rfl); (· exact gt_any rfl); (· exact rfl); (· exact rfl); (· exact rfl); (· (first | exact ⟨rfl, rfl⟩ | exact ⟨rfl, trivial⟩ | assumption))) | (apply S_loadW; (· exact rfl); (· exact gt_any rfl); (· exact rfl); (· exact rfl); (· exact rfl); (· exact rfl); (· exact rfl); (· exact rfl)) | (apply S_fieldP; (· exact rfl); (· exact rfl); (· exact rfl); (· exact rfl); (· exact gt_any rfl)) | apply S_alloc | apply S_box | (apply S_store1; (· exact rfl); (· exact gt_any rfl); (· exact rfl); (· exact rfl); (· exact rfl); (· exact rfl)) | (apply S_storeF; (· exact rfl); (· exact gt_any rfl); (· exact rfl); (· exact rfl); (· exact rfl); (· exact rfl); (· exact gt_any rfl); (· exact rfl); (· exact rfl); (· (repeat' constructor))) | apply S_call (f := 19) | apply c0 | exact PureLC.out | exact gt_any rfl | exact gts_nil | (apply gts_cons; (· exact gt_any rfl)) | exact okCells_of rfl rfl | exact rfl | fail)

theorem eqProof_cv (x : Prf) (h : PrfW x ≤ 1048576) : CV Tryz.prog 35 [prfA x, prfA x] (· = .bool true) := by
  refine CV_intro tyOk Tryz.func35 (by kernel_rfl) rfl 21 rfl (by simp) [.tmp 4] rfl ?_
  intro w0 ok0
  unfold PrfW at h
  have c0 := eqByteSS_cv x.path (by omega)
  have i0 : (!decide (x.place = x.place)) = false := by simp
  have i1 : (!decide (x.count = x.count)) = false := by simp
  repeat' (first | refine T_seq ?_ | refine N_then ?_ | refine T_regX tyOk ?_ | refine S_nil ?_ | refine T_skip ?_ | refine T_ret ?_ | (apply E_tmp; (· exact rfl); (· (repeat' (first | exact pure_int _ _ | exact pure_bool _ | exact pure_str _); done))) | (apply T_ifF; (· exact rfl); (· (first | assumption | exact rfl))) | apply S_assign | (apply S_loadP; (· exact rfl); (· exact gt_any rfl); (· exact rfl); (· exact rfl); (· exact rfl); (· (first | exact ⟨rfl, rfl⟩ | exact ⟨rfl, trivial⟩ | assumption))) | (apply S_fieldP; (· exact rfl); (· exact rfl); (· exact rfl); (· exact rfl); (· exact gt_any rfl)) | (apply S_neq; (· exact gt_any rfl); (· exact gt_any rfl)) | apply S_not | apply S_box | apply S_callQ (f := 22) | apply c0 | exact viewL_nil | apply viewL_cons | (apply View.pure; exact PureC.out) | exact FlatC.out | exact gt_any rfl | exact gts_nil | (apply gts_cons; (· exact gt_any rfl)) | exact okCells_of rfl rfl | exact rfl | fail)

theorem elemProof {x : AV} {ei : TI} {n : Nat} (hk : isAggK ei.k = true) (h : TyN ty (n + 3) 54 x.cells ∧ x = (if isAggK ei.k then .agg x.cells else x.cells.getD 0 .undef)) : ∃ a : Prf, x = prfA a ∧ PrfR a := by
  obtain ⟨⟨ls, h1, h2, h3⟩, h4⟩ := h
  have hl : leafs ty 8 54 = some [2, 2, 35] := rfl
  rw [hl] at h1
  obtain rfl := Option.some.inj h1
  rw [if_pos hk] at h4
  generalize x.cells = cs at h2 h3 h4
  subst h4
  match cs, h2 with
  | [a0, a1, a2], _ =>
    obtain ⟨i0, rfl, _⟩ := h3 0 _ _ rfl rfl
    obtain ⟨i1, rfl, _⟩ := h3 1 _ _ rfl rfl
    obtain ⟨e2, xs2, u2, rfl, v2, w2⟩ := h3 2 _ _ rfl rfl
    obtain rfl := Option.some.inj u2
    obtain ⟨q2, rfl, z2⟩ := rows_of xs2 w2
    rw [List.length_map] at v2
    exact ⟨⟨i0, i1, q2⟩, rfl, ⟨v2, z2⟩⟩

theorem isProof {x : AV} (h : TyV ty 54 x) : ∃ a : Prf, x = prfA a ∧ PrfR a := by
  have h3 := h.2.2.1 ⟨_, rfl, rfl⟩
  have hk : ∃ ei, ty 54 = some ei ∧ isAggK ei.k = true := ⟨_, rfl, rfl⟩
  obtain ⟨ei, _, hk⟩ := hk
  exact elemProof (n := 1) hk ⟨h.1, by rw [if_pos hk]; exact h3⟩

structure Sig where
  leaf : Int
  parts : List (List UInt8)
  prf : Prf
  deriving DecidableEq

abbrev Sig0 : Sig := ⟨0, [], ⟨0, 0, []⟩⟩

abbrev sigA (x : Sig) : AV := .agg [.int .i64 x.leaf, rowsA x.parts, .int .i64 x.prf.place, .int .i64 x.prf.count, rowsA x.prf.path]

abbrev sigAC (x : Sig) : List AV := [.int .i64 x.leaf, rowsA x.parts, .int .i64 x.prf.place, .int .i64 x.prf.count, rowsA x.prf.path]

instance : ElemF sigA := ⟨fun a y hy => by
  have h := (inferInstance : CellsC (sigAC a)).out y hy
  exact h⟩

abbrev sigAS (l : List Sig) : AV := .ls 5 true false (l.map sigA)

def SigW (x : Sig) : Nat := listW List.length x.parts + PrfW x.prf

def SigR (x : Sig) : Prop := rowsR x.parts ∧ PrfR x.prf

end Go.Proofs.YtaolmfgpebncjaaGreat
