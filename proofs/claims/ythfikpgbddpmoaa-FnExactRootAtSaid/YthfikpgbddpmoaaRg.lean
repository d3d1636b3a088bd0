/- Trusts, as the helpers of the laws take them. -/
import Derived.Test.YthfikpgbddpmoaaRe
set_option maxRecDepth 100000
set_option maxHeartbeats 3200000
set_option linter.unusedSimpArgs false
set_option linter.unusedVariables false
namespace Go.Proofs.Ythfikpgbddpmoaa
open Go.Av
attribute [local irreducible] T thenQ blockQ againQ againS WX retV retR Gt Gts GtsP okCells CV CR Av.Pure

structure Tru where
  head : HdB
  next : List Vld
  period : Int
  paused : Bool
  roots : List (List UInt8)
  frm : Int
  deriving DecidableEq

abbrev Tru0 : Tru := ⟨⟨0, 0, [], [], []⟩, [], 0, false, [], 0⟩

abbrev truA (x : Tru) : AV := .agg [.int .i64 x.head.height, .int .i64 x.head.time, byA x.head.root, byA x.head.set, byA x.head.next, vldAS x.next, .int .i64 x.period, .bool x.paused, rowsA x.roots, .int .i64 x.frm]

abbrev truAC (x : Tru) : List AV := [.int .i64 x.head.height, .int .i64 x.head.time, byA x.head.root, byA x.head.set, byA x.head.next, vldAS x.next, .int .i64 x.period, .bool x.paused, rowsA x.roots, .int .i64 x.frm]

instance : ElemF truA := ⟨fun a y hy => by
  have h := (inferInstance : CellsC (truAC a)).out y hy
  exact h⟩

abbrev truAS (l : List Tru) : AV := .ls 10 true false (l.map truA)

def TruW (x : Tru) : Nat := HdBW x.head + listW VldW x.next + listW List.length x.roots

def TruR (x : Tru) : Prop := HdBR x.head ∧ listR VldR x.next ∧ rowsR x.roots

theorem szTrust_cv (x : Tru) (left : Int) (hx : TruR x) (h0 : 0 ≤ left) (h1 : left ≤ 9223372036854775807) :
    CV Try.prog 60 [truA x, .int .i64 left] (· = .int .i64 (szAfter left (TruW x))) := by
  refine CV_intro tyOk Try.func60 (by kernel_rfl) rfl 24 rfl (by simp) [.tmp 4] rfl ?_
  intro w0 ok0
  obtain ⟨hx0, hx1, hx2⟩ := hx
  have c0 := szHeadB_cv x.head (left) hx0 (by omega) (by omega)
  by_cases g0 : left - (HdBW x.head : Nat) < 0
  · have e0 : szAfter (left) (HdBW x.head : Nat) = -1 := szAfter_neg g0
    rw [e0] at c0
    have f : szAfter left (TruW x : Nat) = -1 := szAfter_neg (by unfold TruW; omega)
    rw [f]
    have d : decide ((-1 : Int) < 0) = true := rfl
    repeat' (first | refine T_seq ?_ | refine N_then ?_ | refine N_thenR ?_ | refine T_regX tyOk ?_ | refine S_nil ?_ | refine T_ret ?_ | (apply E_tmp; (· exact rfl); (· (repeat' (first | exact pure_int _ _ | exact pure_bool _ | exact pure_str _); done))) | (apply T_ifT; (· exact rfl); (· (first | assumption | exact rfl))) | apply S_move | apply S_assign | (apply M_loadA; (· exact rfl); (· exact rfl); (· exact gt_any rfl); (· exact rfl); (· exact rfl); (· (repeat' constructor))) | (apply S_fieldP; (· exact rfl); (· exact rfl); (· exact rfl); (· exact rfl); (· exact gt_any rfl)) | apply S_lss | apply S_box | apply S_callQ (f := 131) | apply c0 | exact viewL_nil | apply viewL_cons | (apply View.pure; exact PureC.out) | exact FlatC.out | exact gt_any rfl | exact gts_nil | (apply gts_cons; (· exact gt_any rfl)) | exact okCells_of rfl rfl | assumption | exact rfl | fail)
  have e0 : szAfter (left) (HdBW x.head : Nat) = left - (HdBW x.head : Nat) := by rw [szAfter_pos g0]; try omega
  rw [e0] at c0
  have d0 : decide (left - ((HdBW x.head : Nat) : Int) < 0) = false := decide_eq_false (by omega)
  have c1 := szValidatorS_cv x.next (left - (HdBW x.head : Nat)) hx1 (by omega) (by omega)
  by_cases g1 : left - (HdBW x.head : Nat) - (listW VldW x.next : Nat) < 0
  · have e1 : szAfter (left - (HdBW x.head : Nat)) (listW VldW x.next : Nat) = -1 := szAfter_neg g1
    rw [e1] at c1
    have f : szAfter left (TruW x : Nat) = -1 := szAfter_neg (by unfold TruW; omega)
    rw [f]
    have d : decide ((-1 : Int) < 0) = true := rfl
    repeat' (first | refine T_seq ?_ | refine N_then ?_ | refine N_thenR ?_ | refine T_regX tyOk ?_ | refine S_nil ?_ | refine T_skip ?_ | refine T_ret ?_ | (apply E_tmp; (· exact rfl); (· (repeat' (first | exact pure_int _ _ | exact pure_bool _ | exact pure_str _); done))) | (apply T_ifT; (· exact rfl); (· (first | assumption | exact rfl))) | (apply T_ifF; (· exact rfl); (· (first | assumption | exact rfl))) | apply S_move | apply S_assign | (apply S_loadP; (· exact rfl); (· exact gt_any rfl); (· exact rfl); (· exact rfl); (· exact rfl); (· (first | exact ⟨rfl, rfl⟩ | exact ⟨rfl, trivial⟩ | assumption))) | (apply M_loadA; (· exact rfl); (· exact rfl); (· exact gt_any rfl); (· exact rfl); (· exact rfl); (· (repeat' constructor))) | (apply S_fieldP; (· exact rfl); (· exact rfl); (· exact rfl); (· exact rfl); (· exact gt_any rfl)) | apply S_lss | apply S_box | apply S_callQ (f := 131) | apply c0 | apply S_callQ (f := 132) | apply c1 | exact viewL_nil | apply viewL_cons | (apply View.pure; exact PureC.out) | exact FlatC.out | exact gt_any rfl | exact gts_nil | (apply gts_cons; (· exact gt_any rfl)) | exact okCells_of rfl rfl | assumption | exact rfl | fail)
  have e1 : szAfter (left - (HdBW x.head : Nat)) (listW VldW x.next : Nat) = left - (HdBW x.head + listW VldW x.next : Nat) := by rw [szAfter_pos g1]; try omega
  rw [e1] at c1
  have d1 : decide (left - ((HdBW x.head + listW VldW x.next : Nat) : Int) < 0) = false := decide_eq_false (by omega)
  have c2 := szByteSS_cv x.roots (left - (HdBW x.head + listW VldW x.next : Nat)) hx2 (by omega) (by omega)
  by_cases g2 : left - (HdBW x.head + listW VldW x.next : Nat) - (listW List.length x.roots : Nat) < 0
  · have e2 : szAfter (left - (HdBW x.head + listW VldW x.next : Nat)) (listW List.length x.roots : Nat) = -1 := szAfter_neg g2
    rw [e2] at c2
    have f : szAfter left (TruW x : Nat) = -1 := szAfter_neg (by unfold TruW; omega)
    rw [f]
    have d : decide ((-1 : Int) < 0) = true := rfl
    repeat' (first | refine T_seq ?_ | refine N_then ?_ | refine N_thenR ?_ | refine T_regX tyOk ?_ | refine S_nil ?_ | refine T_skip ?_ | refine T_ret ?_ | (apply E_tmp; (· exact rfl); (· (repeat' (first | exact pure_int _ _ | exact pure_bool _ | exact pure_str _); done))) | (apply T_ifT; (· exact rfl); (· (first | assumption | exact rfl))) | (apply T_ifF; (· exact rfl); (· (first | assumption | exact rfl))) | apply S_move | apply S_assign | (apply S_loadP; (· exact rfl); (· exact gt_any rfl); (· exact rfl); (· exact rfl); (· exact rfl); (· (first | exact ⟨rfl, rfl⟩ | exact ⟨rfl, trivial⟩ | assumption))) | (apply M_loadA; (· exact rfl); (· exact rfl); (· exact gt_any rfl); (· exact rfl); (· exact rfl); (· (repeat' constructor))) | (apply S_fieldP; (· exact rfl); (· exact rfl); (· exact rfl); (· exact rfl); (· exact gt_any rfl)) | apply S_lss | apply S_box | apply S_callQ (f := 131) | apply c0 | apply S_callQ (f := 132) | apply c1 | apply S_callQ (f := 107) | apply c2 | exact viewL_nil | apply viewL_cons | (apply View.pure; exact PureC.out) | exact FlatC.out | exact gt_any rfl | exact gts_nil | (apply gts_cons; (· exact gt_any rfl)) | exact okCells_of rfl rfl | assumption | exact rfl | fail)
  have e2 : szAfter (left - (HdBW x.head + listW VldW x.next : Nat)) (listW List.length x.roots : Nat) = left - (HdBW x.head + listW VldW x.next + listW List.length x.roots : Nat) := by rw [szAfter_pos g2]; try omega
  rw [e2] at c2
  have d2 : decide (left - ((HdBW x.head + listW VldW x.next + listW List.length x.roots : Nat) : Int) < 0) = false := decide_eq_false (by omega)
  have f : szAfter left (TruW x : Nat) = left - (HdBW x.head + listW VldW x.next + listW List.length x.roots : Nat) := szAfter_pos (by unfold TruW; omega)
  rw [f]
  repeat' (first | refine T_seq ?_ | refine N_then ?_ | refine T_regX tyOk ?_ | refine S_nil ?_ | refine T_skip ?_ | refine T_ret ?_ | (apply E_tmp; (· exact rfl); (· (repeat' (first | exact pure_int _ _ | exact pure_bool _ | exact pure_str _); done))) | (apply T_ifF; (· exact rfl); (· (first | assumption | exact rfl))) | apply S_move | apply S_assign | (apply S_loadP; (· exact rfl); (· exact gt_any rfl); (· exact rfl); (· exact rfl); (· exact rfl); (· (first | exact ⟨rfl, rfl⟩ | exact ⟨rfl, trivial⟩ | assumption))) | (apply M_loadA; (· exact rfl); (· exact rfl); (· exact gt_any rfl); (· exact rfl); (· exact rfl); (· (repeat' constructor))) | (apply S_fieldP; (· exact rfl); (· exact rfl); (· exact rfl); (· exact rfl); (· exact gt_any rfl)) | apply S_lss | apply S_box | apply S_callQ (f := 131) | apply c0 | apply S_callQ (f := 132) | apply c1 | apply S_callQ (f := 107) | apply c2 | exact viewL_nil | apply viewL_cons | (apply View.pure; exact PureC.out) | exact FlatC.out | exact gt_any rfl | exact gts_nil | (apply gts_cons; (· exact gt_any rfl)) | exact okCells_of rfl rfl | exact rfl | fail)

theorem toTrust_cv (x : Tru) (h : TruW x ≤ 1048576) : CV Try.prog 62 [truA x] (· = truA x) := by
  refine CV_intro tyOk Try.func62 (by kernel_rfl) rfl 26 rfl (by simp) [.cell 2 96] rfl ?_
  intro w0 ok0
  unfold TruW at h
  have c0 := toHeadB_cv x.head (by omega)
  have c1 := toValidatorS_cv x.next (by omega)
  have c2 := toByteSS_cv x.roots (by omega)
  repeat' (first | refine T_seq ?_ | refine N_then ?_ | refine T_regX tyOk ?_ | refine S_nil ?_ | refine T_ret ?_ | (apply E_X <;> repeat' (first | exact resL_nil | (apply resL_tmp; (· exact rfl)) | (apply resL_cell; (· exact rfl); (· exact rfl); (· exact rfl); (· exact rfl); (· exact rfl); (· exact rfl)) | (apply resL_arr; (· exact rfl); (· exact rfl); (· exact rfl); (· exact rfl); (· (first | assumption | exact rfl))) | exact viewL_nil | apply viewL_cons | apply view_nothingE | (apply view_slE; (· exact rfl); (· first | exact rfl | assumption | (simp [bA_length]; done) | (simp [bA_length]; omega) | omega); (· exact PureEC.out)) | (apply view_loose; (· exact PureEC.out)) | apply view_agg | apply view_tup | (apply View.ofEq; (· exact PureC.out)) | exact rfl)) | (apply S_loadP; (· exact rfl); (· exact gt_any rfl); (· exact rfl); (· exact rfl); (· exact rfl); (· (first | exact ⟨rfl, rfl⟩ | exact ⟨rfl, trivial⟩ | assumption))) | (apply S_loadW; (· exact rfl); (· exact gt_any rfl); (· exact rfl); (· exact rfl); (· exact rfl); (· exact rfl); (· exact rfl); (· exact rfl)) | (apply M_loadA; (· exact rfl); (· exact rfl); (· exact gt_any rfl); (· exact rfl); (· exact rfl); (· (repeat' constructor))) | (apply S_fieldP; (· exact rfl); (· exact rfl); (· exact rfl); (· exact rfl); (· exact gt_any rfl)) | apply S_alloc | apply S_box | (apply S_store1; (· exact rfl); (· exact gt_any rfl); (· exact rfl); (· exact rfl); (· exact rfl); (· exact rfl)) | (apply S_storeF; (· exact rfl); (· exact gt_any rfl); (· exact rfl); (· exact rfl); (· exact rfl); (· exact rfl); (· exact gt_any rfl); (· exact rfl); (· exact rfl); (· (repeat' constructor))) | (apply S_storeG; (· exact rfl); (· exact gt_any rfl); (· exact rfl); (· exact rfl); (· exact rfl); (· exact gt_any rfl); (· (first | exact okCells_of rfl rfl | assumption)); (· (first | exact Nat.le_of_ble_eq_true rfl | omega | decide)); (· exact rfl)) | apply S_call (f := 137) | apply c0 | apply S_call (f := 138) | apply c1 | apply S_call (f := 112) | apply c2 | exact PureLC.out | exact gt_any rfl | exact gts_nil | (apply gts_cons; (· exact gt_any rfl)) | exact okCells_of rfl rfl | exact rfl | fail)

theorem eqTrust_cv (x : Tru) (h : TruW x ≤ 1048576) : CV Try.prog 64 [truA x, truA x] (· = .bool true) := by
  refine CV_intro tyOk Try.func64 (by kernel_rfl) rfl 38 rfl (by simp) [.tmp 4] rfl ?_
  intro w0 ok0
  unfold TruW at h
  have c0 := eqHeadB_cv x.head (by omega)
  have c1 := eqValidatorS_cv x.next (by omega)
  have c2 := eqByteSS_cv x.roots (by omega)
  have i2 : (!decide (x.period = x.period)) = false := by simp
  have i3 : (!decide (x.paused = x.paused)) = false := by simp
  have j3 : (x.paused != x.paused) = false := by simp
  have i5 : (!decide (x.frm = x.frm)) = false := by simp
  repeat' (first | refine T_seq ?_ | refine N_then ?_ | refine T_regX tyOk ?_ | refine S_nil ?_ | refine T_skip ?_ | refine T_ret ?_ | (apply E_tmp; (· exact rfl); (· (repeat' (first | exact pure_int _ _ | exact pure_bool _ | exact pure_str _); done))) | (apply T_ifF; (· exact rfl); (· (first | assumption | exact rfl))) | apply S_assign | (apply S_loadP; (· exact rfl); (· exact gt_any rfl); (· exact rfl); (· exact rfl); (· exact rfl); (· (first | exact ⟨rfl, rfl⟩ | exact ⟨rfl, trivial⟩ | assumption))) | (apply M_loadA; (· exact rfl); (· exact rfl); (· exact gt_any rfl); (· exact rfl); (· exact rfl); (· (repeat' constructor))) | (apply S_fieldP; (· exact rfl); (· exact rfl); (· exact rfl); (· exact rfl); (· exact gt_any rfl)) | (apply S_neq; (· exact gt_any rfl); (· exact gt_any rfl)) | apply S_not | apply S_box | (apply S_boolNe; (· exact rfl); (· exact gt_any rfl); (· exact gt_any rfl)) | apply S_callQ (f := 146) | apply c0 | apply S_callQ (f := 147) | apply c1 | apply S_callQ (f := 95) | apply c2 | exact viewL_nil | apply viewL_cons | (apply View.pure; exact PureC.out) | exact FlatC.out | exact gt_any rfl | exact gts_nil | (apply gts_cons; (· exact gt_any rfl)) | exact okCells_of rfl rfl | exact rfl | fail)

theorem elemTrust {x : AV} {ei : TI} {n : Nat} (hk : isAggK ei.k = true) (h : TyN ty (n + 3) 90 x.cells ∧ x = (if isAggK ei.k then .agg x.cells else x.cells.getD 0 .undef)) : ∃ a : Tru, x = truA a ∧ TruR a := by
  obtain ⟨⟨ls, h1, h2, h3⟩, h4⟩ := h
  have hl : leafs ty 8 90 = some [2, 2, 22, 22, 22, 88, 2, 4, 26, 2] := rfl
  rw [hl] at h1
  obtain rfl := Option.some.inj h1
  rw [if_pos hk] at h4
  generalize x.cells = cs at h2 h3 h4
  subst h4
  match cs, h2 with
  | [a0, a1, a2, a3, a4, a5, a6, a7, a8, a9], _ =>
    obtain ⟨i0, rfl, _⟩ := h3 0 _ _ rfl rfl
    obtain ⟨i1, rfl, _⟩ := h3 1 _ _ rfl rfl
    obtain ⟨e2, xs2, u2, rfl, v2, w2⟩ := h3 2 _ _ rfl rfl
    obtain rfl := Option.some.inj u2
    obtain ⟨q2, rfl⟩ := bytes_of rfl rfl rfl xs2 w2
    rw [bA_length] at v2
    obtain ⟨e3, xs3, u3, rfl, v3, w3⟩ := h3 3 _ _ rfl rfl
    obtain rfl := Option.some.inj u3
    obtain ⟨q3, rfl⟩ := bytes_of rfl rfl rfl xs3 w3
    rw [bA_length] at v3
    obtain ⟨e4, xs4, u4, rfl, v4, w4⟩ := h3 4 _ _ rfl rfl
    obtain rfl := Option.some.inj u4
    obtain ⟨q4, rfl⟩ := bytes_of rfl rfl rfl xs4 w4
    rw [bA_length] at v4
    obtain ⟨e5, xs5, u5, rfl, v5, w5⟩ := h3 5 _ _ rfl rfl
    obtain rfl := Option.some.inj u5
    obtain ⟨q5, rfl, z5⟩ := list_ofP vldA (fun x hx => elemValidator rfl hx) xs5 w5
    rw [List.length_map] at v5
    obtain ⟨i6, rfl, _⟩ := h3 6 _ _ rfl rfl
    obtain ⟨i7, rfl⟩ := h3 7 _ _ rfl rfl
    obtain ⟨e8, xs8, u8, rfl, v8, w8⟩ := h3 8 _ _ rfl rfl
    obtain rfl := Option.some.inj u8
    obtain ⟨q8, rfl, z8⟩ := rows_of xs8 w8
    rw [List.length_map] at v8
    obtain ⟨i9, rfl, _⟩ := h3 9 _ _ rfl rfl
    exact ⟨⟨⟨i0, i1, q2, q3, q4⟩, q5, i6, i7, q8, i9⟩, rfl, ⟨⟨v2, v3, v4⟩, ⟨v5, z5⟩, ⟨v8, z8⟩⟩⟩

theorem isTrust {x : AV} (h : TyV ty 90 x) : ∃ a : Tru, x = truA a ∧ TruR a := by
  have h3 := h.2.2.1 ⟨_, rfl, rfl⟩
  have hk : ∃ ei, ty 90 = some ei ∧ isAggK ei.k = true := ⟨_, rfl, rfl⟩
  obtain ⟨ei, _, hk⟩ := hk
  exact elemTrust (n := 1) hk ⟨h.1, by rw [if_pos hk]; exact h3⟩

end Go.Proofs.Ythfikpgbddpmoaa
