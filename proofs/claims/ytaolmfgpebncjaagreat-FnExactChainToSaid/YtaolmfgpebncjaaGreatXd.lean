/- Words that are mixed, told in 64 bits; what is digested. -/
import Derived.Test.YtaolmfgpebncjaaGreatXa
import Derived.Test.YtaolmfgpebncjaaGreatXn
set_option maxRecDepth 100000
set_option maxHeartbeats 3200000
set_option linter.unusedSimpArgs false
set_option linter.unusedVariables false
namespace Go.Proofs.YtaolmfgpebncjaaGreat
open Go.Av
attribute [local irreducible] T thenQ blockQ againQ againS WX retV retR Gt Gts GtsP okCells CV CR Av.Pure

theorem l2Rot_cv (x : UInt32) (n : Nat) (h0 : 2 ≤ n) (h1 : n < 32) : CV Tryz.prog 190 [w64A x, .int .u64 (n : Int)] (· = w64A (rotr x n)) := by
  refine CV_intro tyOk Tryz.func190 (by kernel_rfl) rfl 14 rfl (by simp) [.tmp 4] rfl ?_
  intro w0 ok0
  have hb : IntKind.i64.bits = 64 := rfl
  have f1 : (x.toNat : Int).fdiv (2 ^ min ((n : Int)).toNat IntKind.i64.bits) = (x.toNat : Int).fdiv (2 ^ n) := by
    rw [Int.toNat_natCast, hb, Nat.min_eq_left (by omega)]
  have f2 : IntKind.wrap .u64 (32 - (n : Int)) = 32 - (n : Int) := wrap_u64 (by omega) (by omega)
  have f3 : IntKind.wrap .i64 ((x.toNat : Int) * 2 ^ min ((32 : Int) - (n : Int)).toNat IntKind.i64.bits) = IntKind.wrap .i64 ((x.toNat : Int) * 2 ^ (32 - n)) := by
    rw [show ((32 : Int) - (n : Int)).toNat = 32 - n by omega, hb, Nat.min_eq_left (by omega)]
  have f4 := rot64 x n h0 h1
  repeat' (first | refine T_seq ?_ | refine N_then ?_ | refine T_regX tyOk ?_ | refine S_nil ?_ | refine T_ret ?_ | (apply E_tmp; (· exact rfl); (· (repeat' (first | exact pure_int _ _ | exact pure_bool _ | exact pure_str _); done))) | apply S_move | apply S_assign | apply S_sub | apply S_shlW | apply S_shrW | (apply S_remW; (· exact gt_any rfl); (· exact gt_any rfl); (· exact rfl); (· (first | exact Nat.le_of_ble_eq_true rfl | omega | decide))) | (apply S_bits; (· (first | exact Or.inl rfl | exact Or.inr (Or.inl rfl) | exact Or.inr (Or.inr (Or.inl rfl)) | exact Or.inr (Or.inr (Or.inr rfl))))) | exact gt_any rfl | assumption | omega | exact rfl | fail)

theorem l2Not_cv (x : UInt32) : CV Tryz.prog 198 [w64A x] (· = w64A (~~~x)) := by
  refine CV_intro tyOk Tryz.func198 (by kernel_rfl) rfl 5 rfl (by simp) [.tmp 2] rfl ?_
  intro w0 ok0
  repeat' (first | refine T_seq ?_ | refine N_then ?_ | refine T_regX tyOk ?_ | refine S_nil ?_ | refine T_ret ?_ | (apply E_tmp; (· exact rfl); (· (repeat' (first | exact pure_int _ _ | exact pure_bool _ | exact pure_str _); done))) | apply S_move | apply S_assign | apply S_sub | with_reducible apply Go.Av.not64 | exact gt_any rfl | exact rfl | fail)

theorem sum5 (a b c d e : UInt32) : ((a.toNat : Int) + (b.toNat : Int) + (c.toNat : Int) + (d.toNat : Int) + (e.toNat : Int)).tmod 4294967296 = ((a + b + c + d + e).toNat : Int) := by
  rw [Int.tmod_eq_emod_of_nonneg (by omega)]
  simp only [UInt32.toNat_add]
  omega
theorem sum2 (a b : UInt32) : ((a.toNat : Int) + (b.toNat : Int)).tmod 4294967296 = ((a + b).toNat : Int) := by
  rw [Int.tmod_eq_emod_of_nonneg (by omega)]
  simp only [UInt32.toNat_add]
  omega
theorem add64 (a b : UInt32) : IntKind.wrap .i64 ((a.toNat : Int) + (b.toNat : Int)) = (a.toNat : Int) + (b.toNat : Int) := by
  have := u32_lt a
  have := u32_lt b
  exact wrap_i64 (by omega) (by omega)
theorem add64_3 (a b c : UInt32) : IntKind.wrap .i64 ((a.toNat : Int) + (b.toNat : Int) + (c.toNat : Int)) = (a.toNat : Int) + (b.toNat : Int) + (c.toNat : Int) := by
  have := u32_lt a
  have := u32_lt b
  have := u32_lt c
  exact wrap_i64 (by omega) (by omega)
theorem add64_4 (a b c d : UInt32) : IntKind.wrap .i64 ((a.toNat : Int) + (b.toNat : Int) + (c.toNat : Int) + (d.toNat : Int)) = (a.toNat : Int) + (b.toNat : Int) + (c.toNat : Int) + (d.toNat : Int) := by
  have := u32_lt a
  have := u32_lt b
  have := u32_lt c
  have := u32_lt d
  exact wrap_i64 (by omega) (by omega)
theorem add64_5 (a b c d e : UInt32) : IntKind.wrap .i64 ((a.toNat : Int) + (b.toNat : Int) + (c.toNat : Int) + (d.toNat : Int) + (e.toNat : Int)) = (a.toNat : Int) + (b.toNat : Int) + (c.toNat : Int) + (d.toNat : Int) + (e.toNat : Int) := by
  have := u32_lt a
  have := u32_lt b
  have := u32_lt c
  have := u32_lt d
  have := u32_lt e
  exact wrap_i64 (by omega) (by omega)

theorem l2Round_cv (l : List UInt32) (hl : l.length = 8) (w k : UInt32) : CV Tryz.prog 191 [arW l, w64A w, w64A k] (· = arW (mixL l w k)) := by
  obtain ⟨a, b, c, d, e, f, g, h, rfl⟩ := list8 hl
  refine CV_intro tyOk Tryz.func191 (by kernel_rfl) rfl 95 rfl (by simp) [.cell 6 187] rfl ?_
  intro w0 ok0
  have c6 := l2Rot_cv e 6 (by decide) (by decide)
  have c11 := l2Rot_cv e 11 (by decide) (by decide)
  have c25 := l2Rot_cv e 25 (by decide) (by decide)
  have c2 := l2Rot_cv a 2 (by decide) (by decide)
  have c13 := l2Rot_cv a 13 (by decide) (by decide)
  have c22 := l2Rot_cv a 22 (by decide) (by decide)
  have n0 := l2Not_cv e
  have okk : okCells 8 (arW [a, b, c, d, e, f, g, h]) := okCells_arr _ _ rfl
  have s1 := add64 h (rotr e 6 ^^^ rotr e 11 ^^^ rotr e 25)
  have s2 := add64_3 h (rotr e 6 ^^^ rotr e 11 ^^^ rotr e 25) ((e &&& f) ^^^ (~~~e &&& g))
  have s3 := add64_4 h (rotr e 6 ^^^ rotr e 11 ^^^ rotr e 25) ((e &&& f) ^^^ (~~~e &&& g)) k
  have s4 := add64_5 h (rotr e 6 ^^^ rotr e 11 ^^^ rotr e 25) ((e &&& f) ^^^ (~~~e &&& g)) k w
  have s5 := sum5 h (rotr e 6 ^^^ rotr e 11 ^^^ rotr e 25) ((e &&& f) ^^^ (~~~e &&& g)) k w
  have u1 := add64 (rotr a 2 ^^^ rotr a 13 ^^^ rotr a 22) ((a &&& b) ^^^ (a &&& c) ^^^ (b &&& c))
  have u2 := sum2 (rotr a 2 ^^^ rotr a 13 ^^^ rotr a 22) ((a &&& b) ^^^ (a &&& c) ^^^ (b &&& c))
  have v1 := add64 (h + (rotr e 6 ^^^ rotr e 11 ^^^ rotr e 25) + ((e &&& f) ^^^ (~~~e &&& g)) + k + w) ((rotr a 2 ^^^ rotr a 13 ^^^ rotr a 22) + ((a &&& b) ^^^ (a &&& c) ^^^ (b &&& c)))
  have v2 := sum2 (h + (rotr e 6 ^^^ rotr e 11 ^^^ rotr e 25) + ((e &&& f) ^^^ (~~~e &&& g)) + k + w) ((rotr a 2 ^^^ rotr a 13 ^^^ rotr a 22) + ((a &&& b) ^^^ (a &&& c) ^^^ (b &&& c)))
  have v3 := add64 d (h + (rotr e 6 ^^^ rotr e 11 ^^^ rotr e 25) + ((e &&& f) ^^^ (~~~e &&& g)) + k + w)
  have v4 := sum2 d (h + (rotr e 6 ^^^ rotr e 11 ^^^ rotr e 25) + ((e &&& f) ^^^ (~~~e &&& g)) + k + w)
  repeat' (first | refine T_seq ?_ | refine N_then ?_ | refine T_regX tyOk ?_ | (apply T_drawAll tyOk mixed; (· kernel_rfl)) | refine S_nil ?_ | refine T_ret ?_ | (apply E_X <;> repeat' (first | exact resL_nil | (apply resL_tmp; (· exact rfl)) | (apply resL_cell; (· exact rfl); (· exact rfl); (· exact rfl); (· exact rfl); (· exact rfl); (· exact rfl)) | (apply resL_arr; (· exact rfl); (· exact rfl); (· exact rfl); (· exact rfl); (· (first | assumption | exact rfl))) | (apply view_aggP; exact PureLC.out) | exact viewL_nil | apply viewL_cons | apply view_nothingE | (apply view_slE; (· exact rfl); (· first | exact rfl | assumption | (simp [bA_length]; done) | (simp [bA_length]; omega) | omega); (· exact PureEC.out)) | (apply view_loose; (· exact PureEC.out)) | apply view_agg | apply view_tup | (apply View.ofEq; (· exact PureC.out)) | exact rfl)) | (apply M_idxAP; (· exact rfl); (· exact rfl); (· exact gt_any rfl); (· exact gt_any rfl); (· (first | assumption | exact ⟨by omega, by omega⟩)); (· (apply mix; first | assumption | exact rfl))) | (apply M_loadAr; (· exact rfl); (· exact gt_any rfl); (· exact rfl); (· (first | assumption | exact rfl)); (· (first | exact ⟨rfl, rfl⟩ | exact ⟨rfl, trivial⟩ | assumption))) | (apply S_buildAL tyOk; (· exact rfl); (· exact rfl); (· exact rfl); (· exact rfl); (· repeat' (first | exact gtsI_nil | (apply gtsI_cons; (· exact gt_any rfl)))); (· exact rfl); (· infer_instance)) | apply S_move | apply S_assign | apply S_add | apply S_alloc | apply S_box | (apply S_store1; (· exact rfl); (· exact gt_any rfl); (· exact rfl); (· exact rfl); (· exact rfl); (· exact rfl)) | (apply S_remW; (· exact gt_any rfl); (· exact gt_any rfl); (· exact rfl); (· (first | exact Nat.le_of_ble_eq_true rfl | omega | decide))) | (apply S_bits; (· (first | exact Or.inl rfl | exact Or.inr (Or.inl rfl) | exact Or.inr (Or.inr (Or.inl rfl)) | exact Or.inr (Or.inr (Or.inr rfl))))) | apply S_callQ (f := 190) | apply c6 | apply c11 | apply c25 | apply c2 | apply c13 | apply c22 | apply S_callQ (f := 198) | apply n0 | exact viewL_nil | apply viewL_cons | (apply View.pure; exact PureC.out) | exact FlatC.out | with_reducible apply Go.Av.i64_xor | with_reducible apply Go.Av.i64_and | exact gt_any rfl | exact gts_nil | (apply gts_cons; (· exact gt_any rfl)) | exact okCells_of rfl rfl | assumption | exact rfl | fail)

theorem l2Keys_cv : CV Tryz.prog 186 [] (· = arW keysL) := by
  refine CV_intro tyOk Tryz.func186 (by kernel_rfl) rfl 2 rfl (by simp) [.cell 0 185] rfl ?_
  intro w0 ok0
  repeat' (first | refine T_seq ?_ | refine N_then ?_ | refine T_regX tyOk ?_ | refine S_nil ?_ | refine T_ret ?_ | (apply E_X <;> repeat' (first | exact resL_nil | (apply resL_tmp; (· exact rfl)) | (apply resL_cell; (· exact rfl); (· exact rfl); (· exact rfl); (· exact rfl); (· exact rfl); (· exact rfl)) | (apply resL_arr; (· exact rfl); (· exact rfl); (· exact rfl); (· exact rfl); (· (first | assumption | exact rfl))) | (apply view_aggP; exact PureLC.out) | exact viewL_nil | apply viewL_cons | apply view_nothingE | (apply view_slE; (· exact rfl); (· first | exact rfl | assumption | (simp [bA_length]; done) | (simp [bA_length]; omega) | omega); (· exact PureEC.out)) | (apply view_loose; (· exact PureEC.out)) | apply view_agg | apply view_tup | (apply View.ofEq; (· exact PureC.out)) | exact rfl)) | (apply S_buildAL tyOk; (· exact rfl); (· exact rfl); (· exact rfl); (· exact rfl); (· repeat' (first | exact gtsI_nil | (apply gtsI_cons; (· exact gt_any rfl)))); (· exact rfl); (· infer_instance)) | apply S_alloc | (apply S_store1; (· exact rfl); (· exact gt_any rfl); (· exact rfl); (· exact rfl); (· exact rfl); (· exact rfl)) | exact gt_any rfl | exact okCells_of rfl rfl | exact rfl | fail)

theorem l2Start_cv : CV Tryz.prog 187 [] (· = arW startL) := by
  refine CV_intro tyOk Tryz.func187 (by kernel_rfl) rfl 2 rfl (by simp) [.cell 0 187] rfl ?_
  intro w0 ok0
  repeat' (first | refine T_seq ?_ | refine N_then ?_ | refine T_regX tyOk ?_ | refine S_nil ?_ | refine T_ret ?_ | (apply E_X <;> repeat' (first | exact resL_nil | (apply resL_tmp; (· exact rfl)) | (apply resL_cell; (· exact rfl); (· exact rfl); (· exact rfl); (· exact rfl); (· exact rfl); (· exact rfl)) | (apply resL_arr; (· exact rfl); (· exact rfl); (· exact rfl); (· exact rfl); (· (first | assumption | exact rfl))) | (apply view_aggP; exact PureLC.out) | exact viewL_nil | apply viewL_cons | apply view_nothingE | (apply view_slE; (· exact rfl); (· first | exact rfl | assumption | (simp [bA_length]; done) | (simp [bA_length]; omega) | omega); (· exact PureEC.out)) | (apply view_loose; (· exact PureEC.out)) | apply view_agg | apply view_tup | (apply View.ofEq; (· exact PureC.out)) | exact rfl)) | (apply S_buildAL tyOk; (· exact rfl); (· exact rfl); (· exact rfl); (· exact rfl); (· repeat' (first | exact gtsI_nil | (apply gtsI_cons; (· exact gt_any rfl)))); (· exact rfl); (· infer_instance)) | apply S_alloc | (apply S_store1; (· exact rfl); (· exact gt_any rfl); (· exact rfl); (· exact rfl); (· exact rfl); (· exact rfl)) | exact gt_any rfl | exact okCells_of rfl rfl | exact rfl | fail)

end Go.Proofs.YtaolmfgpebncjaaGreat
