/- Records read back. -/
import Derived.Test.YtmaginepopldnaaYo
set_option maxRecDepth 100000
set_option maxHeartbeats 3200000
set_option linter.unusedSimpArgs false
set_option linter.unusedVariables false
namespace Go.Proofs.Ytmaginepopldnaa
open Go.Av
attribute [local irreducible] T thenQ blockQ againQ againS WX retV retR Gt Gts GtsP okCells CV CR Av.Pure
attribute [local irreducible] numV putN

theorem implRecordOf_cv (k n t : Int) : CV Try.prog 44 [.int .i64 k, .int .i64 n, .int .i64 t] (· = bytesRes (recCode k n t) (recOut k n t)) :=
  (implRecordOf_cr k n t 0).toCV fun r bs n ⟨e1, e2, e3⟩ => by subst e1 e2; exact view_agg ⟨.pure (pure_int _ _), view_slA rfl (bA_length _).symm (pureB_bA _), trivial⟩
theorem sameBytes_cv (a b : List UInt8) : CV Try.prog 143 [sl1 (bA a), sl1 (bA b)] (· = .bool (decide (a = b))) := by
  refine CV_intro tyOk Try.func143 (by kernel_rfl) rfl 8 rfl (by simp) [.tmp 4] rfl ?_
  intro w0 ok0
  have c0 := equal_cv a b
  repeat' (first | refine T_seq ?_ | refine N_then ?_ | refine T_regX tyOk ?_ | refine S_nil ?_ | refine T_ret ?_ | (apply E_tmp; (· exact rfl); (· (repeat' (first | exact pure_int _ _ | exact pure_bool _ | exact pure_str _); done))) | apply S_move | apply S_assign | apply S_call (f := 134) | apply c0 | exact PureLC.out | exact gt_any rfl | exact gts_nil | (apply gts_cons; (· exact gt_any rfl)) | exact rfl | fail)

theorem recCode_ok {k n t : Int} (h : recCode k n t = 0) : (1 ≤ k ∧ k ≤ 3) ∧ (1 ≤ n ∧ n ≤ 1000000) ∧ (0 ≤ t ∧ t ≤ 1099511627776) ∧ (k ≠ 2 → t = 0) := by
  unfold recCode at h
  split at h
  · exact absurd h (by decide)
  · split at h
    · exact absurd h (by decide)
    · split at h
      · exact absurd h (by decide)
      · omega

theorem readRecord_cv (k n t : Int) (h : recCode k n t = 0) : CV Try.prog 132 [sl1 (bA (recOut k n t))] (· = .tup [.int .i64 k, .int .i64 n, .int .i64 t, .bool true]) := by
  refine CV_intro tyOk Try.func132 (by kernel_rfl) rfl 46 rfl (by simp) [.tmp 2, .tmp 3, .tmp 4, .tmp 5] rfl ?_
  intro w0 ok0
  obtain ⟨⟨k1, k2⟩, ⟨n1, n2⟩, ⟨t1, t2⟩, hk⟩ := recCode_ok h
  have hl := recOut_len h
  have c0 := implRecordOf_cv k n t
  rw [h] at c0
  have c1 := sameBytes_cv (recOut k n t) (recOut k n t)
  rw [decide_eq_true rfl] at c1
  have hb := bA_length (recOut k n t)
  have hby : ((byteOf k).toNat : Int) = k := by rw [byteOf_int]; omega
  have c2 := numberOf_cv (putN n) (putN_length n)
  rw [numV_put (by omega) (by omega)] at c2
  have wk : IntKind.wrap .i64 k = k := wrap_i64 (by omega) (by omega)
  by_cases q : k = 2
  · have e : bA (recOut k n t) = [AV.int .u8 ((byteOf k).toNat : Int)] ++ bA (putN n) ++ bA (putN t) := by rw [recOut, if_pos h, recBytes_two q]
    rw [hby] at e
    rw [if_pos q] at hl
    have g0 : (bA (recOut k n t)).getD (0 : Int).toNat .undef = .int .u8 k := by rw [e]; rfl
    have p1 : (bA (putN n)).length = 7 := by rw [bA_length, putN_length]
    have p2 : (bA (putN t)).length = 7 := by rw [bA_length, putN_length]
    have g1 : List.take (8 - 1) (List.drop 1 (bA (recOut k n t))) = bA (putN n) := by
      rw [e, List.append_assoc, List.singleton_append, List.drop_succ_cons, List.drop_zero, List.take_append_of_le_length (by omega), List.take_of_length_le (by omega)]
    have g2 : List.drop 8 (bA (recOut k n t)) = bA (putN t) := by
      rw [e, List.append_assoc, List.singleton_append, List.drop_succ_cons, List.drop_append_of_le_length (by omega), List.drop_of_length_le (by omega), List.nil_append]
    have c3 := numberOf_cv (putN t) (putN_length t)
    rw [numV_put (by omega) (by omega)] at c3
    have d1 : (!decide (((bA (recOut k n t)).length : Int) = 8)) = true := by rw [decide_eq_false (by omega)]; rfl
    have d2 : (!decide (((bA (recOut k n t)).length : Int) = 15)) = false := by rw [decide_eq_true (by omega)]; rfl
    have hbl : (bA (recOut k n t)).length = 15 := by omega
    generalize recOut k n t = R at *
    clear e
    rw [← g2] at c3
    repeat' (first | refine T_seq ?_ | refine N_then ?_ | refine T_regX tyOk ?_ | (apply T_drawAll tyOk mixed; (· kernel_rfl)) | refine S_nil ?_ | refine T_skip ?_ | refine T_ret ?_ | (apply E_X <;> repeat' (first | exact resL_nil | (apply resL_tmp; (· exact rfl)) | (apply resL_cell; (· exact rfl); (· exact rfl); (· exact rfl); (· exact rfl); (· exact rfl); (· exact rfl)) | (apply resL_arr; (· exact rfl); (· exact rfl); (· exact rfl); (· exact rfl); (· (first | assumption | exact rfl))) | exact viewL_nil | apply viewL_cons | apply view_nothingE | (apply view_slE; (· exact rfl); (· first | exact rfl | assumption | (simp [bA_length]; done) | (simp [bA_length]; omega) | omega); (· exact PureEC.out)) | (apply view_loose; (· exact PureEC.out)) | apply view_agg | apply view_tup | (apply View.ofEq; (· exact PureC.out)) | exact rfl)) | (apply T_ifF; (· exact rfl); (· (first | assumption | exact rfl))) | (apply S_gt; (· exact rfl); (· exact rfl); (· (first | assumption | exact rfl))) | apply S_move | apply S_assign | (apply S_pickT; (· exact gt_any rfl); (· (first | assumption | exact rfl))) | (apply S_loadP; (· exact rfl); (· exact gt_any rfl); (· exact rfl); (· exact rfl); (· exact rfl); (· (first | exact ⟨rfl, rfl⟩ | exact ⟨rfl, trivial⟩ | assumption))) | (apply S_loadV; (· exact rfl); (· exact gt_any rfl); (· exact rfl); (· (first | exact ⟨rfl, rfl⟩ | exact ⟨rfl, trivial⟩ | assumption))) | (apply M_field1; (· exact rfl); (· exact rfl); (· exact rfl); (· exact gt_any rfl); (· exact rfl); (· (first | exact ⟨rfl, rfl⟩ | exact ⟨rfl, trivial⟩ | assumption))) | (apply S_fieldP; (· exact rfl); (· exact rfl); (· exact rfl); (· exact rfl); (· exact gt_any rfl)) | (apply S_eql; (· exact gt_any rfl); (· exact gt_any rfl)) | (apply S_neq; (· exact gt_any rfl); (· exact gt_any rfl)) | (apply S_conv; (· exact rfl); (· exact rfl); (· exact gt_any rfl)) | (apply S_len_ls; (· exact rfl); (· exact gt_any rfl)) | apply S_alloc | (apply S_store1; (· exact rfl); (· exact gt_any rfl); (· exact rfl); (· exact rfl); (· exact rfl); (· exact rfl)) | (apply S_idxLs; (· exact rfl); (· exact rfl); (· exact gt_any rfl); (· exact gt_any rfl)) | (apply M_slLs; (· exact rfl); (· exact rfl); (· exact gt_any rfl); (· exact rfl)) | apply S_call (f := 44) | apply c0 | apply S_call (f := 143) | apply c1 | apply S_call (f := 142) | apply c2 | apply c3 | (apply mtake; first | assumption | exact take_full (by first | rfl | (simp; done)) | exact rfl) | exact PureLC.out | (apply mlen; first | exact rfl | assumption | exact Nat.le_of_ble_eq_true rfl | omega | (simp [bA_length]; done) | (simp [bA_length]; omega)) | (apply mtake; first | assumption | exact take_full (by first | rfl | (simp; done)) | exact rfl) | (apply mnat; first | exact Int.toNat_natCast _ | exact rfl) | exact Bd.no _ | (apply bd_at; (· exact gt_any rfl)) | exact gt_any rfl | exact gts_nil | (apply gts_cons; (· exact gt_any rfl)) | exact okCells_of rfl rfl | assumption | (refine ⟨?_, ?_⟩ <;> omega) | omega | exact rfl | fail)
  · obtain rfl := hk q
    have e : bA (recOut k n 0) = [AV.int .u8 ((byteOf k).toNat : Int)] ++ bA (putN n) := by rw [recOut, if_pos h, recBytes_one q]
    rw [hby] at e
    rw [if_neg q] at hl
    have g0 : (bA (recOut k n 0)).getD (0 : Int).toNat .undef = .int .u8 k := by rw [e]; rfl
    have p1 : (bA (putN n)).length = 7 := by rw [bA_length, putN_length]
    have g1 : List.take (8 - 1) (List.drop 1 (bA (recOut k n 0))) = bA (putN n) := by
      rw [e, List.singleton_append, List.drop_succ_cons, List.drop_zero, List.take_of_length_le (by omega)]
    have g2 : List.drop 8 (bA (recOut k n 0)) = bA [] := by
      rw [List.drop_of_length_le (by omega)]; rfl
    have c3 := numberOf_bad [] (by decide) (by decide)
    have d1 : (!decide (((bA (recOut k n 0)).length : Int) = 8)) = false := by rw [decide_eq_true (by omega)]; rfl
    have hbl : (bA (recOut k n 0)).length = 8 := by omega
    generalize recOut k n 0 = R at *
    clear e
    rw [← g2] at c3
    repeat' (first | refine T_seq ?_ | refine N_then ?_ | refine T_regX tyOk ?_ | (apply T_drawAll tyOk mixed; (· kernel_rfl)) | refine S_nil ?_ | refine T_skip ?_ | refine T_ret ?_ | (apply E_X <;> repeat' (first | exact resL_nil | (apply resL_tmp; (· exact rfl)) | (apply resL_cell; (· exact rfl); (· exact rfl); (· exact rfl); (· exact rfl); (· exact rfl); (· exact rfl)) | (apply resL_arr; (· exact rfl); (· exact rfl); (· exact rfl); (· exact rfl); (· (first | assumption | exact rfl))) | exact viewL_nil | apply viewL_cons | apply view_nothingE | (apply view_slE; (· exact rfl); (· first | exact rfl | assumption | (simp [bA_length]; done) | (simp [bA_length]; omega) | omega); (· exact PureEC.out)) | (apply view_loose; (· exact PureEC.out)) | apply view_agg | apply view_tup | (apply View.ofEq; (· exact PureC.out)) | exact rfl)) | (apply T_ifF; (· exact rfl); (· (first | assumption | exact rfl))) | (apply S_gt; (· exact rfl); (· exact rfl); (· (first | assumption | exact rfl))) | (apply S_gtF'; (· exact rfl); (· exact rfl); (· exact rfl); (· (first | assumption | exact rfl))) | apply S_move | apply S_assign | (apply S_pickT; (· exact gt_any rfl); (· (first | assumption | exact rfl))) | (apply S_pickF; (· exact gt_any rfl); (· (first | assumption | exact rfl))) | (apply S_loadP; (· exact rfl); (· exact gt_any rfl); (· exact rfl); (· exact rfl); (· exact rfl); (· (first | exact ⟨rfl, rfl⟩ | exact ⟨rfl, trivial⟩ | assumption))) | (apply S_loadV; (· exact rfl); (· exact gt_any rfl); (· exact rfl); (· (first | exact ⟨rfl, rfl⟩ | exact ⟨rfl, trivial⟩ | assumption))) | (apply M_field1; (· exact rfl); (· exact rfl); (· exact rfl); (· exact gt_any rfl); (· exact rfl); (· (first | exact ⟨rfl, rfl⟩ | exact ⟨rfl, trivial⟩ | assumption))) | (apply S_fieldP; (· exact rfl); (· exact rfl); (· exact rfl); (· exact rfl); (· exact gt_any rfl)) | (apply S_eql; (· exact gt_any rfl); (· exact gt_any rfl)) | (apply S_neq; (· exact gt_any rfl); (· exact gt_any rfl)) | (apply S_conv; (· exact rfl); (· exact rfl); (· exact gt_any rfl)) | (apply S_len_ls; (· exact rfl); (· exact gt_any rfl)) | apply S_alloc | (apply S_store1; (· exact rfl); (· exact gt_any rfl); (· exact rfl); (· exact rfl); (· exact rfl); (· exact rfl)) | (apply S_idxLs; (· exact rfl); (· exact rfl); (· exact gt_any rfl); (· exact gt_any rfl)) | (apply M_slLs; (· exact rfl); (· exact rfl); (· exact gt_any rfl); (· exact rfl)) | apply S_call (f := 44) | apply c0 | apply S_call (f := 143) | apply c1 | apply S_call (f := 142) | apply c2 | apply c3 | (apply mtake; first | assumption | exact take_full (by first | rfl | (simp; done)) | exact rfl) | exact PureLC.out | (apply mlen; first | exact rfl | assumption | exact Nat.le_of_ble_eq_true rfl | omega | (simp [bA_length]; done) | (simp [bA_length]; omega)) | (apply mtake; first | assumption | exact take_full (by first | rfl | (simp; done)) | exact rfl) | (apply mnat; first | exact Int.toNat_natCast _ | exact rfl) | exact Bd.no _ | (apply bd_at; (· exact gt_any rfl)) | exact gt_any rfl | exact gts_nil | (apply gts_cons; (· exact gt_any rfl)) | exact okCells_of rfl rfl | assumption | (refine ⟨?_, ?_⟩ <;> omega) | omega | exact rfl | fail)

end Go.Proofs.Ytmaginepopldnaa
