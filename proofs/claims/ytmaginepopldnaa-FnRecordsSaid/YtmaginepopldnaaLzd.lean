/- The law of records. -/
import Derived.Test.YtmaginepopldnaaYr
import Derived.Test.YtmaginepopldnaaYb
import Derived.Test.YtmaginepopldnaaWt
import Derived.Test.YtmaginepopldnaaGj
set_option maxRecDepth 100000
set_option maxHeartbeats 3200000
set_option linter.unusedSimpArgs false
set_option linter.unusedVariables false
namespace Go.Proofs.Ytmaginepopldnaa
open Go.Av
attribute [local irreducible] T thenQ blockQ againQ againS WX retV retR Gt Gts GtsP okCells CV CR Av.Pure
attribute [local irreducible] numV putN recOut tryQ settleQ nextV

theorem implTryItem_cv (c : Int) (q : List Itm) (n t : Int) (h : q.length ≤ 1048576) : CV Try.prog 40 [relA c q, .int .i64 n, .int .i64 t] (· = relResA (tnCode c q n t) (tnC c q n t) (tnQ c q n t)) :=
  (implTryItem_cr c q n t h 0).toCV fun r b n' ⟨e1, e2, e3⟩ => by subst e1 e2; exact relRes_view rfl
theorem specTryItem_cv (c : Int) (q : List Itm) (n t : Int) (h : q.length ≤ 1048576) : CV Try.prog 39 [relA c q, .int .i64 n, .int .i64 t] (· = relResA (tnCode c q n t) (tnC c q n t) (tnQ c q n t)) :=
  (specTryItem_cr c q n t h 0).toCV fun r b n' ⟨e1, e2, e3⟩ => by subst e1 e2; exact relRes_view rfl
theorem implSettleItem_cv (c : Int) (q : List Itm) (n : Int) (h : q.length ≤ 1048576) : CV Try.prog 38 [relA c q, .int .i64 n] (· = relResA (stCode c q n) (stC c q n) (stQ c q n)) :=
  (implSettleItem_cr c q n h 0).toCV fun r b n' ⟨e1, e2, e3⟩ => by subst e1 e2; exact relRes_view rfl
theorem applyTry_cv (c : Int) (q : List Itm) (n t : Int) (h : q.length ≤ 1048576) (hf : relFault c q = 0) (he : tryCode q n t = 0) (hr : recCode 2 n t = 0) : CV Try.prog 43 [relA c q, sl1 (bA (recOut 2 n t))] (· = relResA 0 c (tryQ q n t)) :=
  (applyTry_cr c q n t h hf he hr 0).toCV fun r b n' ⟨e1, e2, e3⟩ => by subst e1 e2; exact relRes_view rfl
theorem applySettle_cv (c : Int) (q : List Itm) (n t : Int) (h : q.length ≤ 1048576) (hf : relFault c q = 0) (he : settleCode q n = 0) (hr : recCode 3 n t = 0) : CV Try.prog 43 [relA c q, sl1 (bA (recOut 3 n t))] (· = relResA 0 c (settleQ q n)) :=
  (applySettle_cr c q n t h hf he hr 0).toCV fun r b n' ⟨e1, e2, e3⟩ => by subst e1 e2; exact relRes_view rfl

theorem settleQ_length {q : List Itm} {n : Int} (h : settleCode q n = 0) : (settleQ q n).length + 1 = q.length := by
  obtain ⟨i, e, hi⟩ := settleCode_ok h
  unfold settleQ
  rw [e, Int.toNat_natCast, List.length_eraseIdx_of_lt hi]
  omega

theorem law_Records (code : List UInt8) (hc : code.length ≤ 9223372036854775807) : CV Try.prog 8 [byA code] (· = .bool true) := by
  refine CV_intro tyOk Try.func8 (by kernel_rfl) rfl 149 rfl (by simp) [.tmp 2] rfl ?_
  intro w0 ok0
  have hbig := lwBig_cv code
  by_cases g : 1048576 < code.length
  · rw [decide_eq_true g] at hbig
    repeat' (first | refine T_seq ?_ | refine N_then ?_ | refine N_thenR ?_ | refine T_regX tyOk ?_ | refine S_nil ?_ | refine T_ret ?_ | (apply E_tmp; (· exact rfl); (· (repeat' (first | exact pure_int _ _ | exact pure_bool _ | exact pure_str _); done))) | (apply T_ifT; (· exact rfl); (· (first | assumption | exact rfl))) | apply S_move | apply S_assign | apply S_callQ (f := 41) | apply hbig | exact viewL_nil | apply viewL_cons | (apply View.pure; exact PureC.out) | exact FlatC.out | exact gt_any rfl | exact gts_nil | (apply gts_cons; (· exact gt_any rfl)) | exact rfl | fail)
  rw [decide_eq_false g] at hbig
  have c0 := drawTryItem_cv code (by omega)
  obtain ⟨h1, h2⟩ := drwRel_le code 0
  generalize (drwItm code (drwRel code 0)).1 = n at *
  generalize drwTime code (drwItm code (drwRel code 0)).2 = t at *
  generalize drwRel code 0 = s at *
  obtain ⟨c, q, k⟩ := s
  simp only at h1 h2 c0
  have c1 := implTryItem_cv c q n t (by omega)
  by_cases h : tnCode c q n t = 0
  case neg =>
    have c2 := specTryItem_cv c q n t (by omega)
    have e1 : (!decide (tnCode c q n t = 0)) = true := by rw [decide_eq_false h]; rfl
    have e2 : decide (tnCode c q n t = tnCode c q n t) = true := decide_eq_true rfl
    generalize tnCode c q n t = cc at *
    generalize tnC c q n t = co at *
    generalize tnQ c q n t = cq at *
    repeat' (first | refine T_seq ?_ | refine N_then ?_ | refine N_thenR ?_ | refine T_regX tyOk ?_ | (apply T_drawAll tyOk mixed; (· kernel_rfl)) | refine S_nil ?_ | refine T_skip ?_ | refine T_ret ?_ | (apply E_tmp; (· exact rfl); (· (repeat' (first | exact pure_int _ _ | exact pure_bool _ | exact pure_str _); done))) | (apply T_ifT; (· exact rfl); (· (first | assumption | exact rfl))) | (apply T_ifF; (· exact rfl); (· (first | assumption | exact rfl))) | apply S_move | apply S_assign | (apply S_loadP; (· exact rfl); (· exact gt_any rfl); (· exact rfl); (· exact rfl); (· exact rfl); (· (first | exact ⟨rfl, rfl⟩ | exact ⟨rfl, trivial⟩ | assumption))) | (apply S_loadW; (· exact rfl); (· exact gt_any rfl); (· exact rfl); (· exact rfl); (· exact rfl); (· exact rfl); (· exact rfl); (· exact rfl)) | (apply M_field1; (· exact rfl); (· exact rfl); (· exact rfl); (· exact gt_any rfl); (· exact rfl); (· (first | exact ⟨rfl, rfl⟩ | exact ⟨rfl, trivial⟩ | assumption))) | (apply S_fieldP; (· exact rfl); (· exact rfl); (· exact rfl); (· exact rfl); (· exact gt_any rfl)) | (apply S_eql; (· exact gt_any rfl); (· exact gt_any rfl)) | (apply S_neq; (· exact gt_any rfl); (· exact gt_any rfl)) | apply S_extract | apply S_alloc | (apply S_store1; (· exact rfl); (· exact gt_any rfl); (· exact rfl); (· exact rfl); (· exact rfl); (· exact rfl)) | apply S_callQ (f := 41) | apply hbig | apply S_call (f := 42) | apply c0 | apply S_call (f := 40) | apply c1 | apply S_call (f := 39) | apply c2 | exact viewL_nil | apply viewL_cons | (apply View.pure; exact PureC.out) | exact FlatC.out | exact PureLC.out | exact gt_any rfl | exact gts_nil | (apply gts_cons; (· exact gt_any rfl)) | exact okCells_of rfl rfl | exact rfl | fail)
    rw [e2]
  have hf : relFault c q = 0 := by
    by_cases x : relFault c q = 0
    · exact x
    · rw [(tn_bad x).1] at h; exact absurd h x
  have ht : tryCode q n t = 0 := by
    by_cases x : tryCode q n t = 0
    · exact x
    · rw [(tn_err hf x).1] at h; exact absurd h x
  obtain ⟨e1, e2, e3⟩ := tn_ok hf ht
  rw [e1, e2, e3] at c1
  obtain ⟨hr2, hr3, hst⟩ := try_nonce hf ht
  obtain ⟨f1, f2, f3⟩ := relFault_ok hf
  have c2 := implRecordOf_cv 2 n t
  rw [hr2] at c2
  have c3 := implRecordOf_cv 3 n 0
  rw [hr3] at c3
  have c4 := applyTry_cv c q n t (by omega) hf ht hr2
  have c5 := applySettle_cv c q n 0 (by omega) hf hst hr3
  have c6 := implSettleItem_cv c q n (by omega)
  obtain ⟨s1, s2, s3⟩ := st_ok hf hst
  rw [s1, s2, s3] at c6
  have hQ := tryQ_rel hf ht
  have c7 := implRelayerFault_cv c (tryQ q n t) (by rw [tryQ_length]; omega)
  rw [hQ] at c7
  have hl1 := tryQ_length q n t
  have hl2 := settleQ_length hst
  have hw := fun j hj hn => tryQ_waits hf ht (j := j) hj hn
  generalize recOut 2 n t = R2 at *
  generalize recOut 3 n 0 = R3 at *
  generalize tryQ q n t = A at *
  generalize settleQ q n = B at *
  have mq : (q.map itemA).length = q.length := by simp
  have mA : (A.map itemA).length = A.length := by simp
  have mB : (B.map itemA).length = B.length := by simp
  have d0 : (!decide ((0 : Int) = 0)) = false := rfl
  have w1 : IntKind.wrap .i64 (((q.map itemA).length : Int) - 1) = ((B.map itemA).length : Int) := by rw [wrap_i64 (by omega) (by omega)]; omega
  have d1 : (!decide (((B.map itemA).length : Int) = ((B.map itemA).length : Int))) = false := by rw [decide_eq_true rfl]; rfl
  have d2 : (!decide (((A.map itemA).length : Int) = ((A.map itemA).length : Int))) = false := by rw [decide_eq_true rfl]; rfl
  repeat' (first | refine T_seq ?_ | refine N_then ?_ | refine T_regX tyOk ?_ | (apply T_drawQ (id := 7) 7 [6] tyOk mixed; (· exact rfl); (· exact rfl); (· exact rfl); (· kernel_rfl); (· kernel_rfl); (· exact Nat.le_of_ble_eq_true rfl)) | (apply T_drawQ (id := 9) 6 [5] tyOk mixed; (· exact rfl); (· exact rfl); (· exact rfl); (· kernel_rfl); (· kernel_rfl); (· exact Nat.le_of_ble_eq_true rfl)) | refine S_nil ?_ | refine T_skip ?_ | refine T_block ?_ | (apply T_ifF; (· exact rfl); (· (first | assumption | exact rfl))) | (apply S_gf; (· exact rfl); (· exact rfl); (· (first | assumption | exact rfl))) | apply S_move | apply S_assign | (apply S_pickF; (· exact gt_any rfl); (· (first | assumption | exact rfl))) | (apply S_loadP; (· exact rfl); (· exact gt_any rfl); (· exact rfl); (· exact rfl); (· exact rfl); (· (first | exact ⟨rfl, rfl⟩ | exact ⟨rfl, trivial⟩ | assumption))) | (apply S_loadW; (· exact rfl); (· exact gt_any rfl); (· exact rfl); (· exact rfl); (· exact rfl); (· exact rfl); (· exact rfl); (· exact rfl)) | (apply M_field1; (· exact rfl); (· exact rfl); (· exact rfl); (· exact gt_any rfl); (· exact rfl); (· (first | exact ⟨rfl, rfl⟩ | exact ⟨rfl, trivial⟩ | assumption))) | (apply S_fieldP; (· exact rfl); (· exact rfl); (· exact rfl); (· exact rfl); (· exact gt_any rfl)) | (apply S_neq; (· exact gt_any rfl); (· exact gt_any rfl)) | apply S_sub | (apply S_len_ls; (· exact rfl); (· exact gt_any rfl)) | apply S_extract | apply S_alloc | (apply S_store1; (· exact rfl); (· exact gt_any rfl); (· exact rfl); (· exact rfl); (· exact rfl); (· exact rfl)) | (apply L_alloc tyOk; (· exact rfl); (· exact rfl); (· (first | exact okCells_of rfl rfl | assumption)); (· exact rfl); (· exact rfl)) | apply S_callQ (f := 41) | apply hbig | apply S_call (f := 42) | apply c0 | apply S_call (f := 40) | apply c1 | apply S_call (f := 44) | apply c2 | apply c3 | apply S_call (f := 43) | apply c4 | apply c5 | apply S_call (f := 38) | apply c6 | exact viewL_nil | apply viewL_cons | (apply View.pure; exact PureC.out) | exact FlatC.out | exact PureLC.out | exact gt_any rfl | exact gts_nil | (apply gts_cons; (· exact gt_any rfl)) | exact okCells_of rfl rfl | assumption | exact rfl | fail)
  refine T_roundsS (α := Nat) (fun j => ⟨[(3, .ptr 0 0 0), (4, .int .i64 n), (5, .int .i64 t), (6, .ptr 1 0 0), (7, .ptr 2 0 0), (10, .int .i64 j)],
    [(0, some ⟨[relA c q], 2, false, false⟩), (1, some ⟨[relResA 0 c A], 3, false, false⟩), (2, some ⟨[relResA 0 c A], 3, false, false⟩)], 3⟩)
    (fun j => A.length - j) (fun j => j ≤ A.length) 0 (sub_names [(0, 0), (1, 1), (2, 2)] (k0 := 0) rfl (by rfl) (by repeat' (first | exact pullE_nil | (apply pullE_cons; (· exact rfl)) | exact Ren.sl _ _ _ _ | (apply ren_slE; (· first | exact rfl | omega); (· first | exact rfl | assumption | (simp [bA_length]; done) | (simp [bA_length]; omega)); (· first | exact rfl | assumption | (simp [bA_length]; done) | (simp [bA_length]; omega))) | exact Ren.ptr _ _ _ | (apply Ren.pure; (first | exact PureC.out | exact PureLC.out | assumption)) | exact renL_nil | apply renL_cons | apply ren_agg | apply ren_tup)) (by repeat' (first | exact pullB_nil | (apply pullB_pure; (· first | exact rfl | exact congrArg (fun l => some (Box.mk l _ _ _)) hset); (· (exact PureEC.out))) | (apply pullB_one; (· exact rfl)) | exact renL_nil | apply renL_cons | exact Ren.sl _ _ _ _ | exact Ren.ptr _ _ _ | (apply Ren.pure; (first | exact PureC.out | exact PureLC.out | assumption)) | apply ren_agg)) (by repeat' (first | exact lowE_nil | apply lowE_cons | exact Low.sl _ _ _ _ (by decide) | exact Low.ptr _ _ _ (by decide) | (apply Low.pure; (first | exact PureC.out | exact PureLC.out | assumption)) | exact lowL_nil | apply lowL_cons | apply low_agg | apply low_tup)) (by repeat' (first | exact lowBs_nil | apply lowBs_cons | (apply PureB.low; (exact PureEC.out)) | apply lowX_one | exact lowX_nil | exact lowL_nil | apply lowL_cons | exact Low.sl _ _ _ _ (by decide) | exact Low.ptr _ _ _ (by decide) | (apply Low.pure; (first | exact PureC.out | exact PureLC.out | assumption))))) (by omega) ?_
  intro j hj
  by_cases hjl : j < A.length
  · have d3 : decide ((j : Int) < ((A.map itemA).length : Int)) = true := decide_eq_true (by omega)
    have g1 := map_getD itemA A it0 (k := j) hjl
    have hwj := hw j (by omega)
    generalize A.getD j it0 = x at *
    have w2 : IntKind.wrap .i64 ((j : Int) + 1) = ((j + 1 : Nat) : Int) := by rw [wrap_i64 (by omega) (by omega)]; omega
    have i1 : (0 : Int) ≤ (j : Int) ∧ (j : Int) < ((A.map itemA).length : Int) := by omega
    have d4 : cellsEq [.int .i64 x.nonce, .int .i64 x.tries, .int .i64 x.after] [.int .i64 x.nonce, .int .i64 x.tries, .int .i64 x.after] = true := by simp [cellsEq]
    have d6 : (!true) = false := rfl
    by_cases hn : x.nonce = n
    · have d7 : decide (x.nonce = n) = true := decide_eq_true hn
      have := hwj hn
      have d8 : decide (x.after ≤ t) = false := decide_eq_false (by omega)
      repeat' (first | refine T_seq ?_ | refine N_then ?_ | refine N_block ?_ | refine T_regX tyOk ?_ | (apply T_drawAll tyOk mixed; (· kernel_rfl)) | refine S_nil ?_ | refine T_skip ?_ | refine T_block ?_ | (apply S_neAgg [.int .i64, .int .i64, .int .i64]; (· exact gt_any rfl); (· exact gt_any rfl); (· (kernel_rfl)); (· exact rfl); (· exact rfl); (· (first | assumption | exact rfl)); (· exact rfl)) | (apply T_ifT; (· exact rfl); (· (first | assumption | exact rfl))) | (apply T_ifF; (· exact rfl); (· (first | assumption | exact rfl))) | (apply S_gt; (· exact rfl); (· exact rfl); (· (first | assumption | exact rfl))) | (apply S_gf; (· exact rfl); (· exact rfl); (· (first | assumption | exact rfl))) | apply S_move | apply S_assign | (apply S_pickT; (· exact gt_any rfl); (· (first | assumption | exact rfl))) | (apply S_pickF; (· exact gt_any rfl); (· (first | assumption | exact rfl))) | (apply S_loadP; (· exact rfl); (· exact gt_any rfl); (· exact rfl); (· exact rfl); (· exact rfl); (· (first | exact ⟨rfl, rfl⟩ | exact ⟨rfl, trivial⟩ | assumption))) | (apply S_loadV; (· exact rfl); (· exact gt_any rfl); (· exact rfl); (· (first | exact ⟨rfl, rfl⟩ | exact ⟨rfl, trivial⟩ | assumption))) | (apply S_loadVA; (· exact rfl); (· exact gt_any rfl); (· exact rfl); (· exact rfl)) | (apply S_fieldP; (· exact rfl); (· exact rfl); (· exact rfl); (· exact rfl); (· exact gt_any rfl)) | (apply S_fieldV; (· exact rfl); (· exact rfl); (· exact rfl); (· exact rfl); (· exact gt_any rfl)) | apply S_lss | apply S_leq | (apply S_eql; (· exact gt_any rfl); (· exact gt_any rfl)) | apply S_add | (apply S_len_ls; (· exact rfl); (· exact gt_any rfl)) | (apply S_idxLs; (· exact rfl); (· exact rfl); (· exact gt_any rfl); (· exact gt_any rfl)) | exact gt_any rfl | assumption | exact rfl | fail)
      exact N_againS (j + 1) ((weak_of (by repeat' (first | exact keepE_nil | refine keepE_cons rfl ?_)) (by repeat' (first | exact keepB_nil | refine keepB_cons (by first | rfl | exact congrArg (fun l => some (Box.mk l _ _ _)) hset) ?_)) (Nat.le_refl _))).sub (by omega) (by omega)
    · have d7 : decide (x.nonce = n) = false := decide_eq_false hn
      repeat' (first | refine T_seq ?_ | refine N_then ?_ | refine N_block ?_ | refine T_regX tyOk ?_ | (apply T_drawAll tyOk mixed; (· kernel_rfl)) | refine S_nil ?_ | refine T_skip ?_ | refine T_block ?_ | (apply S_neAgg [.int .i64, .int .i64, .int .i64]; (· exact gt_any rfl); (· exact gt_any rfl); (· (kernel_rfl)); (· exact rfl); (· exact rfl); (· (first | assumption | exact rfl)); (· exact rfl)) | (apply T_ifT; (· exact rfl); (· (first | assumption | exact rfl))) | (apply T_ifF; (· exact rfl); (· (first | assumption | exact rfl))) | (apply S_gf; (· exact rfl); (· exact rfl); (· (first | assumption | exact rfl))) | (apply S_gtF'; (· exact rfl); (· exact rfl); (· exact rfl); (· (first | assumption | exact rfl))) | apply S_move | apply S_assign | (apply S_pickF; (· exact gt_any rfl); (· (first | assumption | exact rfl))) | (apply S_loadP; (· exact rfl); (· exact gt_any rfl); (· exact rfl); (· exact rfl); (· exact rfl); (· (first | exact ⟨rfl, rfl⟩ | exact ⟨rfl, trivial⟩ | assumption))) | (apply S_loadV; (· exact rfl); (· exact gt_any rfl); (· exact rfl); (· (first | exact ⟨rfl, rfl⟩ | exact ⟨rfl, trivial⟩ | assumption))) | (apply S_loadVA; (· exact rfl); (· exact gt_any rfl); (· exact rfl); (· exact rfl)) | (apply S_fieldP; (· exact rfl); (· exact rfl); (· exact rfl); (· exact rfl); (· exact gt_any rfl)) | (apply S_fieldV; (· exact rfl); (· exact rfl); (· exact rfl); (· exact rfl); (· exact gt_any rfl)) | apply S_lss | (apply S_eql; (· exact gt_any rfl); (· exact gt_any rfl)) | apply S_add | (apply S_len_ls; (· exact rfl); (· exact gt_any rfl)) | (apply S_idxLs; (· exact rfl); (· exact rfl); (· exact gt_any rfl); (· exact gt_any rfl)) | exact gt_any rfl | assumption | exact rfl | fail)
      exact N_againS (j + 1) ((weak_of (by repeat' (first | exact keepE_nil | refine keepE_cons rfl ?_)) (by repeat' (first | exact keepB_nil | refine keepB_cons (by first | rfl | exact congrArg (fun l => some (Box.mk l _ _ _)) hset) ?_)) (Nat.le_refl _))).sub (by omega) (by omega)
  · have d3 : decide ((j : Int) < ((A.map itemA).length : Int)) = false := decide_eq_false (by omega)
    have d4 : decide (c = c) = true := decide_eq_true rfl
    have d5 : decide ((0 : Int) = 0) = true := rfl
    repeat' (first | refine T_seq ?_ | refine N_then ?_ | refine N_thenE ?_ | refine N_blockE ?_ | refine N_againSE ?_ | refine T_regX tyOk ?_ | refine S_nil ?_ | refine T_ret ?_ | refine T_exit ?_ | (apply E_tmp; (· exact rfl); (· (repeat' (first | exact pure_int _ _ | exact pure_bool _ | exact pure_str _); done))) | (apply T_ifF; (· exact rfl); (· (first | assumption | exact rfl))) | (apply S_gt; (· exact rfl); (· exact rfl); (· (first | assumption | exact rfl))) | apply S_move | apply S_assign | (apply S_pickT; (· exact gt_any rfl); (· (first | assumption | exact rfl))) | (apply S_loadP; (· exact rfl); (· exact gt_any rfl); (· exact rfl); (· exact rfl); (· exact rfl); (· (first | exact ⟨rfl, rfl⟩ | exact ⟨rfl, trivial⟩ | assumption))) | (apply M_loadA; (· exact rfl); (· exact rfl); (· exact gt_any rfl); (· exact rfl); (· exact rfl); (· (repeat' constructor))) | (apply S_fieldP; (· exact rfl); (· exact rfl); (· exact rfl); (· exact rfl); (· exact gt_any rfl)) | apply S_lss | (apply S_eql; (· exact gt_any rfl); (· exact gt_any rfl)) | (apply S_len_ls; (· exact rfl); (· exact gt_any rfl)) | apply S_call (f := 45) | apply c7 | exact PureLC.out | exact gt_any rfl | exact gts_nil | (apply gts_cons; (· exact gt_any rfl)) | assumption | fail)
    rw [d4]

end Go.Proofs.Ytmaginepopldnaa
