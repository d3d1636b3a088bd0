/- The law of logs that crash. -/
import Derived.Test.YthfikpgbddpmoaaYl
import Derived.Test.YthfikpgbddpmoaaWt
set_option maxRecDepth 100000
set_option maxHeartbeats 3200000
set_option linter.unusedSimpArgs false
set_option linter.unusedVariables false
namespace Go.Proofs.Ythfikpgbddpmoaa
open Go.Av
attribute [local irreducible] T thenQ blockQ againQ againS WX retV retR Gt Gts GtsP okCells CV CR Av.Pure
attribute [local irreducible] sha nextV payV readRs readAt drwP drwLog

theorem law_Crashes (code : List UInt8) (hc : code.length ≤ 9223372036854775807) : CV Try.prog 4 [byA code] (· = .bool true) := by
  refine CV_intro tyOk Try.func4 (by kernel_rfl) rfl 108 rfl (by simp) [.tmp 2] rfl ?_
  intro w0 ok0
  have hbig := lwBig_cv code
  by_cases g : 1048576 < code.length
  · rw [decide_eq_true g] at hbig
    repeat' (first | refine T_seq ?_ | refine N_then ?_ | refine N_thenR ?_ | refine T_regX tyOk ?_ | refine S_nil ?_ | refine T_ret ?_ | (apply E_tmp; (· exact rfl); (· (repeat' (first | exact pure_int _ _ | exact pure_bool _ | exact pure_str _); done))) | (apply T_ifT; (· exact rfl); (· (first | assumption | exact rfl))) | apply S_move | apply S_assign | apply S_callQ (f := 13) | apply hbig | exact viewL_nil | apply viewL_cons | (apply View.pure; exact PureC.out) | exact FlatC.out | exact gt_any rfl | exact gts_nil | (apply gts_cons; (· exact gt_any rfl)) | exact rfl | fail)
  rw [decide_eq_false g] at hbig
  have c0 := drawCrashLog_cv code (by omega)
  obtain ⟨h1, h2, h3, h4⟩ := drwLog_le code 0
  have hbl : ((drwLog code 0).b.take (drwLog code 0).n).length ≤ 1000 := by rw [List.length_take]; omega
  generalize (drwLog code 0).b.take (drwLog code 0).n = b at *
  generalize (drwLog code 0).a = a at *
  generalize drwP code = p at *
  have c1 := implCrashLog_cv a b p (by omega) (by omega)
  by_cases h : crashCode a b p = 0
  case neg =>
    have c2 := specCrashLog_cv a b p (by omega) (by omega)
    have e1 : (!decide (crashCode a b p = 0)) = true := by rw [decide_eq_false h]; rfl
    have e2 : decide (crashCode a b p = crashCode a b p) = true := decide_eq_true rfl
    generalize crashCode a b p = cc at *
    generalize crashOut a b p = co at *
    repeat' (first | refine T_seq ?_ | refine N_then ?_ | refine N_thenR ?_ | refine T_regX tyOk ?_ | (apply T_drawAll tyOk mixed; (· kernel_rfl)) | refine S_nil ?_ | refine T_skip ?_ | refine T_ret ?_ | (apply E_tmp; (· exact rfl); (· (repeat' (first | exact pure_int _ _ | exact pure_bool _ | exact pure_str _); done))) | (apply T_ifT; (· exact rfl); (· (first | assumption | exact rfl))) | (apply T_ifF; (· exact rfl); (· (first | assumption | exact rfl))) | apply S_move | apply S_assign | (apply S_loadP; (· exact rfl); (· exact gt_any rfl); (· exact rfl); (· exact rfl); (· exact rfl); (· (first | exact ⟨rfl, rfl⟩ | exact ⟨rfl, trivial⟩ | assumption))) | (apply S_loadW; (· exact rfl); (· exact gt_any rfl); (· exact rfl); (· exact rfl); (· exact rfl); (· exact rfl); (· exact rfl); (· exact rfl)) | (apply M_field1; (· exact rfl); (· exact rfl); (· exact rfl); (· exact gt_any rfl); (· exact rfl); (· (first | exact ⟨rfl, rfl⟩ | exact ⟨rfl, trivial⟩ | assumption))) | (apply S_fieldP; (· exact rfl); (· exact rfl); (· exact rfl); (· exact rfl); (· exact gt_any rfl)) | (apply S_eql; (· exact gt_any rfl); (· exact gt_any rfl)) | (apply S_neq; (· exact gt_any rfl); (· exact gt_any rfl)) | apply S_extract | apply S_alloc | (apply S_store1; (· exact rfl); (· exact gt_any rfl); (· exact rfl); (· exact rfl); (· exact rfl); (· exact rfl)) | apply S_callQ (f := 13) | apply hbig | apply S_call (f := 21) | apply c0 | apply S_call (f := 22) | apply c1 | apply S_call (f := 23) | apply c2 | exact viewL_nil | apply viewL_cons | (apply View.pure; exact PureC.out) | exact FlatC.out | exact PureLC.out | exact gt_any rfl | exact gts_nil | (apply gts_cons; (· exact gt_any rfl)) | exact okCells_of rfl rfl | exact rfl | fail)
    rw [e2]
  have hlf : logFault a b = 0 := by
    by_cases q : logFault a b = 0
    · exact q
    · unfold crashCode at h; rw [if_pos q] at h; exact absurd h q
  have hle := logFault_le hlf
  have hp : 0 ≤ p ∧ p ≤ b.length := by
    by_cases q : 0 ≤ p ∧ p ≤ b.length
    · exact q
    · unfold crashCode at h; rw [if_neg (fun x => x hlf), if_neg q] at h; exact absurd h (by decide)
  have hout : crashOut a b p = a ++ b.take p.toNat := if_pos h
  rw [h, hout] at c1
  have hKl : (a ++ b.take p.toNat).length = a.length + p.toNat := by rw [List.length_append, List.length_take]; omega
  have hKa : (a ++ b.take p.toNat).take a.length = a := by rw [List.take_left]
  have hKD : (a ++ b).take (a ++ b.take p.toNat).length = a ++ b.take p.toNat := by
    rw [hKl, List.take_append, List.take_of_length_le (by omega), show a.length + p.toNat - a.length = p.toNat by omega]
  generalize a ++ b.take p.toNat = K at *
  have c2 := implReadRecords_cv a (by omega)
  have c3 := implRecordsOf_cv a b (by omega)
  have c4 := implRecoverLog_cv K [] (by omega) (by decide)
  have hlk : logFault K [] = 0 := if_neg (by simp; omega)
  have hrc : rcCode K [] = 0 := by unfold rcCode; rw [if_neg (fun x => x hlk), if_neg (fun x => x rfl)]
  have hro : rcOut K [] = K.take (readAt K) := if_pos hrc
  rw [hrc, hro] at c4
  obtain ⟨r1, r2⟩ := read_rec K
  have hRl : (K.take (readAt K)).length = readAt K := by rw [List.length_take]; have := readAt_le K; omega
  have hRl2 := readAt_le K
  have c5 := implRecordsOf_cv (K.take (readAt K)) [] (by rw [hRl]; simp; omega)
  rw [List.append_nil, r1, r2] at c5
  obtain ⟨t1, p1⟩ := readRs_take K a.length
  rw [hKa] at p1
  obtain ⟨t2, p2⟩ := readRs_take (a ++ b) K.length
  rw [hKD] at p2
  have hall : (readRs (a ++ b)).length ≤ 2000 := by
    have q1 := (rd_le (a ++ b) (a ++ b).length).1
    have q2 := (rd_le (a ++ b) (a ++ b).length).2
    have q3 : (readRs (a ++ b)).length = (rdSt (a ++ b) (a ++ b).length).1.length := by unfold readRs; rfl
    have q4 : (a ++ b).length = a.length + b.length := List.length_append
    omega
  have l1 : (readRs a).length ≤ (readRs K).length := by rw [p1, List.length_append]; omega
  have l2 : (readRs K).length ≤ (readRs (a ++ b)).length := by rw [p2, List.length_append]; omega
  have hget : ∀ i, i < (readRs K).length → (readRs (a ++ b)).getD i [] = (readRs K).getD i [] := fun i hi => by
    rw [p2, List.getD_eq_getElem?_getD, List.getD_eq_getElem?_getD, List.getElem?_append_left hi]
  generalize readRs (a ++ b) = A at *
  generalize readRs K = O at *
  generalize readRs a = S at *
  generalize readAt (a ++ b) = ka at *
  generalize readAt a = ks at *
  generalize K.take (readAt K) = R at *
  generalize readAt K = kr at *
  clear p1 p2 t1 t2 hKa hKD h1 h2 h3 h4
  have mO : (O.map byA).length = O.length := by simp
  have mA : (A.map byA).length = A.length := by simp
  have mS : (S.map byA).length = S.length := by simp
  have bR := bA_length R
  have bK := bA_length K
  have ba := bA_length a
  have e0 : (!decide ((0 : Int) = 0)) = false := rfl
  have e1 : decide (((O.map byA).length : Int) < ((S.map byA).length : Int)) = false := decide_eq_false (by omega)
  have e2 : decide (((A.map byA).length : Int) < ((O.map byA).length : Int)) = false := decide_eq_false (by omega)
  have e3 : (!decide (((bA R).length : Int) = (kr : Int))) = false := by rw [decide_eq_true (by omega)]; rfl
  repeat' (first | refine T_seq ?_ | refine N_then ?_ | refine T_regX tyOk ?_ | refine S_nil ?_ | refine T_skip ?_ | refine T_block ?_ | (apply T_ifF; (· exact rfl); (· (first | assumption | exact rfl))) | (apply S_gf; (· exact rfl); (· exact rfl); (· (first | assumption | exact rfl))) | apply S_move | apply S_assign | (apply S_pickF; (· exact gt_any rfl); (· (first | assumption | exact rfl))) | (apply S_loadP; (· exact rfl); (· exact gt_any rfl); (· exact rfl); (· exact rfl); (· exact rfl); (· (first | exact ⟨rfl, rfl⟩ | exact ⟨rfl, trivial⟩ | assumption))) | (apply S_loadW; (· exact rfl); (· exact gt_any rfl); (· exact rfl); (· exact rfl); (· exact rfl); (· exact rfl); (· exact rfl); (· exact rfl)) | (apply M_loadA; (· exact rfl); (· exact rfl); (· exact gt_any rfl); (· exact rfl); (· exact rfl); (· (repeat' constructor))) | (apply S_fieldP; (· exact rfl); (· exact rfl); (· exact rfl); (· exact rfl); (· exact gt_any rfl)) | apply S_lss | apply S_gtr | (apply S_neq; (· exact gt_any rfl); (· exact gt_any rfl)) | (apply S_len_ls; (· exact rfl); (· exact gt_any rfl)) | apply S_extract | apply S_alloc | (apply S_store1; (· exact rfl); (· exact gt_any rfl); (· exact rfl); (· exact rfl); (· exact rfl); (· exact rfl)) | apply S_callQ (f := 13) | apply hbig | apply S_call (f := 21) | apply c0 | apply S_call (f := 22) | apply c1 | apply S_call (f := 24) | apply c2 | apply S_call (f := 19) | apply c3 | apply S_call (f := 25) | apply c4 | apply c5 | exact viewL_nil | apply viewL_cons | (apply View.pure; exact PureC.out) | exact FlatC.out | exact PureLC.out | exact gt_any rfl | exact gts_nil | (apply gts_cons; (· exact gt_any rfl)) | exact okCells_of rfl rfl | exact rfl | fail)
  refine T_roundsS (α := Nat) (fun j => ⟨[(3, .ptr 0 0 0), (4, .int .i64 p), (5, .ptr 1 0 0), (7, .ptr 2 0 0), (9, .ptr 3 0 0), (10, .int .i64 j)],
    [(0, some ⟨[logA a b], 2, false, false⟩), (1, some ⟨[logResA 0 K []], 3, false, false⟩), (2, some ⟨[.agg [.int .i64 0, .int .i64 (ka : Int), sl1 (A.map byA)]], 3, false, false⟩), (3, some ⟨[.agg [.int .i64 0, .int .i64 (kr : Int), sl1 (O.map byA)]], 3, false, false⟩)], 4⟩)
    (fun j => O.length - j) (fun j => j ≤ O.length) 0 (sub_names [(0, 0), (1, 1), (2, 3), (3, 5)] (k0 := 0) rfl (by rfl) (by repeat' (first | exact pullE_nil | (apply pullE_cons; (· exact rfl)) | exact Ren.sl _ _ _ _ | (apply ren_slE; (· first | exact rfl | omega); (· first | exact rfl | assumption | (simp [bA_length]; done) | (simp [bA_length]; omega)); (· first | exact rfl | assumption | (simp [bA_length]; done) | (simp [bA_length]; omega))) | exact Ren.ptr _ _ _ | (apply Ren.pure; (first | exact PureC.out | exact PureLC.out | assumption)) | exact renL_nil | apply renL_cons | apply ren_agg | apply ren_tup)) (by repeat' (first | exact pullB_nil | (apply pullB_pure; (· first | exact rfl | exact congrArg (fun l => some (Box.mk l _ _ _)) hset); (· (exact PureEC.out))) | (apply pullB_one; (· exact rfl)) | exact renL_nil | apply renL_cons | exact Ren.sl _ _ _ _ | exact Ren.ptr _ _ _ | (apply Ren.pure; (first | exact PureC.out | exact PureLC.out | assumption)) | apply ren_agg)) (by repeat' (first | exact lowE_nil | apply lowE_cons | exact Low.sl _ _ _ _ (by decide) | exact Low.ptr _ _ _ (by decide) | (apply Low.pure; (first | exact PureC.out | exact PureLC.out | assumption)) | exact lowL_nil | apply lowL_cons | apply low_agg | apply low_tup)) (by repeat' (first | exact lowBs_nil | apply lowBs_cons | (apply PureB.low; (exact PureEC.out)) | apply lowX_one | exact lowX_nil | exact lowL_nil | apply lowL_cons | exact Low.sl _ _ _ _ (by decide) | exact Low.ptr _ _ _ (by decide) | (apply Low.pure; (first | exact PureC.out | exact PureLC.out | assumption))))) (by omega) ?_
  intro j hj
  by_cases hjl : j < O.length
  · have d1 : decide ((j : Int) < ((O.map byA).length : Int)) = true := decide_eq_true (by omega)
    have g1 := map_getD byA O [] (k := j) hjl
    have g2 := map_getD byA A [] (k := j) (by omega)
    rw [hget j hjl] at g2
    generalize O.getD j [] = w at *
    have c6 := lwBytes_cv w w
    rw [decide_eq_true rfl] at c6
    have e5 : (!true) = false := rfl
    have hw : IntKind.wrap .i64 ((j : Int) + 1) = ((j + 1 : Nat) : Int) := by rw [wrap_i64 (by omega) (by omega)]; omega
    have i1 : (0 : Int) ≤ (j : Int) ∧ (j : Int) < ((O.map byA).length : Int) := by omega
    have i2 : (0 : Int) ≤ (j : Int) ∧ (j : Int) < ((A.map byA).length : Int) := by omega
    repeat' (first | refine T_seq ?_ | refine N_then ?_ | refine N_block ?_ | refine T_regX tyOk ?_ | (apply T_drawM (id := 16) 10 tyOk mixed; (· exact rfl); (· exact rfl); (· kernel_rfl); (· exact Nat.le_of_ble_eq_true rfl)) | refine S_nil ?_ | refine T_skip ?_ | refine T_block ?_ | (apply T_ifT; (· exact rfl); (· (first | assumption | exact rfl))) | (apply T_ifF; (· exact rfl); (· (first | assumption | exact rfl))) | apply S_move | apply S_assign | (apply S_loadP; (· exact rfl); (· exact gt_any rfl); (· exact rfl); (· exact rfl); (· exact rfl); (· (first | exact ⟨rfl, rfl⟩ | exact ⟨rfl, trivial⟩ | assumption))) | (apply S_loadV; (· exact rfl); (· exact gt_any rfl); (· exact rfl); (· (first | exact ⟨rfl, rfl⟩ | exact ⟨rfl, trivial⟩ | assumption))) | (apply S_fieldP; (· exact rfl); (· exact rfl); (· exact rfl); (· exact rfl); (· exact gt_any rfl)) | apply S_lss | apply S_add | apply S_not | (apply S_len_ls; (· exact rfl); (· exact gt_any rfl)) | (apply S_idxLs; (· exact rfl); (· exact rfl); (· exact gt_any rfl); (· exact gt_any rfl)) | apply S_callQ (f := 20) | apply c6 | exact viewL_nil | apply viewL_cons | (apply View.pure; exact PureC.out) | exact FlatC.out | exact gt_any rfl | exact gts_nil | (apply gts_cons; (· exact gt_any rfl)) | assumption | exact rfl | fail)
    exact N_againS (j + 1) ((weak_of (by repeat' (first | exact keepE_nil | refine keepE_cons rfl ?_)) (by repeat' (first | exact keepB_nil | refine keepB_cons (by first | rfl | exact congrArg (fun l => some (Box.mk l _ _ _)) hset) ?_)) (Nat.le_refl _))).sub (by omega) (by omega)
  · have d1 : decide ((j : Int) < ((O.map byA).length : Int)) = false := decide_eq_false (by omega)
    have w1 : IntKind.wrap .i64 (((bA a).length : Int) + p) = ((bA K).length : Int) := by rw [wrap_i64 (by omega) (by omega)]; omega
    have e5 : decide (((bA K).length : Int) = ((bA K).length : Int)) = true := decide_eq_true rfl
    repeat' (first | refine T_seq ?_ | refine N_then ?_ | refine N_thenE ?_ | refine N_blockE ?_ | refine N_againSE ?_ | refine T_regX tyOk ?_ | refine S_nil ?_ | refine T_ret ?_ | refine T_exit ?_ | (apply E_tmp; (· exact rfl); (· (repeat' (first | exact pure_int _ _ | exact pure_bool _ | exact pure_str _); done))) | (apply T_ifF; (· exact rfl); (· (first | assumption | exact rfl))) | apply S_move | apply S_assign | (apply S_loadP; (· exact rfl); (· exact gt_any rfl); (· exact rfl); (· exact rfl); (· exact rfl); (· (first | exact ⟨rfl, rfl⟩ | exact ⟨rfl, trivial⟩ | assumption))) | (apply S_fieldP; (· exact rfl); (· exact rfl); (· exact rfl); (· exact rfl); (· exact gt_any rfl)) | apply S_lss | (apply S_eql; (· exact gt_any rfl); (· exact gt_any rfl)) | apply S_add | (apply S_len_ls; (· exact rfl); (· exact gt_any rfl)) | exact gt_any rfl | assumption | exact rfl | fail)
    rw [e5]

end Go.Proofs.Ythfikpgbddpmoaa
