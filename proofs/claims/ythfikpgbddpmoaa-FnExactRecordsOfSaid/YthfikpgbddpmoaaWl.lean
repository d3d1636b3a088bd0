/- Logs. -/
import Derived.Test.YthfikpgbddpmoaaWj
import Derived.Test.YthfikpgbddpmoaaWk
set_option maxRecDepth 100000
set_option maxHeartbeats 3200000
set_option linter.unusedSimpArgs false
set_option linter.unusedVariables false
namespace Go.Proofs.Ythfikpgbddpmoaa
open Go.Av
attribute [local irreducible] T thenQ blockQ againQ againS WX retV retR Gt Gts GtsP okCells CV CR Av.Pure

abbrev logA (a b : List UInt8) : AV := .agg [sl1 (bA a), sl1 (bA b)]
abbrev logResA (c : Int) (a b : List UInt8) : AV := .agg [.int .i64 c, sl1 (bA a), sl1 (bA b)]

def logFault (a b : List UInt8) : Int := if 2000 < a.length + b.length then 2 else 0

theorem szLog_cv (a b : List UInt8) (left : Int) (ha : a.length ≤ 9223372036854775807) (hb : b.length ≤ 9223372036854775807) (h0 : 0 ≤ left) (h1 : left ≤ 9223372036854775807) :
    CV Try.prog 26 [logA a b, .int .i64 left] (· = .int .i64 (if left - a.length < 0 ∨ left - a.length - b.length < 0 then -1 else left - a.length - b.length)) := by
  refine CV_intro tyOk Try.func26 (by kernel_rfl) rfl 18 rfl (by simp) [.tmp 4] rfl ?_
  intro w0 ok0
  have c0 := szByteS_cv a left ha h0 h1
  by_cases hc : szAfter left a.length < 0
  · have hd : decide (szAfter left a.length < 0) = true := by simpa using hc
    have : left - a.length < 0 := by unfold szAfter at hc; split at hc <;> omega
    repeat' (first | refine T_seq ?_ | refine N_then ?_ | refine N_thenR ?_ | refine T_regX tyOk ?_ | refine S_nil ?_ | refine T_ret ?_ | (apply E_tmp; (· exact rfl); (· (repeat' (first | exact pure_int _ _ | exact pure_bool _ | exact pure_str _); done))) | (apply T_ifT; (· exact rfl); (· (first | assumption | exact rfl))) | apply S_move | apply S_assign | (apply S_loadP; (· exact rfl); (· exact gt_any rfl); (· exact rfl); (· exact rfl); (· exact rfl); (· (first | exact ⟨rfl, rfl⟩ | exact ⟨rfl, trivial⟩ | assumption))) | (apply S_fieldP; (· exact rfl); (· exact rfl); (· exact rfl); (· exact rfl); (· exact gt_any rfl)) | apply S_lss | apply S_box | apply S_callQ (f := 91) | apply c0 | exact viewL_nil | apply viewL_cons | (apply View.pure; exact PureC.out) | exact FlatC.out | exact gt_any rfl | exact gts_nil | (apply gts_cons; (· exact gt_any rfl)) | exact okCells_of rfl rfl | exact rfl | fail)
    rw [if_pos (.inl this)]
  · have hd : decide (szAfter left a.length < 0) = false := by simpa using hc
    have hq := szAfter_ge hc
    have c1 := szByteS_cv b (szAfter left a.length) hb (by omega) (by omega)
    by_cases hc2 : szAfter (szAfter left a.length) b.length < 0
    · have hd2 : decide (szAfter (szAfter left a.length) b.length < 0) = true := by simpa using hc2
      have : left - a.length - b.length < 0 := by rw [hq.2] at hc2; unfold szAfter at hc2; split at hc2 <;> omega
      repeat' (first | refine T_seq ?_ | refine N_then ?_ | refine N_thenR ?_ | refine T_regX tyOk ?_ | refine S_nil ?_ | refine T_skip ?_ | refine T_ret ?_ | (apply E_tmp; (· exact rfl); (· (repeat' (first | exact pure_int _ _ | exact pure_bool _ | exact pure_str _); done))) | (apply T_ifT; (· exact rfl); (· (first | assumption | exact rfl))) | (apply T_ifF; (· exact rfl); (· (first | assumption | exact rfl))) | apply S_move | apply S_assign | (apply S_loadP; (· exact rfl); (· exact gt_any rfl); (· exact rfl); (· exact rfl); (· exact rfl); (· (first | exact ⟨rfl, rfl⟩ | exact ⟨rfl, trivial⟩ | assumption))) | (apply S_fieldP; (· exact rfl); (· exact rfl); (· exact rfl); (· exact rfl); (· exact gt_any rfl)) | apply S_lss | apply S_box | apply S_callQ (f := 91) | apply c0 | apply c1 | exact viewL_nil | apply viewL_cons | (apply View.pure; exact PureC.out) | exact FlatC.out | exact gt_any rfl | exact gts_nil | (apply gts_cons; (· exact gt_any rfl)) | exact okCells_of rfl rfl | exact rfl | fail)
      rw [if_pos (.inr this)]
    · have hd2 : decide (szAfter (szAfter left a.length) b.length < 0) = false := by simpa using hc2
      have hq2 := szAfter_ge hc2
      repeat' (first | refine T_seq ?_ | refine N_then ?_ | refine T_regX tyOk ?_ | refine S_nil ?_ | refine T_skip ?_ | refine T_ret ?_ | (apply E_tmp; (· exact rfl); (· (repeat' (first | exact pure_int _ _ | exact pure_bool _ | exact pure_str _); done))) | (apply T_ifF; (· exact rfl); (· (first | assumption | exact rfl))) | apply S_move | apply S_assign | (apply S_loadP; (· exact rfl); (· exact gt_any rfl); (· exact rfl); (· exact rfl); (· exact rfl); (· (first | exact ⟨rfl, rfl⟩ | exact ⟨rfl, trivial⟩ | assumption))) | (apply S_fieldP; (· exact rfl); (· exact rfl); (· exact rfl); (· exact rfl); (· exact gt_any rfl)) | apply S_lss | apply S_box | apply S_callQ (f := 91) | apply c0 | apply c1 | exact viewL_nil | apply viewL_cons | (apply View.pure; exact PureC.out) | exact FlatC.out | exact gt_any rfl | exact gts_nil | (apply gts_cons; (· exact gt_any rfl)) | exact okCells_of rfl rfl | exact rfl | fail)
      rw [hq2.2, hq.2, if_neg (by omega)]

theorem toLog_cr0 (a b : List UInt8) (ha : a.length ≤ 1048576) (hb : b.length ≤ 1048576) : CR Try.prog 28 [logA a b] [] 0 (Is (.agg [.sl 0 0 a.length a.length, .sl (0 + 1) 0 b.length b.length]) [(0, some ⟨bA a, 1, false, false⟩), (0 + 1, some ⟨bA b, 1, false, false⟩)] (0 + 2)) := by
  refine CR_introU tyOk Try.func28 (by kernel_rfl) rfl 13 rfl (by simp) [.cell 2 25] rfl ?_
  intro w0 ok0 wr φ0
  have c0 := fun N => toByteS_cr a ha N
  have c1 := fun N => toByteS_cr b hb N
  repeat' (first | refine T_seq ?_ | refine N_then ?_ | refine T_regX tyOk ?_ | refine S_nil ?_ | refine T_ret ?_ | (apply S_loadP; (· exact rfl); (· exact gt_any rfl); (· exact rfl); (· exact rfl); (· exact rfl); (· (first | exact ⟨rfl, rfl⟩ | exact ⟨rfl, trivial⟩ | assumption))) | (apply S_loadW; (· exact rfl); (· exact gt_any rfl); (· exact rfl); (· exact rfl); (· exact rfl); (· exact rfl); (· exact rfl); (· exact rfl)) | (apply S_fieldP; (· exact rfl); (· exact rfl); (· exact rfl); (· exact rfl); (· exact gt_any rfl)) | apply S_alloc | apply S_box | (apply S_store1; (· exact rfl); (· exact gt_any rfl); (· exact rfl); (· exact rfl); (· exact rfl); (· exact rfl)) | (apply S_storeF; (· exact rfl); (· exact gt_any rfl); (· exact rfl); (· exact rfl); (· exact rfl); (· exact rfl); (· exact gt_any rfl); (· exact rfl); (· exact rfl); (· (repeat' constructor))) | apply S_callI (f := 49) | apply c0 | apply c1 | exact viewL_nil | apply viewL_cons | (apply View.pure; exact PureC.out) | exact OwnC.out | exact ownB_nil | (apply ownB_boxM; (· (apply mlen; first | exact rfl | assumption | exact Nat.le_of_ble_eq_true rfl | omega | (simp [bA_length]; done) | (simp [bA_length]; omega))); (· exact OwnEC.out)) | exact gt_any rfl | exact gts_nil | (apply gts_cons; (· exact gt_any rfl)) | exact okCells_of rfl rfl | exact rfl | fail)
  (apply E_U0 [(0, 3), (1, 4)] <;> repeat' (first | exact resL_nil | (apply resL_tmp; (· exact rfl)) | (apply resL_cell; (· exact rfl); (· exact rfl); (· exact rfl); (· exact rfl); (· exact rfl); (· exact rfl)) | (apply resL_arr; (· exact rfl); (· exact rfl); (· exact rfl); (· exact rfl); (· (first | assumption | exact rfl))) | exact Ren.sl _ _ _ _ | (apply ren_slE; (· first | exact rfl | omega); (· first | exact rfl | assumption | (simp [bA_length]; done) | (simp [bA_length]; omega)); (· first | exact rfl | assumption | (simp [bA_length]; done) | (simp [bA_length]; omega))) | exact Ren.ptr _ _ _ | exact renL_nil | apply renL_cons | (apply Ren.pure; exact PureC.out) | apply ren_agg | apply ren_tup | exact Low.sl _ _ _ _ (by decide) | exact Low.ptr _ _ _ (by decide) | exact lowL_nil | apply lowL_cons | (apply Low.pure; exact PureC.out) | apply low_agg | apply low_tup | exact pullB_nil | (apply pullB_pureE; (· exact rfl); (· first | exact rfl | assumption | (simp [bA]; done)); (· exact PureEC.out)) | (apply pullB_one; (· exact rfl)) | exact lowBs_nil | apply lowBs_cons | (apply PureB.low; exact PureEC.out) | apply lowX_one | exact lowX_nil | exact rfl))

theorem toLog_cr (a b : List UInt8) (ha : a.length ≤ 1048576) (hb : b.length ≤ 1048576) (N : Nat) : CR Try.prog 28 [logA a b] [] N (Is (.agg [.sl N 0 a.length a.length, .sl (N + 1) 0 b.length b.length]) [(N, some ⟨bA a, 1, false, false⟩), (N + 1, some ⟨bA b, 1, false, false⟩)] (N + 2)) :=
  CR.allN (toLog_cr0 a b ha hb) N (by first | exact PureC.out | exact PureLC.out | assumption) (by repeat' (first | exact Ren.sl _ _ _ _ | exact Ren.ptr _ _ _ | exact renL_nil | apply renL_cons | (apply Ren.pure; (first | exact PureC.out | exact PureLC.out | assumption)) | apply ren_agg | apply ren_tup)) (by repeat' (first | exact renBs_nil | (apply renBs_pure; (· exact rfl); (· (exact PureEC.out))) | (apply renBs_one; (· exact rfl)) | exact renL_nil | apply renL_cons | exact Ren.sl _ _ _ _ | exact Ren.ptr _ _ _ | (apply Ren.pure; (first | exact PureC.out | exact PureLC.out | assumption)) | apply ren_agg))

theorem toLog_cv (a b : List UInt8) (ha : a.length ≤ 1048576) (hb : b.length ≤ 1048576) : CV Try.prog 28 [logA a b] (· = logA a b) := by
  refine CV_intro tyOk Try.func28 (by kernel_rfl) rfl 13 rfl (by simp) [.cell 2 25] rfl ?_
  intro w0 ok0
  have c0 := toByteS_cv a ha
  have c1 := toByteS_cv b hb
  repeat' (first | refine T_seq ?_ | refine N_then ?_ | refine T_regX tyOk ?_ | refine S_nil ?_ | refine T_ret ?_ | (apply E_X <;> repeat' (first | exact resL_nil | (apply resL_tmp; (· exact rfl)) | (apply resL_cell; (· exact rfl); (· exact rfl); (· exact rfl); (· exact rfl); (· exact rfl); (· exact rfl)) | (apply resL_arr; (· exact rfl); (· exact rfl); (· exact rfl); (· exact rfl); (· (first | assumption | exact rfl))) | exact viewL_nil | apply viewL_cons | apply view_nothingE | (apply view_slE; (· exact rfl); (· first | exact rfl | assumption | (simp [bA_length]; done) | (simp [bA_length]; omega) | omega); (· exact PureEC.out)) | (apply view_loose; (· exact PureEC.out)) | apply view_agg | apply view_tup | (apply View.ofEq; (· exact PureC.out)) | exact rfl)) | (apply S_loadP; (· exact rfl); (· exact gt_any rfl); (· exact rfl); (· exact rfl); (· exact rfl); (· (first | exact ⟨rfl, rfl⟩ | exact ⟨rfl, trivial⟩ | assumption))) | (apply S_loadW; (· exact rfl); (· exact gt_any rfl); (· exact rfl); (· exact rfl); (· exact rfl); (· exact rfl); (· exact rfl); (· exact rfl)) | (apply S_fieldP; (· exact rfl); (· exact rfl); (· exact rfl); (· exact rfl); (· exact gt_any rfl)) | apply S_alloc | apply S_box | (apply S_store1; (· exact rfl); (· exact gt_any rfl); (· exact rfl); (· exact rfl); (· exact rfl); (· exact rfl)) | (apply S_storeF; (· exact rfl); (· exact gt_any rfl); (· exact rfl); (· exact rfl); (· exact rfl); (· exact rfl); (· exact gt_any rfl); (· exact rfl); (· exact rfl); (· (repeat' constructor))) | apply S_call (f := 49) | apply c0 | apply c1 | exact PureLC.out | exact gt_any rfl | exact gts_nil | (apply gts_cons; (· exact gt_any rfl)) | exact okCells_of rfl rfl | exact rfl | fail)

theorem eqLog_cv (a b a' b' : List UInt8) (h : a = a') (h' : b = b') (hl : a.length ≤ 4611686018427387904) (hl' : b.length ≤ 4611686018427387904) : CV Try.prog 30 [logA a b, logA a' b'] (· = .bool true) := by
  refine CV_intro tyOk Try.func30 (by kernel_rfl) rfl 17 rfl (by simp) [.tmp 4] rfl ?_
  intro w0 ok0
  subst h h'
  have h1 : (!decide (a = a)) = false := by simp
  have h2 : (!decide (b = b)) = false := by simp
  have c0 := eqByteS_cv a a hl
  have c1 := eqByteS_cv b b hl'
  repeat' (first | refine T_seq ?_ | refine N_then ?_ | refine T_regX tyOk ?_ | refine S_nil ?_ | refine T_skip ?_ | refine T_ret ?_ | (apply E_tmp; (· exact rfl); (· (repeat' (first | exact pure_int _ _ | exact pure_bool _ | exact pure_str _); done))) | (apply T_ifF; (· exact rfl); (· (first | assumption | exact rfl))) | apply S_assign | (apply S_loadP; (· exact rfl); (· exact gt_any rfl); (· exact rfl); (· exact rfl); (· exact rfl); (· (first | exact ⟨rfl, rfl⟩ | exact ⟨rfl, trivial⟩ | assumption))) | (apply S_fieldP; (· exact rfl); (· exact rfl); (· exact rfl); (· exact rfl); (· exact gt_any rfl)) | apply S_not | apply S_box | apply S_callQ (f := 52) | apply c0 | apply c1 | exact viewL_nil | apply viewL_cons | (apply View.pure; exact PureC.out) | exact FlatC.out | exact gt_any rfl | exact gts_nil | (apply gts_cons; (· exact gt_any rfl)) | exact okCells_of rfl rfl | exact rfl | fail)

theorem specLogFault_cv (a b : List UInt8) (ha : a.length ≤ 1048576) (hb : b.length ≤ 1048576) : CV Try.prog 87 [logA a b] (· = .int .i64 (logFault a b)) := by
  refine CV_intro tyOk Try.func87 (by kernel_rfl) rfl 11 rfl (by simp) [.tmp 2] rfl ?_
  intro w0 ok0
  have e1 := bA_length a
  have e2 := bA_length b
  repeat' (first | refine T_seq ?_ | refine N_then ?_ | refine N_thenR ?_ | refine T_regX tyOk ?_ | refine S_nil ?_ | refine T_skip ?_ | refine T_ret ?_ | (apply E_tmp; (· exact rfl); (· (repeat' (first | exact pure_int _ _ | exact pure_bool _ | exact pure_str _); done))) | refine T_if rfl (fun _ => ?_) (fun _ => ?_) | apply S_assign | (apply S_loadP; (· exact rfl); (· exact gt_any rfl); (· exact rfl); (· exact rfl); (· exact rfl); (· (first | exact ⟨rfl, rfl⟩ | exact ⟨rfl, trivial⟩ | assumption))) | (apply S_fieldP; (· exact rfl); (· exact rfl); (· exact rfl); (· exact rfl); (· exact gt_any rfl)) | apply S_gtr | apply S_add | (apply S_len_ls; (· exact rfl); (· exact gt_any rfl)) | apply S_box | exact gt_any rfl | exact okCells_of rfl rfl | (apply wrap_i64; (· omega); (· omega)) | exact rfl | fail)
  all_goals (simp only [Bool.not_eq_true', Bool.not_eq_false', Bool.and_eq_true, Bool.and_eq_false_iff, Bool.or_eq_true, Bool.or_eq_false_iff, decide_eq_true_eq, decide_eq_false_iff_not] at *; unfold logFault; congr 1; rw [e1, e2] at *; split <;> omega)

theorem implLogFault_cv (a b : List UInt8) (ha : a.length ≤ 1048576) (hb : b.length ≤ 1048576) : CV Try.prog 78 [logA a b] (· = .int .i64 (logFault a b)) := by
  refine CV_intro tyOk Try.func78 (by kernel_rfl) rfl 11 rfl (by simp) [.tmp 2] rfl ?_
  intro w0 ok0
  have e1 := bA_length a
  have e2 := bA_length b
  repeat' (first | refine T_seq ?_ | refine N_then ?_ | refine N_thenR ?_ | refine T_regX tyOk ?_ | refine S_nil ?_ | refine T_skip ?_ | refine T_ret ?_ | (apply E_tmp; (· exact rfl); (· (repeat' (first | exact pure_int _ _ | exact pure_bool _ | exact pure_str _); done))) | refine T_if rfl (fun _ => ?_) (fun _ => ?_) | apply S_assign | (apply S_loadP; (· exact rfl); (· exact gt_any rfl); (· exact rfl); (· exact rfl); (· exact rfl); (· (first | exact ⟨rfl, rfl⟩ | exact ⟨rfl, trivial⟩ | assumption))) | (apply S_fieldP; (· exact rfl); (· exact rfl); (· exact rfl); (· exact rfl); (· exact gt_any rfl)) | apply S_gtr | apply S_add | (apply S_len_ls; (· exact rfl); (· exact gt_any rfl)) | apply S_box | exact gt_any rfl | exact okCells_of rfl rfl | (apply wrap_i64; (· omega); (· omega)) | exact rfl | fail)
  all_goals (simp only [Bool.not_eq_true', Bool.not_eq_false', Bool.and_eq_true, Bool.and_eq_false_iff, Bool.or_eq_true, Bool.or_eq_false_iff, decide_eq_true_eq, decide_eq_false_iff_not] at *; unfold logFault; congr 1; rw [e1, e2] at *; split <;> omega)

def syncOut (a b : List UInt8) : List UInt8 := if logFault a b = 0 then a ++ b else []

end Go.Proofs.Ythfikpgbddpmoaa
