/- Items of a relayer. -/
import Derived.Test.YtgakkecaflppfaaWe
set_option maxRecDepth 100000
set_option maxHeartbeats 3200000
set_option linter.unusedSimpArgs false
set_option linter.unusedVariables false
namespace Go.Proofs.Ytgakkecaflppfaa
open Go.Av
attribute [local irreducible] T thenQ blockQ againQ againS WX retV retR Gt Gts GtsP okCells CV CR Av.Pure

/-- An item: its nonce, its tries, the time from which on it may be tried. -/
structure Itm where
  nonce : Int
  tries : Int
  after : Int
  deriving DecidableEq

abbrev it0 : Itm := ⟨0, 0, 0⟩

abbrev itemA (x : Itm) : AV := .agg [.int .i64 x.nonce, .int .i64 x.tries, .int .i64 x.after]

abbrev sl3 (xs : List AV) : AV := .ls 3 true false xs

abbrev relA (c : Int) (q : List Itm) : AV := .agg [.int .i64 c, sl3 (q.map itemA)]

instance : ElemF itemA := ⟨fun a y hy => by
  simp only [AV.cells, List.mem_cons, List.not_mem_nil, or_false] at hy
  rcases hy with rfl | rfl | rfl <;> exact ⟨pure_int _ _, rfl⟩⟩

instance : OwnF itemA := ⟨fun a y hy => by
  simp only [AV.cells, List.mem_cons, List.not_mem_nil, or_false] at hy
  rcases hy with rfl | rfl | rfl <;> exact (flat_int _ _).own⟩

theorem toItem_cv (x : Itm) : CV Try.prog 101 [itemA x] (· = /-flat-/ itemA x) := by
  refine CV_intro tyOk Try.func101 (by kernel_rfl) rfl 14 rfl (by simp) [.cell 2 77] rfl ?_
  intro w0 ok0
  repeat' (first | refine T_seq ?_ | refine N_then ?_ | refine T_regX tyOk ?_ | refine S_nil ?_ | refine T_ret ?_ | (apply E_X <;> repeat' (first | exact resL_nil | (apply resL_tmp; (· exact rfl)) | (apply resL_cell; (· exact rfl); (· exact rfl); (· exact rfl); (· exact rfl); (· exact rfl); (· exact rfl)) | (apply resL_arr; (· exact rfl); (· exact rfl); (· exact rfl); (· exact rfl); (· (first | assumption | exact rfl))) | exact viewL_nil | apply viewL_cons | apply view_nothingE | (apply view_slE; (· exact rfl); (· first | exact rfl | assumption | (simp [bA_length]; done) | (simp [bA_length]; omega) | omega); (· exact PureEC.out)) | (apply view_loose; (· exact PureEC.out)) | apply view_agg | apply view_tup | (apply View.ofEq; (· exact PureC.out)) | exact rfl)) | (apply S_loadP; (· exact rfl); (· exact gt_any rfl); (· exact rfl); (· exact rfl); (· exact rfl); (· (first | exact ⟨rfl, rfl⟩ | exact ⟨rfl, trivial⟩ | assumption))) | (apply S_loadW; (· exact rfl); (· exact gt_any rfl); (· exact rfl); (· exact rfl); (· exact rfl); (· exact rfl); (· exact rfl); (· exact rfl)) | (apply S_fieldP; (· exact rfl); (· exact rfl); (· exact rfl); (· exact rfl); (· exact gt_any rfl)) | apply S_alloc | apply S_box | (apply S_store1; (· exact rfl); (· exact gt_any rfl); (· exact rfl); (· exact rfl); (· exact rfl); (· exact rfl)) | (apply S_storeF; (· exact rfl); (· exact gt_any rfl); (· exact rfl); (· exact rfl); (· exact rfl); (· exact rfl); (· exact gt_any rfl); (· exact rfl); (· exact rfl); (· (repeat' constructor))) | exact gt_any rfl | exact okCells_of rfl rfl | exact rfl | fail)

theorem eqItem_cv (x y : Itm) : CV Try.prog 102 [itemA x, itemA y] (· = .bool (decide (x = y))) := by
  refine CV_intro tyOk Try.func102 (by kernel_rfl) rfl 20 rfl (by simp) [.tmp 4] rfl ?_
  intro w0 ok0
  repeat' (first | refine T_seq ?_ | refine N_then ?_ | refine N_thenR ?_ | refine T_regX tyOk ?_ | refine S_nil ?_ | refine T_skip ?_ | refine T_ret ?_ | (apply E_tmp; (· exact rfl); (· (repeat' (first | exact pure_int _ _ | exact pure_bool _ | exact pure_str _); done))) | refine T_if rfl (fun _ => ?_) (fun _ => ?_) | apply S_assign | (apply S_loadP; (· exact rfl); (· exact gt_any rfl); (· exact rfl); (· exact rfl); (· exact rfl); (· (first | exact ⟨rfl, rfl⟩ | exact ⟨rfl, trivial⟩ | assumption))) | (apply S_fieldP; (· exact rfl); (· exact rfl); (· exact rfl); (· exact rfl); (· exact gt_any rfl)) | (apply S_neq; (· exact gt_any rfl); (· exact gt_any rfl)) | apply S_box | exact gt_any rfl | exact okCells_of rfl rfl | exact rfl | fail)
  all_goals (cases x; cases y; simp_all)

theorem szItemS_cv (q : List Itm) (left : Int) (hx : q.length ≤ 9223372036854775807) (h0 : 0 ≤ left) (h1 : left ≤ 9223372036854775807) :
    CV Try.prog 71 [sl3 (q.map itemA), .int .i64 left] (· = .int .i64 (szAfter left q.length)) := by
  refine CV_intro tyOk Try.func71 (by kernel_rfl) rfl 12 rfl (by simp) [.tmp 4] rfl ?_
  intro w0 ok0
  have hl : (q.map itemA).length = q.length := by simp
  repeat' (first | refine T_seq ?_ | refine N_then ?_ | refine N_thenR ?_ | refine T_regX tyOk ?_ | refine S_nil ?_ | refine T_skip ?_ | refine T_ret ?_ | (apply E_tmp; (· exact rfl); (· (repeat' (first | exact pure_int _ _ | exact pure_bool _ | exact pure_str _); done))) | refine T_if rfl (fun _ => ?_) (fun _ => ?_) | apply S_move | apply S_assign | apply S_lss | apply S_sub | (apply S_len_ls; (· exact rfl); (· exact gt_any rfl)) | exact gt_any rfl | (apply wrap_i64; (· omega); (· omega)) | exact rfl | fail)
  all_goals (show AV.int _ _ = AV.int _ _; congr 1; unfold szAfter; simp only [decide_eq_true_eq, decide_eq_false_iff_not] at *; rw [← hl]; split <;> omega)

theorem toItemS_cv (q : List Itm) (h : q.length ≤ 1048576) : CV Try.prog 72 [sl3 (q.map itemA)] (· = sl3 (q.map itemA)) := by
  refine CV_intro tyOk Try.func72 (by kernel_rfl) rfl 23 rfl (by simp) [.tmp 2] rfl ?_
  intro w0 ok0
  have hl : (q.map itemA).length = q.length := by simp
  repeat' (first | refine T_seq ?_ | refine N_then ?_ | refine T_regX tyOk ?_ | refine S_nil ?_ | refine T_block ?_ | apply S_move | apply S_assign | (apply S_len_ls; (· exact rfl); (· exact gt_any rfl)) | (apply S_make; (· exact rfl); (· exact rfl); (· exact gt_any rfl); (· exact gt_any rfl); (· exact rfl); (· (first | assumption | omega)); (· (first | assumption | omega | (dsimp only; omega) | (simp; omega))); (· (first | assumption | omega | (dsimp only; omega) | (simp; omega))); (· (first | assumption | omega | (dsimp only; omega) | (simp; omega))); (· (first | exact okCells_of rfl rfl | assumption)); (· (first | exact Nat.le_of_ble_eq_true rfl | omega | decide))) | exact gt_any rfl | exact rfl | fail)
  refine T_roundsS (α := Nat) (fun k => ⟨[(0, sl3 (q.map itemA)), (3, .sl 0 0 (q.map itemA).length (q.map itemA).length), (4, .int .i64 k)], [(0, some ⟨(q.map itemA).take k ++ List.replicate ((q.map itemA).length - k) (itemA it0), 3, false, false⟩)], 1⟩)
    (fun k => (q.map itemA).length - k) (fun k => k ≤ (q.map itemA).length) 0 ((weak_of (by repeat' (first | exact keepE_nil | refine keepE_cons rfl ?_)) (by repeat' (first | exact keepB_nil | refine keepB_cons (by first | rfl | exact congrArg (fun l => some (Box.mk l _ _ _)) hset) ?_)) (Nat.le_refl _))).sub (by omega) ?_
  intro k hk
  by_cases hkl : k < (q.map itemA).length
  · have hc : decide ((k : Int) < ((q.map itemA).length : Int)) = true := by simp only [decide_eq_true_eq]; omega
    have hget := map_getD itemA q it0 (k := k) (by omega)
    have hat := map_at itemA q it0 (k := k) (by omega)
    have hset := copy_step (q.map itemA) (itemA it0) hkl hat
    have hin : 0 + ((k : Int)).toNat < ((q.map itemA).take k ++ List.replicate ((q.map itemA).length - k) (itemA it0)).length := by
      simp only [List.length_append, List.length_take, List.length_replicate]; omega
    have okk : okCells 3 (itemA (q.getD k it0)) := okCells_of rfl rfl
    repeat' (first | refine T_seq ?_ | refine N_then ?_ | refine N_block ?_ | refine T_regX tyOk ?_ | refine S_nil ?_ | refine T_skip ?_ | refine T_block ?_ | (apply T_ifT; (· exact rfl); (· (first | assumption | exact rfl))) | apply S_move | apply S_assign | (apply S_loadVA; (· exact rfl); (· exact gt_any rfl); (· exact rfl); (· exact rfl)) | apply S_lss | apply S_add | (apply S_len_ls; (· exact rfl); (· exact gt_any rfl)) | (apply S_idxLs; (· exact rfl); (· exact rfl); (· exact gt_any rfl); (· exact gt_any rfl)) | (apply S_idxSl; (· exact rfl); (· exact rfl); (· exact gt_any rfl); (· exact rfl); (· exact gt_any rfl)) | (apply S_storeE; (· exact rfl); (· exact gt_any rfl); (· exact rfl); (· exact rfl); (· exact rfl)) | apply S_callQ (f := 101) | apply toItem_cv | exact viewL_nil | apply viewL_cons | (apply View.pure; exact PureC.out) | apply view_agg | exact FlatC.out | exact gt_any rfl | exact gts_nil | (apply gts_cons; (· exact gt_any rfl)) | exact okCells_of rfl rfl | assumption | (apply wrap_i64; (· omega); (· omega)) | (refine ⟨?_, ?_⟩ <;> omega) | exact rfl | fail)
    exact N_againS (k + 1) ((weak_of (by repeat' (first | exact keepE_nil | refine keepE_cons rfl ?_)) (by repeat' (first | exact keepB_nil | refine keepB_cons (by first | rfl | exact congrArg (fun l => some (Box.mk l _ _ _)) hset) ?_)) (Nat.le_refl _))).sub (by omega) (by omega)
  · have hc : decide ((k : Int) < ((q.map itemA).length : Int)) = false := by simp only [decide_eq_false_iff_not]; omega
    obtain rfl : k = (q.map itemA).length := by omega
    have he : (q.map itemA).take (q.map itemA).length ++ List.replicate ((q.map itemA).length - (q.map itemA).length) (itemA it0) = q.map itemA := by
      rw [Nat.sub_self, List.replicate_zero, List.append_nil, List.take_length]
    repeat' (first | refine T_seq ?_ | refine N_then ?_ | refine N_thenE ?_ | refine N_blockE ?_ | refine N_againSE ?_ | refine T_regX tyOk ?_ | refine S_nil ?_ | refine T_ret ?_ | refine T_exit ?_ | (apply T_ifF; (· exact rfl); (· (first | assumption | exact rfl))) | apply S_move | apply S_assign | apply S_lss | (apply S_len_ls; (· exact rfl); (· exact gt_any rfl)) | exact gt_any rfl | exact rfl | fail)
    rw [he]
    (apply E_X <;> repeat' (first | exact resL_nil | (apply resL_tmp; (· exact rfl)) | (apply resL_cell; (· exact rfl); (· exact rfl); (· exact rfl); (· exact rfl); (· exact rfl); (· exact rfl)) | (apply resL_arr; (· exact rfl); (· exact rfl); (· exact rfl); (· exact rfl); (· (first | assumption | exact rfl))) | exact viewL_nil | apply viewL_cons | apply view_nothingE | (apply view_slE; (· exact rfl); (· first | exact rfl | assumption | (simp [bA_length]; done) | (simp [bA_length]; omega) | omega); (· exact PureEC.out)) | (apply view_loose; (· exact PureEC.out)) | apply view_agg | apply view_tup | (apply View.ofEq; (· exact PureC.out)) | exact rfl))

theorem eqItemS_cv (us vs : List Itm) (h : us.length ≤ 4611686018427387904) : CV Try.prog 73 [sl3 (us.map itemA), sl3 (vs.map itemA)] (· = .bool (decide (us = vs))) := by
  refine CV_intro tyOk Try.func73 (by kernel_rfl) rfl 27 rfl (by simp) [.tmp 4] rfl ?_
  intro w0 ok0
  have hl : (us.map itemA).length = us.length := by simp
  have hl' : (vs.map itemA).length = vs.length := by simp
  by_cases hlen : us.length = vs.length
  · have hc0 : (!decide (((us.map itemA).length : Int) = ((vs.map itemA).length : Int))) = false := by simp; omega
    repeat' (first | refine T_seq ?_ | refine N_then ?_ | refine T_regX tyOk ?_ | refine S_nil ?_ | refine T_skip ?_ | refine T_block ?_ | (apply T_ifF; (· exact rfl); (· (first | assumption | exact rfl))) | apply S_move | apply S_assign | (apply S_neq; (· exact gt_any rfl); (· exact gt_any rfl)) | (apply S_len_ls; (· exact rfl); (· exact gt_any rfl)) | exact gt_any rfl | exact rfl | fail)
    refine T_rounds (α := Nat) (fun k => ⟨[(0, sl3 (us.map itemA)), (1, sl3 (vs.map itemA)), (5, .int .i64 k)], [], 0⟩)
      (fun k => (us.map itemA).length - k) (fun k => k ≤ (us.map itemA).length ∧ us.take k = vs.take k) 0 (weak_of (by repeat' (first | exact keepE_nil | refine keepE_cons rfl ?_)) (by repeat' (first | exact keepB_nil | refine keepB_cons (by first | rfl | exact congrArg (fun l => some (Box.mk l _ _ _)) hset) ?_)) (Nat.le_refl _)) (by simp) ?_
    rintro k ⟨hk, hpre⟩
    by_cases hkl : k < (us.map itemA).length
    · have hc : decide ((k : Int) < ((us.map itemA).length : Int)) = true := by simp only [decide_eq_true_eq]; omega
      have hget := map_getD itemA us it0 (k := k) (by omega)
      have hget' := map_getD itemA vs it0 (k := k) (by omega)
      repeat' (first | refine T_seq ?_ | refine N_then ?_ | refine N_thenR ?_ | refine N_block ?_ | refine N_blockR ?_ | refine N_againR ?_ | refine T_regX tyOk ?_ | (apply T_drawM (id := 6) 8 tyOk mixed; (· exact rfl); (· exact rfl); (· kernel_rfl); (· exact Nat.le_of_ble_eq_true rfl)) | refine S_nil ?_ | refine T_skip ?_ | refine T_ret ?_ | refine T_block ?_ | (apply E_tmp; (· exact rfl); (· (repeat' (first | exact pure_int _ _ | exact pure_bool _ | exact pure_str _); done))) | (apply T_ifT; (· exact rfl); (· (first | assumption | exact rfl))) | refine T_if rfl (fun _ => ?_) (fun _ => ?_) | apply S_move | apply S_assign | (apply S_loadVA; (· exact rfl); (· exact gt_any rfl); (· exact rfl); (· exact rfl)) | apply S_lss | apply S_add | apply S_not | (apply S_len_ls; (· exact rfl); (· exact gt_any rfl)) | (apply S_idxLs; (· exact rfl); (· exact rfl); (· exact gt_any rfl); (· exact gt_any rfl)) | apply S_callQ (f := 102) | apply eqItem_cv | exact viewL_nil | apply viewL_cons | (apply View.pure; exact PureC.out) | apply view_agg | exact FlatC.out | exact gt_any rfl | exact gts_nil | (apply gts_cons; (· exact gt_any rfl)) | assumption | (apply wrap_i64; (· omega); (· omega)) | (refine ⟨?_, ?_⟩ <;> omega) | exact rfl | fail)
      · rename_i hne
        have hne' : us.getD k it0 ≠ vs.getD k it0 := by intro e; rw [e] at hne; simp at hne
        have : us ≠ vs := by rintro rfl; exact hne' rfl
        simp [this]
      · rename_i heq
        refine N_again (k + 1) (weak_of (by repeat' (first | exact keepE_nil | refine keepE_cons rfl ?_)) (by repeat' (first | exact keepB_nil | refine keepB_cons (by first | rfl | exact congrArg (fun l => some (Box.mk l _ _ _)) hset) ?_)) (Nat.le_refl _)) ⟨by omega, ?_⟩ (by omega)
        exact take_step it0 (by omega) (by omega) hpre (by simp only [Bool.not_eq_false', decide_eq_true_eq] at heq; exact heq)
    · have hc : decide ((k : Int) < ((us.map itemA).length : Int)) = false := by simp only [decide_eq_false_iff_not]; omega
      obtain rfl : k = (us.map itemA).length := by omega
      repeat' (first | refine T_seq ?_ | refine N_then ?_ | refine N_thenE ?_ | refine N_blockE ?_ | refine N_againE ?_ | refine T_regX tyOk ?_ | refine S_nil ?_ | refine T_ret ?_ | refine T_exit ?_ | (apply E_tmp; (· exact rfl); (· (repeat' (first | exact pure_int _ _ | exact pure_bool _ | exact pure_str _); done))) | (apply T_ifF; (· exact rfl); (· (first | assumption | exact rfl))) | apply S_move | apply S_assign | apply S_lss | (apply S_len_ls; (· exact rfl); (· exact gt_any rfl)) | exact gt_any rfl | exact rfl | fail)
      rw [hl] at hpre
      rw [List.take_length, hlen, List.take_length] at hpre
      simp [hpre]
  · have hc0 : (!decide (((us.map itemA).length : Int) = ((vs.map itemA).length : Int))) = true := by simp; omega
    repeat' (first | refine T_seq ?_ | refine N_then ?_ | refine N_thenR ?_ | refine T_regX tyOk ?_ | refine S_nil ?_ | refine T_ret ?_ | (apply E_tmp; (· exact rfl); (· (repeat' (first | exact pure_int _ _ | exact pure_bool _ | exact pure_str _); done))) | (apply T_ifT; (· exact rfl); (· (first | assumption | exact rfl))) | apply S_move | apply S_assign | (apply S_neq; (· exact gt_any rfl); (· exact gt_any rfl)) | (apply S_len_ls; (· exact rfl); (· exact gt_any rfl)) | exact gt_any rfl | exact rfl | fail)
    have : us ≠ vs := by rintro rfl; exact hlen rfl
    simp [this]

theorem szRelayer_cv (c : Int) (q : List Itm) (left : Int) (hx : q.length ≤ 9223372036854775807) (h0 : 0 ≤ left) (h1 : left ≤ 9223372036854775807) :
    CV Try.prog 28 [relA c q, .int .i64 left] (· = .int .i64 (szAfter left q.length)) := by
  refine CV_intro tyOk Try.func28 (by kernel_rfl) rfl 12 rfl (by simp) [.tmp 4] rfl ?_
  intro w0 ok0
  have c0 := szItemS_cv q left hx h0 h1
  repeat' (first | refine T_seq ?_ | refine N_then ?_ | refine N_thenR ?_ | refine T_regX tyOk ?_ | refine S_nil ?_ | refine T_skip ?_ | refine T_ret ?_ | (apply E_tmp; (· exact rfl); (· (repeat' (first | exact pure_int _ _ | exact pure_bool _ | exact pure_str _); done))) | refine T_if rfl (fun _ => ?_) (fun _ => ?_) | apply S_move | apply S_assign | (apply S_loadP; (· exact rfl); (· exact gt_any rfl); (· exact rfl); (· exact rfl); (· exact rfl); (· (first | exact ⟨rfl, rfl⟩ | exact ⟨rfl, trivial⟩ | assumption))) | (apply S_fieldP; (· exact rfl); (· exact rfl); (· exact rfl); (· exact rfl); (· exact gt_any rfl)) | apply S_lss | apply S_box | apply S_callQ (f := 71) | apply c0 | exact viewL_nil | apply viewL_cons | (apply View.pure; exact PureC.out) | exact FlatC.out | exact gt_any rfl | exact gts_nil | (apply gts_cons; (· exact gt_any rfl)) | exact okCells_of rfl rfl | exact rfl | fail)
  all_goals (simp_all; try (unfold szAfter at *; split at * <;> simp_all; done))
  all_goals (unfold szAfter at *; split at * <;> omega)

theorem toRelayer_cv (c : Int) (q : List Itm) (h : q.length ≤ 1048576) : CV Try.prog 30 [relA c q] (· = relA c q) := by
  refine CV_intro tyOk Try.func30 (by kernel_rfl) rfl 12 rfl (by simp) [.cell 2 49] rfl ?_
  intro w0 ok0
  have c0 := toItemS_cv q h
  repeat' (first | refine T_seq ?_ | refine N_then ?_ | refine T_regX tyOk ?_ | refine S_nil ?_ | refine T_ret ?_ | (apply E_X <;> repeat' (first | exact resL_nil | (apply resL_tmp; (· exact rfl)) | (apply resL_cell; (· exact rfl); (· exact rfl); (· exact rfl); (· exact rfl); (· exact rfl); (· exact rfl)) | (apply resL_arr; (· exact rfl); (· exact rfl); (· exact rfl); (· exact rfl); (· (first | assumption | exact rfl))) | exact viewL_nil | apply viewL_cons | apply view_nothingE | (apply view_slE; (· exact rfl); (· first | exact rfl | assumption | (simp [bA_length]; done) | (simp [bA_length]; omega) | omega); (· exact PureEC.out)) | (apply view_loose; (· exact PureEC.out)) | apply view_agg | apply view_tup | (apply View.ofEq; (· exact PureC.out)) | exact rfl)) | (apply S_loadP; (· exact rfl); (· exact gt_any rfl); (· exact rfl); (· exact rfl); (· exact rfl); (· (first | exact ⟨rfl, rfl⟩ | exact ⟨rfl, trivial⟩ | assumption))) | (apply S_loadW; (· exact rfl); (· exact gt_any rfl); (· exact rfl); (· exact rfl); (· exact rfl); (· exact rfl); (· exact rfl); (· exact rfl)) | (apply S_fieldP; (· exact rfl); (· exact rfl); (· exact rfl); (· exact rfl); (· exact gt_any rfl)) | apply S_alloc | apply S_box | (apply S_store1; (· exact rfl); (· exact gt_any rfl); (· exact rfl); (· exact rfl); (· exact rfl); (· exact rfl)) | (apply S_storeF; (· exact rfl); (· exact gt_any rfl); (· exact rfl); (· exact rfl); (· exact rfl); (· exact rfl); (· exact gt_any rfl); (· exact rfl); (· exact rfl); (· (repeat' constructor))) | apply S_call (f := 72) | apply c0 | exact PureLC.out | exact gt_any rfl | exact gts_nil | (apply gts_cons; (· exact gt_any rfl)) | exact okCells_of rfl rfl | exact rfl | fail)

theorem eqRelayer_cv (c c' : Int) (q q' : List Itm) (h : q.length ≤ 1048576) : CV Try.prog 32 [relA c q, relA c' q'] (· = .bool (decide (c = c') && decide (q = q'))) := by
  refine CV_intro tyOk Try.func32 (by kernel_rfl) rfl 16 rfl (by simp) [.tmp 4] rfl ?_
  intro w0 ok0
  have c0 := eqItemS_cv q q' (by omega)
  repeat' (first | refine T_seq ?_ | refine N_then ?_ | refine N_thenR ?_ | refine T_regX tyOk ?_ | refine S_nil ?_ | refine T_skip ?_ | refine T_ret ?_ | (apply E_tmp; (· exact rfl); (· (repeat' (first | exact pure_int _ _ | exact pure_bool _ | exact pure_str _); done))) | refine T_if rfl (fun _ => ?_) (fun _ => ?_) | apply S_assign | (apply S_loadP; (· exact rfl); (· exact gt_any rfl); (· exact rfl); (· exact rfl); (· exact rfl); (· (first | exact ⟨rfl, rfl⟩ | exact ⟨rfl, trivial⟩ | assumption))) | (apply S_fieldP; (· exact rfl); (· exact rfl); (· exact rfl); (· exact rfl); (· exact gt_any rfl)) | (apply S_neq; (· exact gt_any rfl); (· exact gt_any rfl)) | apply S_not | apply S_box | apply S_callQ (f := 73) | apply c0 | exact viewL_nil | apply viewL_cons | (apply View.pure; exact PureC.out) | exact FlatC.out | exact gt_any rfl | exact gts_nil | (apply gts_cons; (· exact gt_any rfl)) | exact okCells_of rfl rfl | exact rfl | fail)
  all_goals (first | rfl | (simp_all; done) | (simp_all; omega))

end Go.Proofs.Ytgakkecaflppfaa
