/- Bytes that are copied and laid behind one another. -/
import Derived.Test.YthfikpgbddpmoaaWc
set_option maxRecDepth 100000
set_option maxHeartbeats 3200000
set_option linter.unusedSimpArgs false
set_option linter.unusedVariables false
namespace Go.Proofs.Ythfikpgbddpmoaa
open Go.Av
attribute [local irreducible] T thenQ blockQ againQ againS WX retV retR Gt Gts GtsP okCells CV CR Av.Pure

theorem bytesClone_cr0 (bs : List UInt8) (h : bs.length ≤ 1073741824) : CR Try.prog 150 [sl1 (bA bs)] [] 0 (Is (.sl 0 0 bs.length bs.length) [(0, some ⟨bA bs, 1, true, false⟩)] (0 + 1)) := by
  refine CR_introU tyOk Try.func150 (by kernel_rfl) rfl 8 rfl (by simp) [.tmp 2] rfl ?_
  intro w0 ok0 wr φ0
  refine T_seq ?_
  refine T_regX tyOk ?_
  repeat' (first | refine T_seq ?_ | refine N_then ?_ | refine T_regX tyOk ?_ | refine S_nil ?_ | apply S_move | apply S_assign | exact gt_any rfl | exact rfl | fail)
  apply S_eqNil tyOk rfl (gt_any rfl) rfl
  · intro he
    have hb : bs = [] := by cases bs with
      | nil => rfl
      | cons a l => simp [bA] at he
    subst hb
    repeat' (first | refine T_seq ?_ | refine N_then ?_ | refine N_thenR ?_ | refine T_regX tyOk ?_ | refine S_nil ?_ | refine T_ret ?_ | (apply T_ifT; (· exact rfl); (· (first | assumption | exact rfl))) | apply S_assign | exact gt_any rfl | exact rfl | fail)
    (apply E_U1 [(0, 0)] 1 <;> repeat' (first | exact resL_nil | (apply resL_tmp; (· exact rfl)) | (apply resL_cell; (· exact rfl); (· exact rfl); (· exact rfl); (· exact rfl); (· exact rfl); (· exact rfl)) | (apply resL_arr; (· exact rfl); (· exact rfl); (· exact rfl); (· exact rfl); (· (first | assumption | exact rfl))) | exact Ren.sl _ _ _ _ | (apply ren_slE; (· first | exact rfl | omega); (· first | exact rfl | assumption | (simp [bA_length]; done) | (simp [bA_length]; omega)); (· first | exact rfl | assumption | (simp [bA_length]; done) | (simp [bA_length]; omega))) | exact Ren.ptr _ _ _ | exact renL_nil | apply renL_cons | (apply Ren.pure; exact PureC.out) | apply ren_agg | apply ren_tup | exact Low.sl _ _ _ _ (by decide) | exact Low.ptr _ _ _ (by decide) | exact lowL_nil | apply lowL_cons | (apply Low.pure; exact PureC.out) | apply low_agg | apply low_tup | exact pullB_nil | (apply pullB_pureE; (· exact rfl); (· first | exact rfl | assumption | (simp [bA]; done)); (· exact PureEC.out)) | (apply pullB_one; (· exact rfl)) | exact lowBs_nil | apply lowBs_cons | (apply PureB.low; exact PureEC.out) | apply lowX_one | exact lowX_nil | exact rfl))
  · repeat' (first | refine T_seq ?_ | refine N_then ?_ | refine T_regX tyOk ?_ | refine S_nil ?_ | refine T_skip ?_ | refine T_ret ?_ | (apply T_ifF; (· exact rfl); (· (first | assumption | exact rfl))) | apply S_move | apply S_assign | (apply M_appB; (· exact rfl); (· exact rfl); (· exact gt_any rfl)) | (apply S_buildL tyOk; (· exact rfl); (· exact rfl); (· exact rfl)) | (apply mlen; first | exact rfl | assumption | exact Nat.le_of_ble_eq_true rfl | omega | (simp [bA_length]; done) | (simp [bA_length]; omega)) | (apply msz; first | assumption | exact Nat.le_of_ble_eq_true rfl | (dsimp only; simp only [List.length_append, List.length_map, List.length_cons, List.length_nil, bA_length, List.length_take, List.length_drop, List.length_replicate] at *; omega) | (dsimp only; omega)) | (apply mnorm; first | with_reducible exact app_nil0 _ | exact app_norm _ _ | exact rfl) | exact Src.ls rfl rfl | (dsimp only; omega) | exact gtsI_nil | exact elts_nil | exact gt_any rfl | omega | exact rfl | fail)
    (apply E_U0 [(0, 1)] <;> repeat' (first | exact resL_nil | (apply resL_tmp; (· exact rfl)) | (apply resL_cell; (· exact rfl); (· exact rfl); (· exact rfl); (· exact rfl); (· exact rfl); (· exact rfl)) | (apply resL_arr; (· exact rfl); (· exact rfl); (· exact rfl); (· exact rfl); (· (first | assumption | exact rfl))) | exact Ren.sl _ _ _ _ | (apply ren_slE; (· first | exact rfl | omega); (· first | exact rfl | assumption | (simp [bA_length]; done) | (simp [bA_length]; omega)); (· first | exact rfl | assumption | (simp [bA_length]; done) | (simp [bA_length]; omega))) | exact Ren.ptr _ _ _ | exact renL_nil | apply renL_cons | (apply Ren.pure; exact PureC.out) | apply ren_agg | apply ren_tup | exact Low.sl _ _ _ _ (by decide) | exact Low.ptr _ _ _ (by decide) | exact lowL_nil | apply lowL_cons | (apply Low.pure; exact PureC.out) | apply low_agg | apply low_tup | exact pullB_nil | (apply pullB_pureE; (· exact rfl); (· first | exact rfl | assumption | (simp [bA]; done)); (· exact PureEC.out)) | (apply pullB_one; (· exact rfl)) | exact lowBs_nil | apply lowBs_cons | (apply PureB.low; exact PureEC.out) | apply lowX_one | exact lowX_nil | exact rfl))

theorem bytesClone_cr (bs : List UInt8) (h : bs.length ≤ 1073741824) (N : Nat) : CR Try.prog 150 [sl1 (bA bs)] [] N (Is (.sl N 0 bs.length bs.length) [(N, some ⟨bA bs, 1, true, false⟩)] (N + 1)) :=
  CR.allN (bytesClone_cr0 bs h) N (by first | exact PureC.out | exact PureLC.out | assumption) (by repeat' (first | exact Ren.sl _ _ _ _ | exact Ren.ptr _ _ _ | exact renL_nil | apply renL_cons | (apply Ren.pure; (first | exact PureC.out | exact PureLC.out | assumption)) | apply ren_agg | apply ren_tup)) (by repeat' (first | exact renBs_nil | (apply renBs_pure; (· exact rfl); (· (exact PureEC.out))) | (apply renBs_one; (· exact rfl)) | exact renL_nil | apply renL_cons | exact Ren.sl _ _ _ _ | exact Ren.ptr _ _ _ | (apply Ren.pure; (first | exact PureC.out | exact PureLC.out | assumption)) | apply ren_agg))

theorem grow_cr0 (n : Int) (h0 : 0 ≤ n) (h1 : n ≤ 1073741824) : CR Try.prog 157 [.ls 0 true true [], .int .i64 n] [] 0 (Is (.sl 0 0 0 0) [(0, some ⟨bA [], 1, true, false⟩)] (0 + 1)) := by
  refine CR_introU tyOk Try.func157 (by kernel_rfl) rfl 27 rfl (by simp) [.tmp 4] rfl ?_
  intro w0 ok0 wr φ0
  have c0 : decide (n < 0) = false := by simp; omega
  have c1 : IntKind.wrap .i64 (((([] : List AV).length : Nat) : Int) - (([] : List AV).length : Nat)) = 0 := by decide
  have c2 : IntKind.wrap .i64 (n - 0) = n := by rw [wrap_i64 (by omega) (by omega)]; omega
  have c3 : n * ((1 : Nat) : Int) ≤ 140737488355328 := by omega
  by_cases hn : 0 < n
  · have c4 : decide (0 < n) = true := by simpa using hn
    repeat' (first | refine T_seq ?_ | refine N_then ?_ | refine T_regX tyOk ?_ | refine S_nil ?_ | refine T_skip ?_ | (apply T_ifT; (· exact rfl); (· (first | assumption | exact rfl))) | (apply T_ifF; (· exact rfl); (· (first | assumption | exact rfl))) | apply S_move | apply S_assign | apply S_lss | apply S_gtr | apply S_sub | (apply S_len_ls; (· exact rfl); (· exact gt_any rfl)) | (apply S_cap0; (· exact rfl); (· exact gt_any rfl)) | (apply M_appN; (· exact rfl); (· exact rfl); (· exact gt_any rfl)) | (apply M_slNil; (· exact rfl); (· exact rfl); (· exact gt_any rfl)) | (apply M_slSl; (· exact rfl); (· exact rfl); (· exact gt_any rfl); (· exact rfl); (· exact rfl)) | (apply mlen; first | exact rfl | assumption | exact Nat.le_of_ble_eq_true rfl | omega | (simp [bA_length]; done) | (simp [bA_length]; omega)) | (apply msz; first | assumption | exact Nat.le_of_ble_eq_true rfl | (dsimp only; simp only [List.length_append, List.length_map, List.length_cons, List.length_nil, bA_length, List.length_take, List.length_drop, List.length_replicate] at *; omega) | (dsimp only; omega)) | (apply Src.int; (· exact rfl)) | (dsimp only; omega) | (apply mnat; first | exact Int.toNat_natCast _ | exact rfl) | exact Bd.no _ | (apply bd_at; (· exact gt_any rfl)) | exact gt_any rfl | exact okCells_of rfl rfl | assumption | omega | exact rfl | fail)
    refine T_sub (sub_trim (t := 4) 0 0 rfl rfl (Nat.le_refl _) (Nat.zero_le _)) (T_ret ?_)
    (apply E_U0 [(0, 0)] <;> repeat' (first | exact resL_nil | (apply resL_tmp; (· exact rfl)) | (apply resL_cell; (· exact rfl); (· exact rfl); (· exact rfl); (· exact rfl); (· exact rfl); (· exact rfl)) | (apply resL_arr; (· exact rfl); (· exact rfl); (· exact rfl); (· exact rfl); (· (first | assumption | exact rfl))) | exact Ren.sl _ _ _ _ | (apply ren_slE; (· first | exact rfl | omega); (· first | exact rfl | assumption | (simp [bA_length]; done) | (simp [bA_length]; omega)); (· first | exact rfl | assumption | (simp [bA_length]; done) | (simp [bA_length]; omega))) | exact Ren.ptr _ _ _ | exact renL_nil | apply renL_cons | (apply Ren.pure; exact PureC.out) | apply ren_agg | apply ren_tup | exact Low.sl _ _ _ _ (by decide) | exact Low.ptr _ _ _ (by decide) | exact lowL_nil | apply lowL_cons | (apply Low.pure; exact PureC.out) | apply low_agg | apply low_tup | exact pullB_nil | (apply pullB_pureE; (· exact rfl); (· first | exact rfl | assumption | (simp [bA]; done)); (· exact PureEC.out)) | (apply pullB_one; (· exact rfl)) | exact lowBs_nil | apply lowBs_cons | (apply PureB.low; exact PureEC.out) | apply lowX_one | exact lowX_nil | exact rfl))
  · have c4 : decide (0 < n) = false := by simpa using hn
    repeat' (first | refine T_seq ?_ | refine N_then ?_ | refine T_regX tyOk ?_ | refine S_nil ?_ | refine T_skip ?_ | refine T_ret ?_ | (apply T_ifF; (· exact rfl); (· (first | assumption | exact rfl))) | apply S_move | apply S_assign | apply S_lss | apply S_gtr | apply S_sub | (apply S_len_ls; (· exact rfl); (· exact gt_any rfl)) | (apply S_cap0; (· exact rfl); (· exact gt_any rfl)) | exact gt_any rfl | assumption | exact rfl | fail)
    (apply E_U1 [(0, 0)] 1 <;> repeat' (first | exact resL_nil | (apply resL_tmp; (· exact rfl)) | (apply resL_cell; (· exact rfl); (· exact rfl); (· exact rfl); (· exact rfl); (· exact rfl); (· exact rfl)) | (apply resL_arr; (· exact rfl); (· exact rfl); (· exact rfl); (· exact rfl); (· (first | assumption | exact rfl))) | exact Ren.sl _ _ _ _ | (apply ren_slE; (· first | exact rfl | omega); (· first | exact rfl | assumption | (simp [bA_length]; done) | (simp [bA_length]; omega)); (· first | exact rfl | assumption | (simp [bA_length]; done) | (simp [bA_length]; omega))) | exact Ren.ptr _ _ _ | exact renL_nil | apply renL_cons | (apply Ren.pure; exact PureC.out) | apply ren_agg | apply ren_tup | exact Low.sl _ _ _ _ (by decide) | exact Low.ptr _ _ _ (by decide) | exact lowL_nil | apply lowL_cons | (apply Low.pure; exact PureC.out) | apply low_agg | apply low_tup | exact pullB_nil | (apply pullB_pureE; (· exact rfl); (· first | exact rfl | assumption | (simp [bA]; done)); (· exact PureEC.out)) | (apply pullB_one; (· exact rfl)) | exact lowBs_nil | apply lowBs_cons | (apply PureB.low; exact PureEC.out) | apply lowX_one | exact lowX_nil | exact rfl))

abbrev byA (w : List UInt8) : AV := sl1 (bA w)

instance : ElemF byA := ⟨fun a y hy => by
  simp only [AV.cells, List.mem_cons, List.not_mem_nil, or_false] at hy
  subst hy
  exact ⟨pure_bytes _ _ _ _, rfl⟩⟩

theorem take_flat (ws : List (List UInt8)) {k : Nat} (h : k < ws.length) : (ws.take (k + 1)).flatten = (ws.take k).flatten ++ ws.getD k [] := by
  rw [List.take_add_one, List.flatten_append, List.getD_eq_getElem?_getD]
  simp [h]
theorem take_flat_le (ws : List (List UInt8)) (k : Nat) : (ws.take k).flatten.length ≤ ws.flatten.length := by
  have h := congrArg (fun l => (List.flatten l).length) (List.take_append_drop k ws)
  simp only [List.flatten_append, List.length_append] at h
  omega

theorem concat_cr0 (ws : List (List UInt8)) (h : ws.flatten.length ≤ 1073741824) (h2 : ws.length ≤ 1073741824) : CR Try.prog 81 [sl1 (ws.map byA)] [] 0 (Is (.sl 0 0 ws.flatten.length ws.flatten.length) [(0, some ⟨bA ws.flatten, 1, true, false⟩)] (0 + 1)) := by
  refine CR_introU tyOk Try.func81 (by kernel_rfl) rfl 36 rfl (by simp) [.tmp 2] rfl ?_
  intro w0 ok0 wr φ0
  have hl : (ws.map byA).length = ws.length := by simp
  repeat' (first | refine T_seq ?_ | refine N_then ?_ | refine T_regX tyOk ?_ | refine S_nil ?_ | refine T_block ?_ | apply S_move | apply S_assign | (apply S_len_ls; (· exact rfl); (· exact gt_any rfl)) | exact gt_any rfl | exact rfl | fail)
  refine T_roundsS (α := Nat) (fun k => ⟨[(0, sl1 (ws.map byA)), (3, .int .i64 ((ws.take k).flatten.length : Int)), (9, sl1 (ws.map byA)), (10, .int .i64 (ws.map byA).length), (11, .int .i64 k)], [], 0⟩)
    (fun k => ws.length - k) (fun k => k ≤ ws.length) 0 ((weak_of (by repeat' (first | exact keepE_nil | refine keepE_cons rfl ?_)) (by repeat' (first | exact keepB_nil | refine keepB_cons (by first | rfl | exact congrArg (fun l => some (Box.mk l _ _ _)) hset) ?_)) (Nat.le_refl _))).sub (by omega) ?_
  intro k hk
  by_cases hkl : k < ws.length
  · have hc : decide ((k : Int) < ((ws.map byA).length : Int)) = true := by simp only [decide_eq_true_eq]; omega
    have hget := map_getD byA ws [] (k := k) (by omega)
    have hb := take_flat_le ws (k + 1)
    have hb' := take_flat_le ws k
    have he := congrArg List.length (take_flat ws hkl)
    rw [List.length_append] at he
    have hw : IntKind.wrap .i64 (((ws.take k).flatten.length : Int) + ((bA (ws.getD k [])).length : Int)) = ((ws.take (k + 1)).flatten.length : Int) := by
      rw [bA_length, wrap_i64 (by omega) (by omega)]; omega
    have hn : decide (((ws.take (k + 1)).flatten.length : Int) < 0) = false := by simp
    repeat' (first | refine T_seq ?_ | refine N_then ?_ | refine N_block ?_ | refine T_regX tyOk ?_ | refine S_nil ?_ | refine T_skip ?_ | refine T_block ?_ | (apply T_ifT; (· exact rfl); (· (first | assumption | exact rfl))) | (apply T_ifF; (· exact rfl); (· (first | assumption | exact rfl))) | apply S_move | apply S_assign | (apply S_loadV; (· exact rfl); (· exact gt_any rfl); (· exact rfl); (· (first | exact ⟨rfl, rfl⟩ | exact ⟨rfl, trivial⟩ | assumption))) | apply S_lss | apply S_add | (apply S_len_ls; (· exact rfl); (· exact gt_any rfl)) | (apply S_idxLs; (· exact rfl); (· exact rfl); (· exact gt_any rfl); (· exact gt_any rfl)) | exact gt_any rfl | assumption | (apply wrap_i64; (· omega); (· omega)) | (refine ⟨?_, ?_⟩ <;> omega) | exact rfl | fail)
    exact N_againS (k + 1) ((weak_of (by repeat' (first | exact keepE_nil | refine keepE_cons rfl ?_)) (by repeat' (first | exact keepB_nil | refine keepB_cons (by first | rfl | exact congrArg (fun l => some (Box.mk l _ _ _)) hset) ?_)) (Nat.le_refl _))).sub (by omega) (by omega)
  · have hc : decide ((k : Int) < ((ws.map byA).length : Int)) = false := by simp only [decide_eq_false_iff_not]; omega
    obtain rfl : k = ws.length := by omega
    rw [List.take_length]
    repeat' (first | refine T_seq ?_ | refine N_then ?_ | refine N_thenE ?_ | refine N_blockE ?_ | refine N_againSE ?_ | refine T_regX tyOk ?_ | refine S_nil ?_ | refine T_exit ?_ | refine T_block ?_ | (apply T_ifF; (· exact rfl); (· (first | assumption | exact rfl))) | apply S_move | apply S_assign | apply S_lss | (apply S_len_ls; (· exact rfl); (· exact gt_any rfl)) | apply S_callI (f := 157) | apply grow_cr0 | exact viewL_nil | apply viewL_cons | (apply View.pure; exact PureC.out) | exact OwnC.out | exact ownB_nil | (apply ownB_boxM; (· (apply mlen; first | exact rfl | assumption | exact Nat.le_of_ble_eq_true rfl | omega | (simp [bA_length]; done) | (simp [bA_length]; omega))); (· exact OwnEC.out)) | exact gt_any rfl | exact gts_nil | (apply gts_cons; (· exact gt_any rfl)) | omega | exact rfl | fail)
    refine T_roundsS (α := Nat) (fun k => ⟨[(6, .sl 0 0 (ws.take k).flatten.length (ws.take k).flatten.length), (25, sl1 (ws.map byA)), (26, .int .i64 (ws.map byA).length), (27, .int .i64 k)], [(0, some ⟨bA (ws.take k).flatten, 1, true, false⟩)], 1⟩)
      (fun k => ws.length - k) (fun k => k ≤ ws.length) 0 ((weak_of (by repeat' (first | exact keepE_nil | refine keepE_cons rfl ?_)) (by repeat' (first | exact keepB_nil | refine keepB_cons (by first | rfl | exact congrArg (fun l => some (Box.mk l _ _ _)) hset) ?_)) (Nat.le_refl _))).sub (by omega) ?_
    intro k hk
    by_cases hkl : k < ws.length
    · have hc : decide ((k : Int) < ((ws.map byA).length : Int)) = true := by simp only [decide_eq_true_eq]; omega
      have hget := map_getD byA ws [] (k := k) (by omega)
      have hb := take_flat_le ws (k + 1)
      have hb' := take_flat_le ws k
      have ht := take_flat ws hkl
      have he := congrArg List.length ht
      rw [List.length_append] at he
      have hset : bA (ws.take k).flatten ++ bA (ws.getD k []) = bA (ws.take (k + 1)).flatten := by rw [ht]; simp [bA]
      have hle : (ws.take k).flatten.length + (bA (ws.getD k [])).length = (ws.take (k + 1)).flatten.length := by rw [bA_length]; omega
      have hsz : ((ws.take k).flatten.length + (bA (ws.getD k [])).length) * 1 ≤ 140737488355328 := by omega
      repeat' (first | refine T_seq ?_ | refine N_then ?_ | refine N_block ?_ | refine T_regX tyOk ?_ | refine S_nil ?_ | refine T_skip ?_ | refine T_block ?_ | (apply T_ifT; (· exact rfl); (· (first | assumption | exact rfl))) | apply S_move | apply S_assign | (apply S_loadV; (· exact rfl); (· exact gt_any rfl); (· exact rfl); (· (first | exact ⟨rfl, rfl⟩ | exact ⟨rfl, trivial⟩ | assumption))) | apply S_lss | apply S_add | (apply S_idxLs; (· exact rfl); (· exact rfl); (· exact gt_any rfl); (· exact gt_any rfl)) | (apply M_appB; (· exact rfl); (· exact rfl); (· exact gt_any rfl)) | (apply mlen; first | exact rfl | assumption | exact Nat.le_of_ble_eq_true rfl | omega | (simp [bA_length]; done) | (simp [bA_length]; omega)) | (apply msz; first | assumption | exact Nat.le_of_ble_eq_true rfl | (dsimp only; simp only [List.length_append, List.length_map, List.length_cons, List.length_nil, bA_length, List.length_take, List.length_drop, List.length_replicate] at *; omega) | (dsimp only; omega)) | (apply mnorm; first | with_reducible exact app_nil0 _ | exact app_norm _ _ | exact rfl) | exact Src.ls rfl rfl | (dsimp only; omega) | exact gt_any rfl | assumption | (apply wrap_i64; (· omega); (· omega)) | (refine ⟨?_, ?_⟩ <;> omega) | exact rfl | fail)
      exact N_againS (k + 1) (sub_names [(0, 1)] (k0 := 0) rfl (by rfl) (by repeat' (first | exact pullE_nil | (apply pullE_cons; (· exact rfl)) | exact Ren.sl _ _ _ _ | (apply ren_slE; (· first | exact rfl | omega); (· first | exact rfl | assumption | (simp [bA_length]; done) | (simp [bA_length]; omega)); (· first | exact rfl | assumption | (simp [bA_length]; done) | (simp [bA_length]; omega))) | exact Ren.ptr _ _ _ | (apply Ren.pure; (first | exact PureC.out | exact PureLC.out | assumption)) | exact renL_nil | apply renL_cons | apply ren_agg | apply ren_tup)) (by repeat' (first | exact pullB_nil | (apply pullB_pure; (· first | exact rfl | exact congrArg (fun l => some (Box.mk l _ _ _)) hset); (· (exact PureEC.out))) | (apply pullB_one; (· exact rfl)) | exact renL_nil | apply renL_cons | exact Ren.sl _ _ _ _ | exact Ren.ptr _ _ _ | (apply Ren.pure; (first | exact PureC.out | exact PureLC.out | assumption)) | apply ren_agg)) (by repeat' (first | exact lowE_nil | apply lowE_cons | exact Low.sl _ _ _ _ (by decide) | exact Low.ptr _ _ _ (by decide) | (apply Low.pure; (first | exact PureC.out | exact PureLC.out | assumption)) | exact lowL_nil | apply lowL_cons | apply low_agg | apply low_tup)) (by repeat' (first | exact lowBs_nil | apply lowBs_cons | (apply PureB.low; (exact PureEC.out)) | apply lowX_one | exact lowX_nil | exact lowL_nil | apply lowL_cons | exact Low.sl _ _ _ _ (by decide) | exact Low.ptr _ _ _ (by decide) | (apply Low.pure; (first | exact PureC.out | exact PureLC.out | assumption))))) (by omega) (by omega)
    · have hc : decide ((k : Int) < ((ws.map byA).length : Int)) = false := by simp only [decide_eq_false_iff_not]; omega
      obtain rfl : k = ws.length := by omega
      rw [List.take_length]
      repeat' (first | refine T_seq ?_ | refine N_then ?_ | refine N_thenE ?_ | refine N_blockE ?_ | refine N_againSE ?_ | refine T_regX tyOk ?_ | refine S_nil ?_ | refine T_ret ?_ | refine T_exit ?_ | (apply T_ifF; (· exact rfl); (· (first | assumption | exact rfl))) | apply S_move | apply S_assign | apply S_lss | exact gt_any rfl | exact rfl | fail)
      (apply E_U0 [(0, 0)] <;> repeat' (first | exact resL_nil | (apply resL_tmp; (· exact rfl)) | (apply resL_cell; (· exact rfl); (· exact rfl); (· exact rfl); (· exact rfl); (· exact rfl); (· exact rfl)) | (apply resL_arr; (· exact rfl); (· exact rfl); (· exact rfl); (· exact rfl); (· (first | assumption | exact rfl))) | exact Ren.sl _ _ _ _ | (apply ren_slE; (· first | exact rfl | omega); (· first | exact rfl | assumption | (simp [bA_length]; done) | (simp [bA_length]; omega)); (· first | exact rfl | assumption | (simp [bA_length]; done) | (simp [bA_length]; omega))) | exact Ren.ptr _ _ _ | exact renL_nil | apply renL_cons | (apply Ren.pure; exact PureC.out) | apply ren_agg | apply ren_tup | exact Low.sl _ _ _ _ (by decide) | exact Low.ptr _ _ _ (by decide) | exact lowL_nil | apply lowL_cons | (apply Low.pure; exact PureC.out) | apply low_agg | apply low_tup | exact pullB_nil | (apply pullB_pureE; (· exact rfl); (· first | exact rfl | assumption | (simp [bA]; done)); (· exact PureEC.out)) | (apply pullB_one; (· exact rfl)) | exact lowBs_nil | apply lowBs_cons | (apply PureB.low; exact PureEC.out) | apply lowX_one | exact lowX_nil | exact rfl))

theorem concat_cr (ws : List (List UInt8)) (h : ws.flatten.length ≤ 1073741824) (h2 : ws.length ≤ 1073741824) (N : Nat) : CR Try.prog 81 [sl1 (ws.map byA)] [] N (Is (.sl N 0 ws.flatten.length ws.flatten.length) [(N, some ⟨bA ws.flatten, 1, true, false⟩)] (N + 1)) :=
  CR.allN (concat_cr0 ws h h2) N (by first | exact PureC.out | exact PureLC.out | assumption) (by repeat' (first | exact Ren.sl _ _ _ _ | exact Ren.ptr _ _ _ | exact renL_nil | apply renL_cons | (apply Ren.pure; (first | exact PureC.out | exact PureLC.out | assumption)) | apply ren_agg | apply ren_tup)) (by repeat' (first | exact renBs_nil | (apply renBs_pure; (· exact rfl); (· (exact PureEC.out))) | (apply renBs_one; (· exact rfl)) | exact renL_nil | apply renL_cons | exact Ren.sl _ _ _ _ | exact Ren.ptr _ _ _ | (apply Ren.pure; (first | exact PureC.out | exact PureLC.out | assumption)) | apply ren_agg))

end Go.Proofs.Ythfikpgbddpmoaa
