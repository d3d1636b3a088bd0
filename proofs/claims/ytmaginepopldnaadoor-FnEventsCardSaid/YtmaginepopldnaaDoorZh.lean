/- Words packed. -/
import Derived.Test.YtmaginepopldnaaDoorZa
set_option maxRecDepth 100000
set_option maxHeartbeats 3200000
set_option linter.unusedSimpArgs false
set_option linter.unusedVariables false
namespace Go.Proofs.YtmaginepopldnaaDoor
open Go.Av
attribute [local irreducible] T thenQ blockQ againQ againS WX retV retR Gt Gts GtsP okCells CV CR Av.Pure
attribute [local irreducible] sha

theorem number_cv (n : Int) : CV Tryd.prog 54 [.int .i64 n] (· = sl1 (bA (putN n))) := CR.byVal (number_cr n 0) rfl (pureB_bA _)

theorem l1Put_cv (n : Int) : CV Tryd.prog 52 [.int .i64 n] (· = sl1 (bA (putN n))) := CR.byVal (l1Put_cr n 0) rfl (pureB_bA _)

def packL (ws : List (List UInt8)) : List UInt8 := (ws.map fun w => byteN w.length :: w).flatten
theorem packL_take (ws : List (List UInt8)) {k : Nat} (h : k < ws.length) : packL (ws.take (k + 1)) = packL (ws.take k) ++ (byteN (ws.getD k []).length :: ws.getD k []) := by
  have e : ws.take (k + 1) = ws.take k ++ [ws.getD k []] := by rw [List.take_add_one, List.getElem?_eq_getElem h, List.getD_eq_getElem?_getD, List.getElem?_eq_getElem h]; rfl
  rw [e]
  simp [packL]
theorem packL_le (ws : List (List UInt8)) (k : Nat) : (packL (ws.take k)).length ≤ (packL ws).length := by
  have h : ws = ws.take k ++ ws.drop k := (List.take_append_drop k ws).symm
  have h2 : packL ws = packL (ws.take k) ++ packL (ws.drop k) := by
    conv => lhs; rw [h]
    simp only [packL, List.map_append, List.flatten_append]
  rw [h2, List.length_append]
  omega
theorem packL_nil : packL [] = [] := rfl

theorem packed_cr0 (ws : List (List UInt8)) (h1 : ws.length ≤ 60) (h2 : ∀ w ∈ ws, w.length ≤ 200) (h3 : (packL ws).length ≤ 4000) : CR Tryd.prog 62 [rowsA ws] [] 0 (Is (.tup [.sl 0 0 (packL ws).length (packL ws).length, .bool true]) [(0, some ⟨bA (packL ws), 1, true, false⟩)] (0 + 1)) := by
  refine CR_introU tyOk Tryd.func62 (by kernel_rfl) rfl 39 rfl (by simp) [.tmp 2, .tmp 3] rfl ?_
  intro w0 ok0 wr φ0
  have hl : (ws.map byA).length = ws.length := by simp
  have d0 : decide ((60 : Int) < ((ws.map byA).length : Int)) = false := decide_eq_false (by omega)
  repeat' (first | refine T_seq ?_ | refine N_then ?_ | refine T_regX tyOk ?_ | refine S_nil ?_ | refine T_skip ?_ | refine T_block ?_ | (apply T_ifF; (· exact rfl); (· (first | assumption | exact rfl))) | apply S_move | apply S_assign | apply S_gtr | (apply S_len_ls; (· exact rfl); (· exact gt_any rfl)) | (apply S_buildL tyOk; (· exact rfl); (· exact rfl); (· exact rfl)) | (dsimp only; omega) | exact gtsI_nil | exact elts_nil | exact gt_any rfl | exact rfl | fail)
  refine T_roundsS (α := Nat) (fun k => ⟨[(4, .sl 0 0 (packL (ws.take k)).length (packL (ws.take k)).length), (11, rowsA ws), (12, .int .i64 (ws.map byA).length), (13, .int .i64 k)], [(0, some ⟨bA (packL (ws.take k)), 1, true, false⟩)], 1⟩)
    (fun k => ws.length - k) (fun k => k ≤ ws.length) 0 ((weak_of (by repeat' (first | exact keepE_nil | refine keepE_cons rfl ?_)) (by repeat' (first | exact keepB_nil | refine keepB_cons (by first | rfl | exact congrArg (fun l => some (Box.mk l _ _ _)) hset) ?_)) (Nat.le_refl _))).sub (by omega) ?_
  intro k hk
  have hbl := bA_length (packL (ws.take k))
  by_cases hkl : k < ws.length
  · have d1 : decide ((k : Int) < ((ws.map byA).length : Int)) = true := decide_eq_true (by omega)
    have hget := map_getD byA ws [] (k := k) (by omega)
    have hw2 := h2 _ (getD_mem ws [] hkl)
    have ht := packL_take ws hkl
    have hle := packL_le ws (k + 1)
    have hlen := congrArg List.length ht
    simp only [List.length_append, List.length_cons] at hlen
    generalize ws.getD k [] = w at *
    have hwl := bA_length w
    have d2 : decide ((200 : Int) < ((bA w).length : Int)) = false := decide_eq_false (by omega)
    have w1 : IntKind.wrap .i64 (((packL (ws.take k)).length : Int) + 1) = (((packL (ws.take k)).length + 1 : Nat) : Int) := by rw [wrap_i64 (by omega) (by omega)]; omega
    have w2 : IntKind.wrap .i64 ((((packL (ws.take k)).length + 1 : Nat) : Int) + ((bA w).length : Int)) = ((packL (ws.take (k + 1))).length : Int) := by rw [wrap_i64 (by omega) (by omega)]; omega
    have d3 : decide ((4000 : Int) < ((packL (ws.take (k + 1))).length : Int)) = false := decide_eq_false (by omega)
    have w3 : IntKind.wrap .u8 ((bA w).length : Int) = ((byteN w.length).toNat : Int) := by rw [hwl]; exact byteN_wrap _
    have hset : (bA (packL (ws.take k)) ++ [.int .u8 ((byteN w.length).toNat : Int)]) ++ bA w = bA (packL (ws.take (k + 1))) := by rw [ht]; simp [bA]
    have hw : IntKind.wrap .i64 ((k : Int) + 1) = ((k + 1 : Nat) : Int) := by rw [wrap_i64 (by omega) (by omega)]; omega
    repeat' (first | refine T_seq ?_ | refine N_then ?_ | refine N_block ?_ | refine T_regX tyOk ?_ | refine S_nil ?_ | refine T_skip ?_ | refine T_block ?_ | (apply T_ifT; (· exact rfl); (· (first | assumption | exact rfl))) | (apply T_ifF; (· exact rfl); (· (first | assumption | exact rfl))) | (apply S_gf; (· exact rfl); (· exact rfl); (· (first | assumption | exact rfl))) | apply S_move | apply S_assign | (apply S_pickF; (· exact gt_any rfl); (· (first | assumption | exact rfl))) | (apply S_loadV; (· exact rfl); (· exact gt_any rfl); (· exact rfl); (· (first | exact ⟨rfl, rfl⟩ | exact ⟨rfl, trivial⟩ | assumption))) | apply S_lss | apply S_gtr | apply S_add | (apply S_conv; (· exact rfl); (· exact rfl); (· exact gt_any rfl)) | (apply S_len_ls; (· exact rfl); (· exact gt_any rfl)) | (apply S_len_sl; (· exact rfl); (· exact gt_any rfl)) | (apply S_idxLs; (· exact rfl); (· exact rfl); (· exact gt_any rfl); (· exact gt_any rfl)) | (apply M_appB; (· exact rfl); (· exact rfl); (· exact gt_any rfl)) | (apply S_buildV tyOk; (· exact rfl); (· exact rfl)) | (apply mlen; first | exact rfl | assumption | exact Nat.le_of_ble_eq_true rfl | omega | (simp [bA_length]; done) | (simp [bA_length]; omega)) | (apply msz; first | assumption | exact Nat.le_of_ble_eq_true rfl | (dsimp only; simp only [List.length_append, List.length_map, List.length_cons, List.length_nil, bA_length, List.length_take, List.length_drop, List.length_replicate] at *; omega) | (dsimp only; omega)) | (apply mnorm; first | with_reducible exact app_nil0 _ | exact app_norm _ _ | exact rfl) | exact Src.ls rfl rfl | (dsimp only; omega) | exact gtsI_nil | (apply gtsI_cons; (· exact gt_any rfl)) | exact elts_nil | apply elts_cons | (intro hu; cases hu; done) | exact gt_any rfl | exact okCells_of rfl rfl | assumption | (refine ⟨?_, ?_⟩ <;> omega) | omega | exact rfl | fail)
    exact N_againS (k + 1) (sub_names [(0, 2)] (k0 := 0) rfl (by rfl) (by repeat' (first | exact pullE_nil | (apply pullE_cons; (· exact rfl)) | exact Ren.sl _ _ _ _ | (apply ren_slE; (· first | exact rfl | omega); (· first | exact rfl | assumption | (simp [bA_length]; done) | (simp [bA_length]; omega)); (· first | exact rfl | assumption | (simp [bA_length]; done) | (simp [bA_length]; omega))) | exact Ren.ptr _ _ _ | (apply Ren.pure; (first | exact PureC.out | exact PureLC.out | assumption)) | exact renL_nil | apply renL_cons | apply ren_agg | apply ren_tup)) (by repeat' (first | exact pullB_nil | (apply pullB_pure; (· first | exact rfl | exact congrArg (fun l => some (Box.mk l _ _ _)) hset); (· (exact PureEC.out))) | (apply pullB_one; (· exact rfl)) | exact renL_nil | apply renL_cons | exact Ren.sl _ _ _ _ | exact Ren.ptr _ _ _ | (apply Ren.pure; (first | exact PureC.out | exact PureLC.out | assumption)) | apply ren_agg)) (by repeat' (first | exact lowE_nil | apply lowE_cons | exact Low.sl _ _ _ _ (by decide) | exact Low.ptr _ _ _ (by decide) | (apply Low.pure; (first | exact PureC.out | exact PureLC.out | assumption)) | exact lowL_nil | apply lowL_cons | apply low_agg | apply low_tup)) (by repeat' (first | exact lowBs_nil | apply lowBs_cons | (apply PureB.low; (exact PureEC.out)) | apply lowX_one | exact lowX_nil | exact lowL_nil | apply lowL_cons | exact Low.sl _ _ _ _ (by decide) | exact Low.ptr _ _ _ (by decide) | (apply Low.pure; (first | exact PureC.out | exact PureLC.out | assumption))))) (by omega) (by omega)
  · have d1 : decide ((k : Int) < ((ws.map byA).length : Int)) = false := decide_eq_false (by omega)
    obtain rfl : k = ws.length := by omega
    rw [List.take_length]
    repeat' (first | refine T_seq ?_ | refine N_then ?_ | refine N_thenE ?_ | refine N_blockE ?_ | refine N_againSE ?_ | refine T_regX tyOk ?_ | refine S_nil ?_ | refine T_ret ?_ | refine T_exit ?_ | (apply T_ifF; (· exact rfl); (· (first | assumption | exact rfl))) | apply S_move | apply S_assign | apply S_lss | exact gt_any rfl | exact rfl | fail)
    (apply E_U0 [(0, 0)] <;> repeat' (first | exact resL_nil | (apply resL_tmp; (· exact rfl)) | (apply resL_cell; (· exact rfl); (· exact rfl); (· exact rfl); (· exact rfl); (· exact rfl); (· exact rfl)) | (apply resL_arr; (· exact rfl); (· exact rfl); (· exact rfl); (· exact rfl); (· (first | assumption | exact rfl))) | exact Ren.sl _ _ _ _ | (apply ren_slE; (· first | exact rfl | omega); (· first | exact rfl | assumption | (simp [bA_length]; done) | (simp [bA_length]; omega)); (· first | exact rfl | assumption | (simp [bA_length]; done) | (simp [bA_length]; omega))) | exact Ren.ptr _ _ _ | exact renL_nil | apply renL_cons | (apply Ren.pure; exact PureC.out) | apply ren_agg | apply ren_tup | exact Low.sl _ _ _ _ (by decide) | exact Low.ptr _ _ _ (by decide) | exact lowL_nil | apply lowL_cons | (apply Low.pure; exact PureC.out) | apply low_agg | apply low_tup | exact pullB_nil | (apply pullB_pureE; (· exact rfl); (· first | exact rfl | assumption | (simp [bA]; done)); (· exact PureEC.out)) | (apply pullB_one; (· exact rfl)) | exact lowBs_nil | apply lowBs_cons | (apply PureB.low; exact PureEC.out) | apply lowX_one | exact lowX_nil | exact rfl))

theorem packed_cr (ws : List (List UInt8)) (h1 : ws.length ≤ 60) (h2 : ∀ w ∈ ws, w.length ≤ 200) (h3 : (packL ws).length ≤ 4000) (N : Nat) : CR Tryd.prog 62 [rowsA ws] [] N (Is (.tup [.sl N 0 (packL ws).length (packL ws).length, .bool true]) [(N, some ⟨bA (packL ws), 1, true, false⟩)] (N + 1)) :=
  CR.allN (packed_cr0 ws h1 h2 h3) N (by first | exact PureC.out | exact PureLC.out | assumption) (by repeat' (first | exact Ren.sl _ _ _ _ | exact Ren.ptr _ _ _ | exact renL_nil | apply renL_cons | (apply Ren.pure; (first | exact PureC.out | exact PureLC.out | assumption)) | apply ren_agg | apply ren_tup)) (by repeat' (first | exact renBs_nil | (apply renBs_pure; (· exact rfl); (· (exact PureEC.out))) | (apply renBs_one; (· exact rfl)) | exact renL_nil | apply renL_cons | exact Ren.sl _ _ _ _ | exact Ren.ptr _ _ _ | (apply Ren.pure; (first | exact PureC.out | exact PureLC.out | assumption)) | apply ren_agg))

theorem pack_cr0 (ws : List (List UInt8)) (h1 : ws.length ≤ 60) (h2 : ∀ w ∈ ws, w.length ≤ 200) (h3 : (packL ws).length ≤ 4000) : CR Tryd.prog 53 [rowsA ws] [] 0 (Is (.sl 0 0 (packL ws).length (packL ws).length) [(0, some ⟨bA (packL ws), 1, true, false⟩)] (0 + 1)) := by
  refine CR_introU tyOk Tryd.func53 (by kernel_rfl) rfl 11 rfl (by simp) [.tmp 2] rfl ?_
  intro w0 ok0 wr φ0
  have c0 := fun N => packed_cr ws h1 h2 h3 N
  repeat' (first | refine T_seq ?_ | refine N_then ?_ | refine T_regX tyOk ?_ | refine S_nil ?_ | refine T_ret ?_ | apply S_move | apply S_assign | apply S_extract | apply S_callI (f := 62) | apply c0 | exact viewL_nil | apply viewL_cons | (apply View.pure; exact PureC.out) | exact OwnC.out | exact ownB_nil | (apply ownB_boxM; (· (apply mlen; first | exact rfl | assumption | exact Nat.le_of_ble_eq_true rfl | omega | (simp [bA_length]; done) | (simp [bA_length]; omega))); (· exact OwnEC.out)) | exact gt_any rfl | exact gts_nil | (apply gts_cons; (· exact gt_any rfl)) | exact rfl | fail)
  (apply E_U0 [(0, 0)] <;> repeat' (first | exact resL_nil | (apply resL_tmp; (· exact rfl)) | (apply resL_cell; (· exact rfl); (· exact rfl); (· exact rfl); (· exact rfl); (· exact rfl); (· exact rfl)) | (apply resL_arr; (· exact rfl); (· exact rfl); (· exact rfl); (· exact rfl); (· (first | assumption | exact rfl))) | exact Ren.sl _ _ _ _ | (apply ren_slE; (· first | exact rfl | omega); (· first | exact rfl | assumption | (simp [bA_length]; done) | (simp [bA_length]; omega)); (· first | exact rfl | assumption | (simp [bA_length]; done) | (simp [bA_length]; omega))) | exact Ren.ptr _ _ _ | exact renL_nil | apply renL_cons | (apply Ren.pure; exact PureC.out) | apply ren_agg | apply ren_tup | exact Low.sl _ _ _ _ (by decide) | exact Low.ptr _ _ _ (by decide) | exact lowL_nil | apply lowL_cons | (apply Low.pure; exact PureC.out) | apply low_agg | apply low_tup | exact pullB_nil | (apply pullB_pureE; (· exact rfl); (· first | exact rfl | assumption | (simp [bA]; done)); (· exact PureEC.out)) | (apply pullB_one; (· exact rfl)) | exact lowBs_nil | apply lowBs_cons | (apply PureB.low; exact PureEC.out) | apply lowX_one | exact lowX_nil | exact rfl))

theorem pack_cr (ws : List (List UInt8)) (h1 : ws.length ≤ 60) (h2 : ∀ w ∈ ws, w.length ≤ 200) (h3 : (packL ws).length ≤ 4000) (N : Nat) : CR Tryd.prog 53 [rowsA ws] [] N (Is (.sl N 0 (packL ws).length (packL ws).length) [(N, some ⟨bA (packL ws), 1, true, false⟩)] (N + 1)) :=
  CR.allN (pack_cr0 ws h1 h2 h3) N (by first | exact PureC.out | exact PureLC.out | assumption) (by repeat' (first | exact Ren.sl _ _ _ _ | exact Ren.ptr _ _ _ | exact renL_nil | apply renL_cons | (apply Ren.pure; (first | exact PureC.out | exact PureLC.out | assumption)) | apply ren_agg | apply ren_tup)) (by repeat' (first | exact renBs_nil | (apply renBs_pure; (· exact rfl); (· (exact PureEC.out))) | (apply renBs_one; (· exact rfl)) | exact renL_nil | apply renL_cons | exact Ren.sl _ _ _ _ | exact Ren.ptr _ _ _ | (apply Ren.pure; (first | exact PureC.out | exact PureLC.out | assumption)) | apply ren_agg))

theorem l1Pack_cr0 (ws : List (List UInt8)) (h1 : ws.length ≤ 1000000) (h3 : (packL ws).length ≤ 100000000) : CR Tryd.prog 51 [rowsA ws] [] 0 (Is (.sl 0 0 (packL ws).length (packL ws).length) [(0, some ⟨bA (packL ws), 1, true, false⟩)] (0 + 1)) := by
  refine CR_introU tyOk Tryd.func51 (by kernel_rfl) rfl 27 rfl (by simp) [.tmp 2] rfl ?_
  intro w0 ok0 wr φ0
  have hl : (ws.map byA).length = ws.length := by simp
  repeat' (first | refine T_seq ?_ | refine N_then ?_ | refine T_regX tyOk ?_ | refine S_nil ?_ | refine T_block ?_ | apply S_assign | (apply S_buildL tyOk; (· exact rfl); (· exact rfl); (· exact rfl)) | (dsimp only; omega) | exact gtsI_nil | exact elts_nil | exact gt_any rfl | exact rfl | fail)
  refine T_roundsS (α := Nat) (fun k => ⟨[(0, rowsA ws), (3, .sl 0 0 (packL (ws.take k)).length (packL (ws.take k)).length), (4, .int .i64 k)], [(0, some ⟨bA (packL (ws.take k)), 1, true, false⟩)], 1⟩)
    (fun k => ws.length - k) (fun k => k ≤ ws.length) 0 ((weak_of (by repeat' (first | exact keepE_nil | refine keepE_cons rfl ?_)) (by repeat' (first | exact keepB_nil | refine keepB_cons (by first | rfl | exact congrArg (fun l => some (Box.mk l _ _ _)) hset) ?_)) (Nat.le_refl _))).sub (by omega) ?_
  intro k hk
  have hbl := bA_length (packL (ws.take k))
  by_cases hkl : k < ws.length
  · have d1 : decide ((k : Int) < ((ws.map byA).length : Int)) = true := decide_eq_true (by omega)
    have hget := map_getD byA ws [] (k := k) (by omega)
    have ht := packL_take ws hkl
    have hle := packL_le ws (k + 1)
    have hlen := congrArg List.length ht
    simp only [List.length_append, List.length_cons] at hlen
    generalize ws.getD k [] = w at *
    have hwl := bA_length w
    have w3 : IntKind.wrap .u8 ((bA w).length : Int) = ((byteN w.length).toNat : Int) := by rw [hwl]; exact byteN_wrap _
    have hset : (bA (packL (ws.take k)) ++ [.int .u8 ((byteN w.length).toNat : Int)]) ++ bA w = bA (packL (ws.take (k + 1))) := by rw [ht]; simp [bA]
    have hw : IntKind.wrap .i64 ((k : Int) + 1) = ((k + 1 : Nat) : Int) := by rw [wrap_i64 (by omega) (by omega)]; omega
    repeat' (first | refine T_seq ?_ | refine N_then ?_ | refine N_block ?_ | refine T_regX tyOk ?_ | (apply T_drawF (i := 0) (id := 5) 13 [8] tyOk mixed; (· exact rfl); (· exact rfl); (· exact rfl); (· kernel_rfl); (· kernel_rfl); (· exact Nat.le_of_ble_eq_true rfl)) | refine S_nil ?_ | refine T_skip ?_ | refine T_block ?_ | (apply T_ifT; (· exact rfl); (· (first | assumption | exact rfl))) | apply S_move | apply S_assign | (apply S_loadV; (· exact rfl); (· exact gt_any rfl); (· exact rfl); (· (first | exact ⟨rfl, rfl⟩ | exact ⟨rfl, trivial⟩ | assumption))) | apply S_lss | apply S_add | (apply S_conv; (· exact rfl); (· exact rfl); (· exact gt_any rfl)) | (apply S_len_ls; (· exact rfl); (· exact gt_any rfl)) | (apply S_idxLs; (· exact rfl); (· exact rfl); (· exact gt_any rfl); (· exact gt_any rfl)) | (apply M_appB; (· exact rfl); (· exact rfl); (· exact gt_any rfl)) | (apply S_buildV tyOk; (· exact rfl); (· exact rfl)) | (apply L_appB tyOk; (· exact rfl); (· exact rfl); (· exact gt_any rfl)) | (apply mlen; first | exact rfl | assumption | exact Nat.le_of_ble_eq_true rfl | omega | (simp [bA_length]; done) | (simp [bA_length]; omega)) | (apply msz; first | assumption | exact Nat.le_of_ble_eq_true rfl | (dsimp only; simp only [List.length_append, List.length_map, List.length_cons, List.length_nil, bA_length, List.length_take, List.length_drop, List.length_replicate] at *; omega) | (dsimp only; omega)) | (apply mnorm; first | with_reducible exact app_nil0 _ | exact app_norm _ _ | exact rfl) | exact Src.ls rfl rfl | (dsimp only; omega) | exact gtsI_nil | (apply gtsI_cons; (· exact gt_any rfl)) | exact elts_nil | apply elts_cons | (intro hu; cases hu; done) | exact gt_any rfl | exact okCells_of rfl rfl | assumption | (refine ⟨?_, ?_⟩ <;> omega) | omega | exact rfl | fail)
    exact N_againS (k + 1) (sub_names [(0, 2)] (k0 := 0) rfl (by rfl) (by repeat' (first | exact pullE_nil | (apply pullE_cons; (· exact rfl)) | exact Ren.sl _ _ _ _ | (apply ren_slE; (· first | exact rfl | omega); (· first | exact rfl | assumption | (simp [bA_length]; done) | (simp [bA_length]; omega)); (· first | exact rfl | assumption | (simp [bA_length]; done) | (simp [bA_length]; omega))) | exact Ren.ptr _ _ _ | (apply Ren.pure; (first | exact PureC.out | exact PureLC.out | assumption)) | exact renL_nil | apply renL_cons | apply ren_agg | apply ren_tup)) (by repeat' (first | exact pullB_nil | (apply pullB_pure; (· first | exact rfl | exact congrArg (fun l => some (Box.mk l _ _ _)) hset); (· (exact PureEC.out))) | (apply pullB_one; (· exact rfl)) | exact renL_nil | apply renL_cons | exact Ren.sl _ _ _ _ | exact Ren.ptr _ _ _ | (apply Ren.pure; (first | exact PureC.out | exact PureLC.out | assumption)) | apply ren_agg)) (by repeat' (first | exact lowE_nil | apply lowE_cons | exact Low.sl _ _ _ _ (by decide) | exact Low.ptr _ _ _ (by decide) | (apply Low.pure; (first | exact PureC.out | exact PureLC.out | assumption)) | exact lowL_nil | apply lowL_cons | apply low_agg | apply low_tup)) (by repeat' (first | exact lowBs_nil | apply lowBs_cons | (apply PureB.low; (exact PureEC.out)) | apply lowX_one | exact lowX_nil | exact lowL_nil | apply lowL_cons | exact Low.sl _ _ _ _ (by decide) | exact Low.ptr _ _ _ (by decide) | (apply Low.pure; (first | exact PureC.out | exact PureLC.out | assumption))))) (by omega) (by omega)
  · have d1 : decide ((k : Int) < ((ws.map byA).length : Int)) = false := decide_eq_false (by omega)
    obtain rfl : k = ws.length := by omega
    rw [List.take_length]
    repeat' (first | refine T_seq ?_ | refine N_then ?_ | refine N_thenE ?_ | refine N_blockE ?_ | refine N_againSE ?_ | refine T_regX tyOk ?_ | refine S_nil ?_ | refine T_ret ?_ | refine T_exit ?_ | (apply T_ifF; (· exact rfl); (· (first | assumption | exact rfl))) | apply S_move | apply S_assign | apply S_lss | (apply S_len_ls; (· exact rfl); (· exact gt_any rfl)) | exact gt_any rfl | exact rfl | fail)
    (apply E_U0 [(0, 0)] <;> repeat' (first | exact resL_nil | (apply resL_tmp; (· exact rfl)) | (apply resL_cell; (· exact rfl); (· exact rfl); (· exact rfl); (· exact rfl); (· exact rfl); (· exact rfl)) | (apply resL_arr; (· exact rfl); (· exact rfl); (· exact rfl); (· exact rfl); (· (first | assumption | exact rfl))) | exact Ren.sl _ _ _ _ | (apply ren_slE; (· first | exact rfl | omega); (· first | exact rfl | assumption | (simp [bA_length]; done) | (simp [bA_length]; omega)); (· first | exact rfl | assumption | (simp [bA_length]; done) | (simp [bA_length]; omega))) | exact Ren.ptr _ _ _ | exact renL_nil | apply renL_cons | (apply Ren.pure; exact PureC.out) | apply ren_agg | apply ren_tup | exact Low.sl _ _ _ _ (by decide) | exact Low.ptr _ _ _ (by decide) | exact lowL_nil | apply lowL_cons | (apply Low.pure; exact PureC.out) | apply low_agg | apply low_tup | exact pullB_nil | (apply pullB_pureE; (· exact rfl); (· first | exact rfl | assumption | (simp [bA]; done)); (· exact PureEC.out)) | (apply pullB_one; (· exact rfl)) | exact lowBs_nil | apply lowBs_cons | (apply PureB.low; exact PureEC.out) | apply lowX_one | exact lowX_nil | exact rfl))

theorem l1Pack_cr (ws : List (List UInt8)) (h1 : ws.length ≤ 1000000) (h3 : (packL ws).length ≤ 100000000) (N : Nat) : CR Tryd.prog 51 [rowsA ws] [] N (Is (.sl N 0 (packL ws).length (packL ws).length) [(N, some ⟨bA (packL ws), 1, true, false⟩)] (N + 1)) :=
  CR.allN (l1Pack_cr0 ws h1 h3) N (by first | exact PureC.out | exact PureLC.out | assumption) (by repeat' (first | exact Ren.sl _ _ _ _ | exact Ren.ptr _ _ _ | exact renL_nil | apply renL_cons | (apply Ren.pure; (first | exact PureC.out | exact PureLC.out | assumption)) | apply ren_agg | apply ren_tup)) (by repeat' (first | exact renBs_nil | (apply renBs_pure; (· exact rfl); (· (exact PureEC.out))) | (apply renBs_one; (· exact rfl)) | exact renL_nil | apply renL_cons | exact Ren.sl _ _ _ _ | exact Ren.ptr _ _ _ | (apply Ren.pure; (first | exact PureC.out | exact PureLC.out | assumption)) | apply ren_agg))

end Go.Proofs.YtmaginepopldnaaDoor
