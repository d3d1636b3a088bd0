/- Digests of sets, and heads of the second chain. -/
import Derived.Test.YthfikpgbddpmoaaZi
set_option maxRecDepth 100000
set_option maxHeartbeats 3200000
set_option linter.unusedSimpArgs false
set_option linter.unusedVariables false
namespace Go.Proofs.Ythfikpgbddpmoaa
open Go.Av
attribute [local irreducible] T thenQ blockQ againQ againS WX retV retR Gt Gts GtsP okCells CV CR Av.Pure
attribute [local irreducible] sha

abbrev setS : ByteArray := ByteArray.mk #[115, 101, 116]
abbrev bftS : ByteArray := ByteArray.mk #[98, 102, 116]

def setW (l : List Vld) : List (List UInt8) := l.flatMap fun v => [v.key, putN v.power]
theorem setW_take (l : List Vld) {k : Nat} (h : k < l.length) : setW (l.take (k + 1)) = setW (l.take k) ++ [(l.getD k Vld0).key, putN (l.getD k Vld0).power] := by
  have e : l.take (k + 1) = l.take k ++ [l.getD k Vld0] := by rw [List.take_add_one, List.getElem?_eq_getElem h, List.getD_eq_getElem?_getD, List.getElem?_eq_getElem h]; rfl
  rw [e]
  simp [setW]
theorem setW_length (l : List Vld) : (setW l).length = 2 * l.length := by
  induction l with
  | nil => rfl
  | cons v l ih => simp only [setW, List.flatMap_cons, List.length_append, List.length_cons, List.length_nil] at ih ⊢; omega
theorem setW_mem {l : List Vld} (h : ∀ v ∈ l, v.key.length = 32) : ∀ w ∈ setW l, w.length ≤ 32 := by
  intro w hw
  unfold setW at hw
  obtain ⟨v, hv, h2⟩ := List.mem_flatMap.1 hw
  simp only [List.mem_cons, List.not_mem_nil, or_false] at h2
  rcases h2 with rfl | rfl
  · rw [h v hv]; exact Nat.le_refl _
  · rw [putN_length]; decide
theorem packL_bound {ws : List (List UInt8)} {b : Nat} (h : ∀ w ∈ ws, w.length ≤ b) : (packL ws).length ≤ (b + 1) * ws.length := by
  induction ws with
  | nil => simp [packL]
  | cons w ws ih =>
    have h1 := ih fun x hx => h x (by simp [hx])
    have h2 := h w (by simp)
    have h3 : packL (w :: ws) = (byteN w.length :: w) ++ packL ws := by simp [packL]
    rw [h3, List.length_append, List.length_cons, List.length_cons, Nat.mul_add]
    omega
def setD (l : List Vld) : List UInt8 := sha (tagL setS ++ packL (setW l))
theorem setD_length (l : List Vld) : (setD l).length = 32 := sha_length _

theorem set_keys {l : List Vld} (h : setFault l = 0) : ∀ v ∈ l, v.key.length = 32 := fun v hv => by
  obtain ⟨i, hi, rfl⟩ := List.getElem_of_mem hv
  have := ((setFault_zero h).2.2 i hi).1
  rw [List.getD_eq_getElem?_getD, List.getElem?_eq_getElem hi] at this
  exact this
theorem setW_pack {l : List Vld} (h : setFault l = 0) : (setW l).length ≤ 60 ∧ (∀ w ∈ setW l, w.length ≤ 200) ∧ (packL (setW l)).length ≤ 4000 := by
  obtain ⟨h1, h5, _⟩ := setFault_zero h
  have h2 := setW_mem (set_keys h)
  have h3 := packL_bound h2
  have h4 := setW_length l
  have h6 : (32 + 1) * (setW l).length ≤ 330 := by omega
  exact ⟨by omega, fun w hw => by have := h2 w hw; omega, by omega⟩

attribute [local irreducible] putN setW packL

theorem setDigest_cv (l : List Vld) (h : setFault l = 0) : CV Try.prog 142 [vldAS l] (· = sl1 (bA (setD l))) := by
  refine CV_intro tyOk Try.func142 (by kernel_rfl) rfl 26 rfl (by simp) [.tmp 2] rfl ?_
  intro w0 ok0
  have hl : (l.map vldA).length = l.length := by simp
  obtain ⟨h1, h5, _⟩ := setFault_zero h
  have hk := set_keys h
  have hW := setW_pack h
  repeat' (first | refine T_seq ?_ | refine N_then ?_ | refine T_regX tyOk ?_ | refine S_nil ?_ | refine T_block ?_ | apply S_move | apply S_assign | (apply S_len_ls; (· exact rfl); (· exact gt_any rfl)) | (apply S_buildL tyOk; (· exact rfl); (· exact rfl); (· exact rfl)) | (dsimp only; omega) | exact gtsI_nil | exact elts_nil | exact gt_any rfl | exact rfl | fail)
  refine T_roundsS (α := Nat) (fun k => ⟨[(3, .sl 0 0 (2 * k) (2 * k)), (7, vldAS l), (8, .int .i64 (l.map vldA).length), (9, .int .i64 k)], [(0, some ⟨(setW (l.take k)).map byA, 1, true, false⟩)], 1⟩)
    (fun k => l.length - k) (fun k => k ≤ l.length) 0 ?_ (by omega) ?_
  · rw [show setW (l.take 0) = [] by unfold setW; rfl]
    exact ((weak_of (by repeat' (first | exact keepE_nil | refine keepE_cons rfl ?_)) (by repeat' (first | exact keepB_nil | refine keepB_cons (by first | rfl | exact congrArg (fun l => some (Box.mk l _ _ _)) hset) ?_)) (Nat.le_refl _))).sub
  intro k hk'
  have hwl : ((setW (l.take k)).map byA).length = 2 * k := by rw [List.length_map, setW_length, List.length_take]; omega
  by_cases hkl : k < l.length
  · have d1 : decide ((k : Int) < ((l.map vldA).length : Int)) = true := decide_eq_true (by omega)
    have hget := map_getD vldA l Vld0 (k := k) (by omega)
    have ht := setW_take l hkl
    have c0 := number_cv (l.getD k Vld0).power
    generalize l.getD k Vld0 = v at *
    have hset : (setW (l.take k)).map byA ++ [byA v.key, byA (putN v.power)] = (setW (l.take (k + 1))).map byA := by rw [ht]; simp
    have hw : IntKind.wrap .i64 ((k : Int) + 1) = ((k + 1 : Nat) : Int) := by rw [wrap_i64 (by omega) (by omega)]; omega
    repeat' (first | refine T_seq ?_ | refine N_then ?_ | refine N_block ?_ | refine T_regX tyOk ?_ | (apply T_drawM (id := 5) 7 tyOk mixed; (· exact rfl); (· exact rfl); (· kernel_rfl); (· exact Nat.le_of_ble_eq_true rfl)) | refine S_nil ?_ | refine T_skip ?_ | refine T_block ?_ | (apply T_ifT; (· exact rfl); (· (first | assumption | exact rfl))) | apply S_move | apply S_assign | (apply S_loadP; (· exact rfl); (· exact gt_any rfl); (· exact rfl); (· exact rfl); (· exact rfl); (· (first | exact ⟨rfl, rfl⟩ | exact ⟨rfl, trivial⟩ | assumption))) | (apply S_loadVA; (· exact rfl); (· exact gt_any rfl); (· exact rfl); (· exact rfl)) | (apply S_fieldP; (· exact rfl); (· exact rfl); (· exact rfl); (· exact rfl); (· exact gt_any rfl)) | apply S_lss | apply S_add | apply S_alloc | (apply S_store1; (· exact rfl); (· exact gt_any rfl); (· exact rfl); (· exact rfl); (· exact rfl); (· exact rfl)) | (apply S_idxLs; (· exact rfl); (· exact rfl); (· exact gt_any rfl); (· exact gt_any rfl)) | (apply M_appB; (· exact rfl); (· exact rfl); (· exact gt_any rfl)) | (apply S_buildV tyOk; (· exact rfl); (· exact rfl)) | apply S_call (f := 193) | apply c0 | exact PureLC.out | (apply mlen; first | exact rfl | assumption | exact Nat.le_of_ble_eq_true rfl | omega | (simp [bA_length]; done) | (simp [bA_length]; omega)) | (apply msz; first | assumption | exact Nat.le_of_ble_eq_true rfl | (dsimp only; simp only [List.length_append, List.length_map, List.length_cons, List.length_nil, bA_length, List.length_take, List.length_drop, List.length_replicate] at *; omega) | (dsimp only; omega)) | (apply mnorm; first | with_reducible exact app_nil0 _ | exact app_norm _ _ | exact rfl) | exact Src.ls rfl rfl | (dsimp only; omega) | exact gtsI_nil | (apply gtsI_cons; (· exact gt_any rfl)) | exact elts_nil | apply elts_cons | (intro hu; cases hu; done) | exact gt_any rfl | exact gts_nil | (apply gts_cons; (· exact gt_any rfl)) | exact okCells_of rfl rfl | assumption | (refine ⟨?_, ?_⟩ <;> omega) | exact rfl | fail)
    exact N_againS (k + 1) (sub_names [(0, 2)] (k0 := 0) rfl (by rfl) (by repeat' (first | exact pullE_nil | (apply pullE_cons; (· exact rfl)) | exact Ren.sl _ _ _ _ | (apply ren_slE; (· first | exact rfl | omega); (· first | exact rfl | assumption | (simp [bA_length]; done) | (simp [bA_length]; omega)); (· first | exact rfl | assumption | (simp [bA_length]; done) | (simp [bA_length]; omega))) | exact Ren.ptr _ _ _ | (apply Ren.pure; (first | exact PureC.out | exact PureLC.out | assumption)) | exact renL_nil | apply renL_cons | apply ren_agg | apply ren_tup)) (by repeat' (first | exact pullB_nil | (apply pullB_pure; (· first | exact rfl | exact congrArg (fun l => some (Box.mk l _ _ _)) hset); (· (exact PureEC.out))) | (apply pullB_one; (· exact rfl)) | exact renL_nil | apply renL_cons | exact Ren.sl _ _ _ _ | exact Ren.ptr _ _ _ | (apply Ren.pure; (first | exact PureC.out | exact PureLC.out | assumption)) | apply ren_agg)) (by repeat' (first | exact lowE_nil | apply lowE_cons | exact Low.sl _ _ _ _ (by decide) | exact Low.ptr _ _ _ (by decide) | (apply Low.pure; (first | exact PureC.out | exact PureLC.out | assumption)) | exact lowL_nil | apply lowL_cons | apply low_agg | apply low_tup)) (by repeat' (first | exact lowBs_nil | apply lowBs_cons | (apply PureB.low; (exact PureEC.out)) | apply lowX_one | exact lowX_nil | exact lowL_nil | apply lowL_cons | exact Low.sl _ _ _ _ (by decide) | exact Low.ptr _ _ _ (by decide) | (apply Low.pure; (first | exact PureC.out | exact PureLC.out | assumption))))) (by omega) (by omega)
  · have d1 : decide ((k : Int) < ((l.map vldA).length : Int)) = false := decide_eq_false (by omega)
    obtain rfl : k = l.length := by omega
    rw [List.take_length] at hwl ⊢
    have c0 := pack_cv (setW l) hW.1 hW.2.1 hW.2.2
    have e : [packL (setW l)].flatten = packL (setW l) := by simp
    have c1 := tagged_cv setS [packL (setW l)] (by decide) (by rw [e]; omega) (by simp)
    rw [e] at c1
    have c2 : CV Try.prog 174 [.str setS, .ls 1 false true [byA (packL (setW l))]] (· = sl1 (bA (setD l))) := c1.args rfl (loose2 (Loose.refl _) (loose_ls _ _ _ _))
    repeat' (first | refine T_seq ?_ | refine N_then ?_ | refine N_thenE ?_ | refine N_blockE ?_ | refine N_againSE ?_ | refine T_regX tyOk ?_ | refine S_nil ?_ | refine T_ret ?_ | refine T_exit ?_ | (apply E_X <;> repeat' (first | exact resL_nil | (apply resL_tmp; (· exact rfl)) | (apply resL_cell; (· exact rfl); (· exact rfl); (· exact rfl); (· exact rfl); (· exact rfl); (· exact rfl)) | (apply resL_arr; (· exact rfl); (· exact rfl); (· exact rfl); (· exact rfl); (· (first | assumption | exact rfl))) | exact viewL_nil | apply viewL_cons | apply view_nothingE | (apply view_slE; (· exact rfl); (· first | exact rfl | assumption | (simp [bA_length]; done) | (simp [bA_length]; omega) | omega); (· exact PureEC.out)) | (apply view_loose; (· exact PureEC.out)) | apply view_agg | apply view_tup | (apply View.ofEq; (· exact PureC.out)) | exact rfl)) | (apply T_ifF; (· exact rfl); (· (first | assumption | exact rfl))) | apply S_move | apply S_assign | apply S_lss | (apply S_buildV tyOk; (· exact rfl); (· exact rfl)) | apply S_callW (f := 167) | apply c0 | apply S_call (f := 174) | apply c2 | exact viewL_nil | apply viewL_cons | (apply view_slM; (· exact rfl); (· (apply mlen; first | exact rfl | assumption | exact Nat.le_of_ble_eq_true rfl | omega | (simp [bA_length]; done) | (simp [bA_length]; omega))); (· exact PureEC.out)) | exact PureLC.out | (dsimp only; omega) | exact gtsI_nil | (apply gtsI_cons; (· exact gt_any rfl)) | exact elts_nil | apply elts_cons | (intro hu; cases hu; done) | exact gt_any rfl | exact gts_nil | (apply gts_cons; (· exact gt_any rfl)) | exact okCells_of rfl rfl | exact rfl | fail)

theorem l7Digest_cv (l : List Vld) (h : setFault l = 0) : CV Try.prog 136 [vldAS l] (· = sl1 (bA (setD l))) := by
  refine CV_intro tyOk Try.func136 (by kernel_rfl) rfl 29 rfl (by simp) [.tmp 2] rfl ?_
  intro w0 ok0
  have hl : (l.map vldA).length = l.length := by simp
  obtain ⟨h1, h5, _⟩ := setFault_zero h
  have hk := set_keys h
  have hW := setW_pack h
  repeat' (first | refine T_seq ?_ | refine N_then ?_ | refine T_regX tyOk ?_ | refine S_nil ?_ | refine T_block ?_ | apply S_assign | (apply S_buildL tyOk; (· exact rfl); (· exact rfl); (· exact rfl)) | (dsimp only; omega) | exact gtsI_nil | exact elts_nil | exact gt_any rfl | exact rfl | fail)
  refine T_roundsS (α := Nat) (fun k => ⟨[(0, vldAS l), (3, .sl 0 0 (2 * k) (2 * k)), (4, .int .i64 k)], [(0, some ⟨(setW (l.take k)).map byA, 1, true, false⟩)], 1⟩)
    (fun k => l.length - k) (fun k => k ≤ l.length) 0 ?_ (by omega) ?_
  · rw [show setW (l.take 0) = [] by unfold setW; rfl]
    exact ((weak_of (by repeat' (first | exact keepE_nil | refine keepE_cons rfl ?_)) (by repeat' (first | exact keepB_nil | refine keepB_cons (by first | rfl | exact congrArg (fun l => some (Box.mk l _ _ _)) hset) ?_)) (Nat.le_refl _))).sub
  intro k hk'
  have hwl : ((setW (l.take k)).map byA).length = 2 * k := by rw [List.length_map, setW_length, List.length_take]; omega
  by_cases hkl : k < l.length
  · have d1 : decide ((k : Int) < ((l.map vldA).length : Int)) = true := decide_eq_true (by omega)
    have hget := map_getD vldA l Vld0 (k := k) (by omega)
    have ht := setW_take l hkl
    have c0 := l1Put_cv (l.getD k Vld0).power
    generalize l.getD k Vld0 = v at *
    have hset : (setW (l.take k)).map byA ++ [byA v.key, byA (putN v.power)] = (setW (l.take (k + 1))).map byA := by rw [ht]; simp
    have hw : IntKind.wrap .i64 ((k : Int) + 1) = ((k + 1 : Nat) : Int) := by rw [wrap_i64 (by omega) (by omega)]; omega
    repeat' (first | refine T_seq ?_ | refine N_then ?_ | refine N_block ?_ | refine T_regX tyOk ?_ | (apply T_drawM (id := 5) 13 tyOk mixed; (· exact rfl); (· exact rfl); (· kernel_rfl); (· exact Nat.le_of_ble_eq_true rfl)) | refine S_nil ?_ | refine T_skip ?_ | refine T_block ?_ | (apply T_ifT; (· exact rfl); (· (first | assumption | exact rfl))) | apply S_move | apply S_assign | (apply S_loadV; (· exact rfl); (· exact gt_any rfl); (· exact rfl); (· (first | exact ⟨rfl, rfl⟩ | exact ⟨rfl, trivial⟩ | assumption))) | (apply S_fieldV; (· exact rfl); (· exact rfl); (· exact rfl); (· exact rfl); (· exact gt_any rfl)) | apply S_lss | apply S_add | (apply S_len_ls; (· exact rfl); (· exact gt_any rfl)) | (apply S_idxLs; (· exact rfl); (· exact rfl); (· exact gt_any rfl); (· exact gt_any rfl)) | (apply M_appB; (· exact rfl); (· exact rfl); (· exact gt_any rfl)) | (apply S_buildV tyOk; (· exact rfl); (· exact rfl)) | apply S_call (f := 164) | apply c0 | exact PureLC.out | (apply mlen; first | exact rfl | assumption | exact Nat.le_of_ble_eq_true rfl | omega | (simp [bA_length]; done) | (simp [bA_length]; omega)) | (apply msz; first | assumption | exact Nat.le_of_ble_eq_true rfl | (dsimp only; simp only [List.length_append, List.length_map, List.length_cons, List.length_nil, bA_length, List.length_take, List.length_drop, List.length_replicate] at *; omega) | (dsimp only; omega)) | (apply mnorm; first | with_reducible exact app_nil0 _ | exact app_norm _ _ | exact rfl) | exact Src.ls rfl rfl | (dsimp only; omega) | exact gtsI_nil | (apply gtsI_cons; (· exact gt_any rfl)) | exact elts_nil | apply elts_cons | (intro hu; cases hu; done) | exact gt_any rfl | exact gts_nil | (apply gts_cons; (· exact gt_any rfl)) | exact okCells_of rfl rfl | assumption | (refine ⟨?_, ?_⟩ <;> omega) | exact rfl | fail)
    exact N_againS (k + 1) (sub_names [(0, 1)] (k0 := 0) rfl (by rfl) (by repeat' (first | exact pullE_nil | (apply pullE_cons; (· exact rfl)) | exact Ren.sl _ _ _ _ | (apply ren_slE; (· first | exact rfl | omega); (· first | exact rfl | assumption | (simp [bA_length]; done) | (simp [bA_length]; omega)); (· first | exact rfl | assumption | (simp [bA_length]; done) | (simp [bA_length]; omega))) | exact Ren.ptr _ _ _ | (apply Ren.pure; (first | exact PureC.out | exact PureLC.out | assumption)) | exact renL_nil | apply renL_cons | apply ren_agg | apply ren_tup)) (by repeat' (first | exact pullB_nil | (apply pullB_pure; (· first | exact rfl | exact congrArg (fun l => some (Box.mk l _ _ _)) hset); (· (exact PureEC.out))) | (apply pullB_one; (· exact rfl)) | exact renL_nil | apply renL_cons | exact Ren.sl _ _ _ _ | exact Ren.ptr _ _ _ | (apply Ren.pure; (first | exact PureC.out | exact PureLC.out | assumption)) | apply ren_agg)) (by repeat' (first | exact lowE_nil | apply lowE_cons | exact Low.sl _ _ _ _ (by decide) | exact Low.ptr _ _ _ (by decide) | (apply Low.pure; (first | exact PureC.out | exact PureLC.out | assumption)) | exact lowL_nil | apply lowL_cons | apply low_agg | apply low_tup)) (by repeat' (first | exact lowBs_nil | apply lowBs_cons | (apply PureB.low; (exact PureEC.out)) | apply lowX_one | exact lowX_nil | exact lowL_nil | apply lowL_cons | exact Low.sl _ _ _ _ (by decide) | exact Low.ptr _ _ _ (by decide) | (apply Low.pure; (first | exact PureC.out | exact PureLC.out | assumption))))) (by omega) (by omega)
  · have d1 : decide ((k : Int) < ((l.map vldA).length : Int)) = false := decide_eq_false (by omega)
    obtain rfl : k = l.length := by omega
    rw [List.take_length] at hwl ⊢
    have c0 := l1Pack_cv (setW l) (by omega) (by omega)
    have c1 := specTagged_cv setS (packL (setW l)) (by decide) (by omega)
    have e : sha (tagL setS ++ packL (setW l)) = setD l := rfl
    rw [e] at c1
    repeat' (first | refine T_seq ?_ | refine N_then ?_ | refine N_thenE ?_ | refine N_blockE ?_ | refine N_againSE ?_ | refine T_regX tyOk ?_ | refine S_nil ?_ | refine T_ret ?_ | refine T_exit ?_ | (apply E_X <;> repeat' (first | exact resL_nil | (apply resL_tmp; (· exact rfl)) | (apply resL_cell; (· exact rfl); (· exact rfl); (· exact rfl); (· exact rfl); (· exact rfl); (· exact rfl)) | (apply resL_arr; (· exact rfl); (· exact rfl); (· exact rfl); (· exact rfl); (· (first | assumption | exact rfl))) | exact viewL_nil | apply viewL_cons | apply view_nothingE | (apply view_slE; (· exact rfl); (· first | exact rfl | assumption | (simp [bA_length]; done) | (simp [bA_length]; omega) | omega); (· exact PureEC.out)) | (apply view_loose; (· exact PureEC.out)) | apply view_agg | apply view_tup | (apply View.ofEq; (· exact PureC.out)) | exact rfl)) | (apply T_ifF; (· exact rfl); (· (first | assumption | exact rfl))) | apply S_move | apply S_assign | apply S_lss | (apply S_len_ls; (· exact rfl); (· exact gt_any rfl)) | apply S_callW (f := 100) | apply c0 | apply S_call (f := 158) | apply c1 | exact viewL_nil | apply viewL_cons | (apply view_slM; (· exact rfl); (· (apply mlen; first | exact rfl | assumption | exact Nat.le_of_ble_eq_true rfl | omega | (simp [bA_length]; done) | (simp [bA_length]; omega))); (· exact PureEC.out)) | exact PureLC.out | exact gt_any rfl | exact gts_nil | (apply gts_cons; (· exact gt_any rfl)) | exact rfl | fail)

end Go.Proofs.Ythfikpgbddpmoaa
