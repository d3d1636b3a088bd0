/- Digests behind a tag, and frames. -/
import Derived.Test.YtaolmfgpebncjaaGreatXf
import Derived.Test.YtaolmfgpebncjaaGreatGi
set_option maxRecDepth 100000
set_option maxHeartbeats 3200000
set_option linter.unusedSimpArgs false
set_option linter.unusedVariables false
namespace Go.Proofs.YtaolmfgpebncjaaGreat
open Go.Av
attribute [local irreducible] T thenQ blockQ againQ againS WX retV retR Gt Gts GtsP okCells CV CR Av.Pure
attribute [local irreducible] sha

def tagL (s : ByteArray) : List UInt8 := byteN s.size :: strB s
theorem tagL_length (s : ByteArray) : (tagL s).length = s.size + 1 := by simp [tagL, strB_length]

theorem tagged_cr0 (s : ByteArray) (ws : List (List UInt8)) (hs : s.size ≤ 255) (h : ws.flatten.length ≤ 1000000000) (h2 : ws.length ≤ 1000000000) : CR Tryz.prog 132 [.str s, sl1 (ws.map byA)] [] 0 (Is (.sl 0 0 32 32) [(0, some ⟨bA (sha (tagL s ++ ws.flatten)), 1, true, false⟩)] (0 + 1)) := by
  refine CR_introU tyOk Tryz.func132 (by kernel_rfl) rfl 15 rfl (by simp) [.tmp 4] rfl ?_
  intro w0 ok0 wr φ0
  have hl := listOf_length s
  have hwl : (ws.map byA).length = ws.length := by simp
  have w1 := byteN_wrap s.size
  have e : ([byteN s.size] :: strB s :: ws).flatten = tagL s ++ ws.flatten := by simp [tagL]
  have hsl := strB_length s
  have c0 := fun N => digest_cr ([byteN s.size] :: strB s :: ws) (by rw [e, List.length_append, tagL_length]; omega) (by simp; omega) N
  rw [e] at c0
  repeat' (first | refine T_seq ?_ | refine N_then ?_ | refine T_regX tyOk ?_ | refine S_nil ?_ | refine T_ret ?_ | apply S_move | apply S_assign | (apply S_conv; (· exact rfl); (· exact rfl); (· exact gt_any rfl)) | (apply S_convSB; (· exact rfl); (· exact rfl); (· exact rfl); (· exact gt_any rfl)) | (apply S_len_str; (· exact rfl); (· exact gt_any rfl)) | (apply M_appV; (· exact rfl); (· exact rfl); (· exact gt_any rfl)) | (apply S_buildV tyOk; (· exact rfl); (· exact rfl)) | apply S_callI (f := 128) | apply c0 | exact viewL_nil | apply viewL_cons | exact viewE_nil | apply viewE_app | apply viewE_one | exact viewE_pure PureEC.out | apply view_lsV | (apply View.pure; exact PureC.out) | exact OwnC.out | exact ownB_nil | (apply ownB_boxM; (· (apply mlen; first | exact rfl | assumption | exact Nat.le_of_ble_eq_true rfl | omega | (simp [bA_length]; done) | (simp [bA_length]; omega))); (· exact OwnEC.out)) | (apply msz; first | assumption | exact Nat.le_of_ble_eq_true rfl | (dsimp only; simp only [List.length_append, List.length_map, List.length_cons, List.length_nil, bA_length, List.length_take, List.length_drop, List.length_replicate] at *; omega) | (dsimp only; omega)) | (apply mnorm; first | with_reducible exact app_nil0 _ | exact app_norm _ _ | exact rfl) | exact Src.ls rfl rfl | (dsimp only; omega) | exact gtsI_nil | (apply gtsI_cons; (· exact gt_any rfl)) | exact elts_nil | apply elts_cons | (intro hu; cases hu; done) | exact gt_any rfl | exact gts_nil | (apply gts_cons; (· exact gt_any rfl)) | exact okCells_of rfl rfl | assumption | exact rfl | fail)
  (apply E_U0 [(0, 0)] <;> repeat' (first | exact resL_nil | (apply resL_tmp; (· exact rfl)) | (apply resL_cell; (· exact rfl); (· exact rfl); (· exact rfl); (· exact rfl); (· exact rfl); (· exact rfl)) | (apply resL_arr; (· exact rfl); (· exact rfl); (· exact rfl); (· exact rfl); (· (first | assumption | exact rfl))) | exact Ren.sl _ _ _ _ | (apply ren_slE; (· first | exact rfl | omega); (· first | exact rfl | assumption | (simp [bA_length]; done) | (simp [bA_length]; omega)); (· first | exact rfl | assumption | (simp [bA_length]; done) | (simp [bA_length]; omega))) | exact Ren.ptr _ _ _ | exact renL_nil | apply renL_cons | (apply Ren.pure; exact PureC.out) | apply ren_agg | apply ren_tup | exact Low.sl _ _ _ _ (by decide) | exact Low.ptr _ _ _ (by decide) | exact lowL_nil | apply lowL_cons | (apply Low.pure; exact PureC.out) | apply low_agg | apply low_tup | exact pullB_nil | (apply pullB_pureE; (· exact rfl); (· first | exact rfl | assumption | (simp [bA]; done)); (· exact PureEC.out)) | (apply pullB_one; (· exact rfl)) | exact lowBs_nil | apply lowBs_cons | (apply PureB.low; exact PureEC.out) | apply lowX_one | exact lowX_nil | exact rfl))

theorem tagged_cr (s : ByteArray) (ws : List (List UInt8)) (hs : s.size ≤ 255) (h : ws.flatten.length ≤ 1000000000) (h2 : ws.length ≤ 1000000000) (N : Nat) : CR Tryz.prog 132 [.str s, sl1 (ws.map byA)] [] N (Is (.sl N 0 32 32) [(N, some ⟨bA (sha (tagL s ++ ws.flatten)), 1, true, false⟩)] (N + 1)) :=
  CR.allN (tagged_cr0 s ws hs h h2) N (by first | exact PureC.out | exact PureLC.out | assumption) (by repeat' (first | exact Ren.sl _ _ _ _ | exact Ren.ptr _ _ _ | exact renL_nil | apply renL_cons | (apply Ren.pure; (first | exact PureC.out | exact PureLC.out | assumption)) | apply ren_agg | apply ren_tup)) (by repeat' (first | exact renBs_nil | (apply renBs_pure; (· exact rfl); (· (exact PureEC.out))) | (apply renBs_one; (· exact rfl)) | exact renL_nil | apply renL_cons | exact Ren.sl _ _ _ _ | exact Ren.ptr _ _ _ | (apply Ren.pure; (first | exact PureC.out | exact PureLC.out | assumption)) | apply ren_agg))

theorem specTagged_cr0 (s : ByteArray) (d : List UInt8) (hs : s.size ≤ 255) (h : d.length ≤ 1000000000) : CR Tryz.prog 160 [.str s, sl1 (bA d)] [] 0 (Is (.sl 0 0 32 32) [(0, some ⟨bA (sha (tagL s ++ d)), 1, true, false⟩)] (0 + 1)) := by
  refine CR_introU tyOk Tryz.func160 (by kernel_rfl) rfl 16 rfl (by simp) [.tmp 4] rfl ?_
  intro w0 ok0 wr φ0
  have hl := listOf_length s
  have hdl := bA_length d
  have w1 := byteN_wrap s.size
  have w0 : ((s.size : Int)).tmod 256 = ((byteN s.size).toNat : Int) := by rw [← w1, Int.tmod_eq_emod_of_nonneg (by omega)]; simp [IntKind.wrap, IntKind.bits, IntKind.signed]
  have w2 : IntKind.wrap .u8 ((byteN s.size).toNat : Int) = ((byteN s.size).toNat : Int) := wrap_u8 (byte_le _).1 (byte_le _).2
  have e : [byteN s.size] ++ strB s ++ d = tagL s ++ d := by simp [tagL]
  have hsl := strB_length s
  have c0 := fun N => specDigest_cr (tagL s ++ d) (by rw [List.length_append, tagL_length]; omega) N
  have hv : ([.int .u8 ((byteN s.size).toNat : Int)] ++ listOf s) ++ bA d = bA (tagL s ++ d) := by rw [← e, ← bA_app, ← bA_app]; rfl
  simp only [← hv] at c0
  repeat' (first | refine T_seq ?_ | refine N_then ?_ | refine T_regX tyOk ?_ | refine S_nil ?_ | refine T_ret ?_ | apply S_move | apply S_assign | (apply S_conv; (· exact rfl); (· exact rfl); (· exact gt_any rfl)) | (apply S_convSB; (· exact rfl); (· exact rfl); (· exact rfl); (· exact gt_any rfl)) | (apply S_len_str; (· exact rfl); (· exact gt_any rfl)) | (apply S_remW; (· exact gt_any rfl); (· exact gt_any rfl); (· exact rfl); (· (first | exact Nat.le_of_ble_eq_true rfl | omega | decide))) | (apply M_appB; (· exact rfl); (· exact rfl); (· exact gt_any rfl)) | (apply S_buildL tyOk; (· exact rfl); (· exact rfl); (· exact rfl)) | apply S_callI (f := 171) | apply c0 | exact viewL_nil | apply viewL_cons | (apply view_slM; (· exact rfl); (· (apply mlen; first | exact rfl | assumption | exact Nat.le_of_ble_eq_true rfl | omega | (simp [bA_length]; done) | (simp [bA_length]; omega))); (· exact PureEC.out)) | exact OwnC.out | exact ownB_nil | (apply ownB_boxM; (· (apply mlen; first | exact rfl | assumption | exact Nat.le_of_ble_eq_true rfl | omega | (simp [bA_length]; done) | (simp [bA_length]; omega))); (· exact OwnEC.out)) | (apply mlen; first | exact rfl | assumption | exact Nat.le_of_ble_eq_true rfl | omega | (simp [bA_length]; done) | (simp [bA_length]; omega)) | (apply msz; first | assumption | exact Nat.le_of_ble_eq_true rfl | (dsimp only; simp only [List.length_append, List.length_map, List.length_cons, List.length_nil, bA_length, List.length_take, List.length_drop, List.length_replicate] at *; omega) | (dsimp only; omega)) | (apply mnorm; first | with_reducible exact app_nil0 _ | exact app_norm _ _ | exact rfl) | exact Src.ls rfl rfl | (dsimp only; omega) | exact gtsI_nil | (apply gtsI_cons; (· exact gt_any rfl)) | exact elts_nil | apply elts_cons | (intro hu; cases hu; done) | exact gt_any rfl | exact gts_nil | (apply gts_cons; (· exact gt_any rfl)) | exact okCells_of rfl rfl | assumption | omega | exact rfl | fail)
  (apply E_U0 [(0, 3)] <;> repeat' (first | exact resL_nil | (apply resL_tmp; (· exact rfl)) | (apply resL_cell; (· exact rfl); (· exact rfl); (· exact rfl); (· exact rfl); (· exact rfl); (· exact rfl)) | (apply resL_arr; (· exact rfl); (· exact rfl); (· exact rfl); (· exact rfl); (· (first | assumption | exact rfl))) | exact Ren.sl _ _ _ _ | (apply ren_slE; (· first | exact rfl | omega); (· first | exact rfl | assumption | (simp [bA_length]; done) | (simp [bA_length]; omega)); (· first | exact rfl | assumption | (simp [bA_length]; done) | (simp [bA_length]; omega))) | exact Ren.ptr _ _ _ | exact renL_nil | apply renL_cons | (apply Ren.pure; exact PureC.out) | apply ren_agg | apply ren_tup | exact Low.sl _ _ _ _ (by decide) | exact Low.ptr _ _ _ (by decide) | exact lowL_nil | apply lowL_cons | (apply Low.pure; exact PureC.out) | apply low_agg | apply low_tup | exact pullB_nil | (apply pullB_pureE; (· exact rfl); (· first | exact rfl | assumption | (simp [bA]; done)); (· exact PureEC.out)) | (apply pullB_one; (· exact rfl)) | exact lowBs_nil | apply lowBs_cons | (apply PureB.low; exact PureEC.out) | apply lowX_one | exact lowX_nil | exact rfl))

theorem specTagged_cr (s : ByteArray) (d : List UInt8) (hs : s.size ≤ 255) (h : d.length ≤ 1000000000) (N : Nat) : CR Tryz.prog 160 [.str s, sl1 (bA d)] [] N (Is (.sl N 0 32 32) [(N, some ⟨bA (sha (tagL s ++ d)), 1, true, false⟩)] (N + 1)) :=
  CR.allN (specTagged_cr0 s d hs h) N (by first | exact PureC.out | exact PureLC.out | assumption) (by repeat' (first | exact Ren.sl _ _ _ _ | exact Ren.ptr _ _ _ | exact renL_nil | apply renL_cons | (apply Ren.pure; (first | exact PureC.out | exact PureLC.out | assumption)) | apply ren_agg | apply ren_tup)) (by repeat' (first | exact renBs_nil | (apply renBs_pure; (· exact rfl); (· (exact PureEC.out))) | (apply renBs_one; (· exact rfl)) | exact renL_nil | apply renL_cons | exact Ren.sl _ _ _ _ | exact Ren.ptr _ _ _ | (apply Ren.pure; (first | exact PureC.out | exact PureLC.out | assumption)) | apply ren_agg))

abbrev recS : ByteArray := ByteArray.mk #[114, 101, 99, 111, 114, 100]

def frameL (p : List UInt8) : List UInt8 := byteN p.length :: (p ++ (sha (tagL recS ++ p)).take 4)
end Go.Proofs.YtaolmfgpebncjaaGreat
