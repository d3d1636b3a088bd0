/- Bytes that are drawn. -/
import Derived.Test.YthfikpgbddpmoaaYa
set_option maxRecDepth 100000
set_option maxHeartbeats 3200000
set_option linter.unusedSimpArgs false
set_option linter.unusedVariables false
namespace Go.Proofs.Ythfikpgbddpmoaa
open Go.Av
attribute [local irreducible] T thenQ blockQ againQ againS WX retV retR Gt Gts GtsP okCells CV CR Av.Pure
attribute [local irreducible] nextV

theorem byteOf_wrap (n : Int) : IntKind.wrap .u8 n = ((byteOf n).toNat : Int) := wrap_byte n

/-- So many bytes, drawn behind k draws. -/
def someV (code : List UInt8) (k : Nat) : Nat → List UInt8
  | 0 => []
  | j + 1 => someV code k j ++ [byteOf (nextV code (k + j) 256)]
theorem someV_length (code : List UInt8) (k : Nat) : ∀ j, (someV code k j).length = j
  | 0 => rfl
  | j + 1 => by rw [someV, List.length_append, someV_length code k j]; rfl

theorem l1Some_cr (code : List UInt8) (k : Nat) (n : Int) (hk : k ≤ 900000000) (hc : code.length ≤ 1073741824) (hn : n ≤ 1000000) :
    CR Try.prog 120 [.ptr 0 0 0, .int .i64 n] [(0, boxS code k)] 1 (Is (.sl 1 0 n.toNat n.toNat) [(0, boxS code (k + n.toNat)), (1, some ⟨bA (someV code k n.toNat), 1, true, false⟩)] 2) := by
  refine CR_introU tyOk Try.func120 (by kernel_rfl) rfl 18 rfl (by simp) [.tmp 4] rfl ?_
  intro w0 ok0 wr φ0
  repeat' (first | refine T_seq ?_ | refine N_then ?_ | refine T_regX tyOk ?_ | refine S_nil ?_ | refine T_block ?_ | apply S_assign | (apply S_buildL tyOk; (· exact rfl); (· exact rfl); (· exact rfl)) | (dsimp only; omega) | exact gtsI_nil | exact elts_nil | exact gt_any rfl | exact rfl | fail)
  refine T_roundsS (α := Nat) (fun j => ⟨[(0, .ptr 0 0 0), (1, .int .i64 (n - j)), (5, .sl 1 0 j j)], [(0, boxS code (k + j)), (1, some ⟨bA (someV code k j), 1, true, false⟩)], 2⟩)
    (fun j => n.toNat - j) (fun j => j ≤ n.toNat) 0 ?_ (by omega) ?_
  · rw [show n - ((0 : Nat) : Int) = n by omega]
    exact ((weak_of (by repeat' (first | exact keepE_nil | refine keepE_cons rfl ?_)) (by repeat' (first | exact keepB_nil | refine keepB_cons (by first | rfl | exact congrArg (fun l => some (Box.mk l _ _ _)) hset) ?_)) (Nat.le_refl _))).sub
  intro j hj
  have hsl := someV_length code k j
  have hbl : (bA (someV code k j)).length = j := by rw [bA_length, hsl]
  by_cases h : j < n.toNat
  · have c1 : decide ((0 : Int) < n - (j : Int)) = true := decide_eq_true (by omega)
    have c0 := fun (id N : Nat) (hid : id < N) => l1Next_at code (k + j) 256 (by omega) hc id N hid
    have w1 := byteOf_wrap (nextV code (k + j) 256)
    have w2 : IntKind.wrap .i64 (n - (j : Int) - 1) = n - ((j + 1 : Nat) : Int) := by rw [wrap_i64 (by omega) (by omega)]; omega
    have hset : bA (someV code k j) ++ [.int .u8 ((byteOf (nextV code (k + j) 256)).toNat : Int)] = bA (someV code k (j + 1)) := by rw [someV]; simp [bA]
    repeat' (first | refine T_seq ?_ | refine N_then ?_ | refine N_block ?_ | refine T_regX tyOk ?_ | refine S_nil ?_ | refine T_skip ?_ | refine T_block ?_ | (apply T_ifT; (· exact rfl); (· (first | assumption | exact rfl))) | apply S_move | apply S_assign | apply S_gtr | apply S_sub | (apply S_conv; (· exact rfl); (· exact rfl); (· exact gt_any rfl)) | (apply M_appB; (· exact rfl); (· exact rfl); (· exact gt_any rfl)) | (apply S_buildL tyOk; (· exact rfl); (· exact rfl); (· exact rfl)) | (apply S_callL ([0]) (f := 85); (· repeat' (first | exact gts_nil | exact gt_any rfl | apply gts_cons)); (· exact rfl); (· (apply c0) <;> first | assumption | decide | omega)) | (apply mlen; first | exact rfl | assumption | exact Nat.le_of_ble_eq_true rfl | omega | (simp [bA_length]; done) | (simp [bA_length]; omega)) | (apply msz; first | assumption | exact Nat.le_of_ble_eq_true rfl | (dsimp only; simp only [List.length_append, List.length_map, List.length_cons, List.length_nil, bA_length, List.length_take, List.length_drop, List.length_replicate] at *; omega) | (dsimp only; omega)) | (apply mnorm; first | with_reducible exact app_nil0 _ | exact app_norm _ _ | exact rfl) | (apply mtake; first | assumption | exact take_full (by first | rfl | (simp; done)) | exact rfl) | (apply src_sl; (· exact rfl); (· exact rfl); (· exact rfl)) | (dsimp only; omega) | exact gtsI_nil | (apply gtsI_cons; (· exact gt_any rfl)) | exact elts_nil | apply elts_cons | (intro hu; cases hu; done) | exact gt_any rfl | exact okCells_of rfl rfl | assumption | exact rfl | fail)
    exact N_againS (j + 1) (sub_names [(0, 0), (1, 3)] (k0 := 1) rfl (by rfl) (by repeat' (first | exact pullE_nil | (apply pullE_cons; (· exact rfl)) | exact Ren.sl _ _ _ _ | (apply ren_slE; (· first | exact rfl | omega); (· first | exact rfl | assumption | (simp [bA_length]; done) | (simp [bA_length]; omega)); (· first | exact rfl | assumption | (simp [bA_length]; done) | (simp [bA_length]; omega))) | exact Ren.ptr _ _ _ | (apply Ren.pure; (first | exact PureC.out | exact PureLC.out | assumption)) | exact renL_nil | apply renL_cons | apply ren_agg | apply ren_tup)) (by repeat' (first | exact pullB_nil | (apply pullB_pure; (· first | exact rfl | exact congrArg (fun l => some (Box.mk l _ _ _)) hset); (· (exact PureEC.out))) | (apply pullB_one; (· exact rfl)) | exact renL_nil | apply renL_cons | exact Ren.sl _ _ _ _ | exact Ren.ptr _ _ _ | (apply Ren.pure; (first | exact PureC.out | exact PureLC.out | assumption)) | apply ren_agg)) (by repeat' (first | exact lowE_nil | apply lowE_cons | exact Low.sl _ _ _ _ (by decide) | exact Low.ptr _ _ _ (by decide) | (apply Low.pure; (first | exact PureC.out | exact PureLC.out | assumption)) | exact lowL_nil | apply lowL_cons | apply low_agg | apply low_tup)) (by repeat' (first | exact lowBs_nil | apply lowBs_cons | (apply PureB.low; (exact PureEC.out)) | apply lowX_one | exact lowX_nil | exact lowL_nil | apply lowL_cons | exact Low.sl _ _ _ _ (by decide) | exact Low.ptr _ _ _ (by decide) | (apply Low.pure; (first | exact PureC.out | exact PureLC.out | assumption))))) (by omega) (by omega)
  · have c1 : decide ((0 : Int) < n - (j : Int)) = false := decide_eq_false (by omega)
    obtain rfl : j = n.toNat := by omega
    repeat' (first | refine T_seq ?_ | refine N_then ?_ | refine N_thenE ?_ | refine N_blockE ?_ | refine N_againSE ?_ | refine T_regX tyOk ?_ | refine S_nil ?_ | refine T_ret ?_ | refine T_exit ?_ | (apply T_ifF; (· exact rfl); (· (first | assumption | exact rfl))) | apply S_move | apply S_assign | apply S_gtr | exact gt_any rfl | exact rfl | fail)
    (apply E_U0 [(0, 0), (1, 1)] <;> repeat' (first | exact resL_nil | (apply resL_tmp; (· exact rfl)) | (apply resL_cell; (· exact rfl); (· exact rfl); (· exact rfl); (· exact rfl); (· exact rfl); (· exact rfl)) | (apply resL_arr; (· exact rfl); (· exact rfl); (· exact rfl); (· exact rfl); (· (first | assumption | exact rfl))) | exact Ren.sl _ _ _ _ | (apply ren_slE; (· first | exact rfl | omega); (· first | exact rfl | assumption | (simp [bA_length]; done) | (simp [bA_length]; omega)); (· first | exact rfl | assumption | (simp [bA_length]; done) | (simp [bA_length]; omega))) | exact Ren.ptr _ _ _ | exact renL_nil | apply renL_cons | (apply Ren.pure; exact PureC.out) | apply ren_agg | apply ren_tup | exact Low.sl _ _ _ _ (by decide) | exact Low.ptr _ _ _ (by decide) | exact lowL_nil | apply lowL_cons | (apply Low.pure; exact PureC.out) | apply low_agg | apply low_tup | exact pullB_nil | (apply pullB_pureE; (· exact rfl); (· first | exact rfl | assumption | (simp [bA]; done)); (· exact PureEC.out)) | (apply pullB_one; (· exact rfl)) | exact lowBs_nil | apply lowBs_cons | (apply PureB.low; exact PureEC.out) | apply lowX_one | exact lowX_nil | exact rfl))

theorem l1Some_at (code : List UInt8) (k : Nat) (n : Int) (hk : k ≤ 900000000) (hc : code.length ≤ 1073741824) (hn : n ≤ 1000000) (id N : Nat) (hid : id < N) :
    CR Try.prog 120 [.ptr id 0 0, .int .i64 n] [(id, boxS code k)] N (Is (.sl N 0 n.toNat n.toNat) [(id, boxS code (k + n.toNat)), (N, some ⟨bA (someV code k n.toNat), 1, true, false⟩)] (N + 1)) :=
  (CR.toI (l1Some_cr code k n hk hc hn) [id] rfl (by simp [*] <;> omega) _ (by simp [*] <;> omega) (by repeat' (first | exact Ren.sl _ _ _ _ | exact Ren.ptr _ _ _ | exact renL_nil | apply renL_cons | (apply Ren.pure; exact PureC.out) | apply ren_agg | apply ren_tup | exact renBs_nil | (apply renBs_pure; (· exact rfl); (· exact PureEC.out)) | (apply renBs_one; (· exact rfl)))) (by repeat' (first | exact Ren.sl _ _ _ _ | exact Ren.ptr _ _ _ | exact renL_nil | apply renL_cons | (apply Ren.pure; exact PureC.out) | apply ren_agg | apply ren_tup | exact renBs_nil | (apply renBs_pure; (· exact rfl); (· exact PureEC.out)) | (apply renBs_one; (· exact rfl)))) (by omega) (by repeat' (first | exact Ren.sl _ _ _ _ | exact Ren.ptr _ _ _ | exact renL_nil | apply renL_cons | (apply Ren.pure; exact PureC.out) | apply ren_agg | apply ren_tup | exact renBs_nil | (apply renBs_pure; (· exact rfl); (· exact PureEC.out)) | (apply renBs_one; (· exact rfl)))) (by repeat' (first | exact Ren.sl _ _ _ _ | exact Ren.ptr _ _ _ | exact renL_nil | apply renL_cons | (apply Ren.pure; exact PureC.out) | apply ren_agg | apply ren_tup | exact renBs_nil | (apply renBs_pure; (· exact rfl); (· exact PureEC.out)) | (apply renBs_one; (· exact rfl)))))

def payN (code : List UInt8) (k : Nat) : Int := pickV code (k + 2) [1 + nextV code k 9, 1 + nextV code (k + 1) 9, 60, 61, 0]
theorem payN_range (code : List UInt8) (k : Nat) : 0 ≤ payN code k ∧ payN code k ≤ 61 := by
  have h1 := nextV_range code k (n := 9) (by decide)
  have h2 := nextV_range code (k + 1) (n := 9) (by decide)
  have h3 := nextV_range code (k + 2) (n := 5) (by decide)
  unfold payN pickV
  have hl : (([1 + nextV code k 9, 1 + nextV code (k + 1) 9, 60, 61, 0] : List Int).length : Int) = 5 := rfl
  rw [hl]
  generalize hv : (nextV code (k + 2) 5).toNat = v
  have : v = 0 ∨ v = 1 ∨ v = 2 ∨ v = 3 ∨ v = 4 := by omega
  rcases this with rfl | rfl | rfl | rfl | rfl <;> simp <;> omega
def payV (code : List UInt8) (k : Nat) : List UInt8 := someV code (k + 3) (payN code k).toNat
theorem payV_length (code : List UInt8) (k : Nat) : (payV code k).length ≤ 61 := by
  have := payN_range code k
  unfold payV
  rw [someV_length]; omega

theorem l10Payload_cr (code : List UInt8) (k : Nat) (hk : k ≤ 800000000) (hc : code.length ≤ 1073741824) :
    CR Try.prog 76 [.ptr 0 0 0] [(0, boxS code k)] 1 (Is (.sl 1 0 (payV code k).length (payV code k).length) [(0, boxS code (k + 3 + (payN code k).toNat)), (1, some ⟨bA (payV code k), 1, true, false⟩)] 2) := by
  refine CR_introU tyOk Try.func76 (by kernel_rfl) rfl 14 rfl (by simp) [.tmp 2] rfl ?_
  intro w0 ok0 wr φ0
  have hp := payN_range code k
  have r1 := nextV_range code k (n := 9) (by decide)
  have r2 := nextV_range code (k + 1) (n := 9) (by decide)
  have w1 : IntKind.wrap .i64 (1 + nextV code k 9) = 1 + nextV code k 9 := wrap_i64 (by omega) (by omega)
  have w2 : IntKind.wrap .i64 (1 + nextV code (k + 1) 9) = 1 + nextV code (k + 1) 9 := wrap_i64 (by omega) (by omega)
  have c1 := fun (id N : Nat) (hid : id < N) => l1Next_at code k 9 (by omega) hc id N hid
  have c2 := fun (id N : Nat) (hid : id < N) => l1Next_at code (k + 1) 9 (by omega) hc id N hid
  have c3 := fun (id N : Nat) (hid : id < N) => l1Pick_at code (k + 2) [1 + nextV code k 9, 1 + nextV code (k + 1) 9, 60, 61, 0] false true (by omega) hc (by simp) (by simp) id N hid
  have c4 := fun (id N : Nat) (hid : id < N) => l1Some_at code (k + 3) (payN code k) (by omega) hc (by omega) id N hid
  have hl : (payV code k).length = (payN code k).toNat := by unfold payV; rw [someV_length]
  rw [hl]
  repeat' (first | refine T_seq ?_ | refine N_then ?_ | refine T_regX tyOk ?_ | refine S_nil ?_ | refine T_ret ?_ | apply S_move | apply S_assign | apply S_add | (apply S_buildV tyOk; (· exact rfl); (· exact rfl)) | (apply S_callL ([0]) (f := 85); (· repeat' (first | exact gts_nil | exact gt_any rfl | apply gts_cons)); (· exact rfl); (· (apply c1) <;> first | assumption | decide | omega)) | (apply S_callL ([0]) (f := 85); (· repeat' (first | exact gts_nil | exact gt_any rfl | apply gts_cons)); (· exact rfl); (· (apply c2) <;> first | assumption | decide | omega)) | (apply S_callL ([0]) (f := 84); (· repeat' (first | exact gts_nil | exact gt_any rfl | apply gts_cons)); (· exact rfl); (· (apply c3) <;> first | assumption | decide | omega)) | (apply S_callL ([0]) (f := 120); (· repeat' (first | exact gts_nil | exact gt_any rfl | apply gts_cons)); (· exact rfl); (· (apply c4) <;> first | assumption | decide | omega)) | exact gtsI_nil | (apply gtsI_cons; (· exact gt_any rfl)) | exact elts_nil | apply elts_cons | (intro hu; cases hu; done) | exact gt_any rfl | exact okCells_of rfl rfl | assumption | exact Nat.le_of_ble_eq_true rfl | exact rfl | fail)
  (apply E_U0 [(0, 0), (1, 1)] <;> repeat' (first | exact resL_nil | (apply resL_tmp; (· exact rfl)) | (apply resL_cell; (· exact rfl); (· exact rfl); (· exact rfl); (· exact rfl); (· exact rfl); (· exact rfl)) | (apply resL_arr; (· exact rfl); (· exact rfl); (· exact rfl); (· exact rfl); (· (first | assumption | exact rfl))) | exact Ren.sl _ _ _ _ | (apply ren_slE; (· first | exact rfl | omega); (· first | exact rfl | assumption | (simp [bA_length]; done) | (simp [bA_length]; omega)); (· first | exact rfl | assumption | (simp [bA_length]; done) | (simp [bA_length]; omega))) | exact Ren.ptr _ _ _ | exact renL_nil | apply renL_cons | (apply Ren.pure; exact PureC.out) | apply ren_agg | apply ren_tup | exact Low.sl _ _ _ _ (by decide) | exact Low.ptr _ _ _ (by decide) | exact lowL_nil | apply lowL_cons | (apply Low.pure; exact PureC.out) | apply low_agg | apply low_tup | exact pullB_nil | (apply pullB_pureE; (· exact rfl); (· first | exact rfl | assumption | (simp [bA]; done)); (· exact PureEC.out)) | (apply pullB_one; (· exact rfl)) | exact lowBs_nil | apply lowBs_cons | (apply PureB.low; exact PureEC.out) | apply lowX_one | exact lowX_nil | exact rfl))

theorem l10Payload_at (code : List UInt8) (k : Nat) (hk : k ≤ 800000000) (hc : code.length ≤ 1073741824) (id N : Nat) (hid : id < N) :
    CR Try.prog 76 [.ptr id 0 0] [(id, boxS code k)] N (Is (.sl N 0 (payV code k).length (payV code k).length) [(id, boxS code (k + 3 + (payN code k).toNat)), (N, some ⟨bA (payV code k), 1, true, false⟩)] (N + 1)) :=
  (CR.toI (l10Payload_cr code k hk hc) [id] rfl (by simp [*] <;> omega) _ (by simp [*] <;> omega) (by repeat' (first | exact Ren.sl _ _ _ _ | exact Ren.ptr _ _ _ | exact renL_nil | apply renL_cons | (apply Ren.pure; exact PureC.out) | apply ren_agg | apply ren_tup | exact renBs_nil | (apply renBs_pure; (· exact rfl); (· exact PureEC.out)) | (apply renBs_one; (· exact rfl)))) (by repeat' (first | exact Ren.sl _ _ _ _ | exact Ren.ptr _ _ _ | exact renL_nil | apply renL_cons | (apply Ren.pure; exact PureC.out) | apply ren_agg | apply ren_tup | exact renBs_nil | (apply renBs_pure; (· exact rfl); (· exact PureEC.out)) | (apply renBs_one; (· exact rfl)))) (by omega) (by repeat' (first | exact Ren.sl _ _ _ _ | exact Ren.ptr _ _ _ | exact renL_nil | apply renL_cons | (apply Ren.pure; exact PureC.out) | apply ren_agg | apply ren_tup | exact renBs_nil | (apply renBs_pure; (· exact rfl); (· exact PureEC.out)) | (apply renBs_one; (· exact rfl)))) (by repeat' (first | exact Ren.sl _ _ _ _ | exact Ren.ptr _ _ _ | exact renL_nil | apply renL_cons | (apply Ren.pure; exact PureC.out) | apply ren_agg | apply ren_tup | exact renBs_nil | (apply renBs_pure; (· exact rfl); (· exact PureEC.out)) | (apply renBs_one; (· exact rfl)))))

theorem drawFrame_cv (code : List UInt8) (hc : code.length ≤ 1073741824) : CV Try.prog 14 [sl1 (bA code)] (· = sl1 (bA (payV code 0))) := by
  refine CV_intro tyOk Try.func14 (by kernel_rfl) rfl 6 rfl (by simp) [.tmp 2] rfl ?_
  intro w0 ok0
  have hl := bA_length (payV code 0)
  have c0 := fun N => l1Source_cr code N
  have c1 := fun (id N : Nat) (hid : id < N) => l10Payload_at code 0 (by decide) hc id N hid
  repeat' (first | refine T_seq ?_ | refine N_then ?_ | refine T_regX tyOk ?_ | refine S_nil ?_ | refine T_ret ?_ | (apply E_X <;> repeat' (first | exact resL_nil | (apply resL_tmp; (· exact rfl)) | (apply resL_cell; (· exact rfl); (· exact rfl); (· exact rfl); (· exact rfl); (· exact rfl); (· exact rfl)) | (apply resL_arr; (· exact rfl); (· exact rfl); (· exact rfl); (· exact rfl); (· (first | assumption | exact rfl))) | exact viewL_nil | apply viewL_cons | apply view_nothingE | (apply view_slE; (· exact rfl); (· first | exact rfl | assumption | (simp [bA_length]; done) | (simp [bA_length]; omega) | omega); (· exact PureEC.out)) | (apply view_loose; (· exact PureEC.out)) | apply view_agg | apply view_tup | (apply View.ofEq; (· exact PureC.out)) | exact rfl)) | apply S_move | apply S_assign | (apply S_callL ([]) (f := 77); (· repeat' (first | exact gts_nil | exact gt_any rfl | apply gts_cons)); (· exact rfl); (· (apply c0) <;> first | assumption | decide | omega)) | (apply S_callL ([0]) (f := 76); (· repeat' (first | exact gts_nil | exact gt_any rfl | apply gts_cons)); (· exact rfl); (· (apply c1) <;> first | assumption | decide | omega)) | exact gt_any rfl | exact rfl | fail)

end Go.Proofs.Ythfikpgbddpmoaa
