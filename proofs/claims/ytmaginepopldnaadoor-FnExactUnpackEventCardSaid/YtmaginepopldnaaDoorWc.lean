/- Records of a relayer; marks on bytes. -/
import Derived.Test.YtmaginepopldnaaDoorWb
set_option maxRecDepth 100000
set_option maxHeartbeats 3200000
set_option linter.unusedSimpArgs false
set_option linter.unusedVariables false
namespace Go.Proofs.YtmaginepopldnaaDoor
open Go.Av
attribute [local irreducible] T thenQ blockQ againQ againS WX retV retR Gt Gts GtsP okCells CV CR Av.Pure

abbrev bytesRes (c : Int) (bs : List UInt8) : AV := .agg [.int .i64 c, sl1 (bA bs)]

def recBytes (k n t : Int) : List UInt8 := byteOf k :: (putN n ++ if k = 2 then putN t else [])
def recCode (k n t : Int) : Int :=
  if ¬ (1 ≤ k ∧ k ≤ 3) then 1 else if ¬ (1 ≤ n ∧ n ≤ 1000000) ∨ ¬ (0 ≤ t ∧ t ≤ 1099511627776) then 3 else if t ≠ 0 ∧ k ≠ 2 then 1 else 0
def recOut (k n t : Int) : List UInt8 := if recCode k n t = 0 then recBytes k n t else []

def marksB (k : Int) (n : Nat) : List UInt8 := (List.range n).map fun i : Nat => byteOf (k + (i : Int))
theorem marksB_length (k : Int) (n : Nat) : (marksB k n).length = n := by simp [marksB]
theorem marksB_step (bs : List UInt8) (k : Int) {j : Nat} (h : j < bs.length) :
    (bA (marksB k j) ++ bA (bs.drop j)).set (0 + ((j : Int)).toNat) (.int .u8 ((byteOf (k + j)).toNat : Int)) = bA (marksB k (j + 1)) ++ bA (bs.drop (j + 1)) := by
  rw [Nat.zero_add, Int.toNat_natCast]
  have hl : (bA (marksB k j)).length = j := by rw [bA_length, marksB_length]
  rw [List.drop_eq_getElem_cons h]
  rw [show bA (bs[j] :: bs.drop (j + 1)) = .int .u8 ((bs[j]).toNat : Int) :: bA (bs.drop (j + 1)) from rfl]
  rw [List.set_append_right _ _ (by omega), hl, Nat.sub_self, List.set_cons_zero]
  rw [marksB, marksB, List.range_succ, List.map_append]
  simp [bA]

theorem markByteS_cr (bs : List UInt8) (k : Int) (sl : Bool) (hb : bs.length ≤ 1073741824) (h0 : 0 ≤ k) (h1 : k ≤ 1152921504606846976) :
    CR Tryd.prog 33 [.sl 0 0 bs.length bs.length, .int .i64 k] [(0, some ⟨bA bs, 1, sl, false⟩)] 1 (Is (.int .i64 (k + bs.length)) [(0, some ⟨bA (marksB k bs.length), 1, sl, false⟩)] 1) := by
  refine CR_introU tyOk Tryd.func33 (by kernel_rfl) rfl 20 rfl (by simp) [.tmp 4] rfl ?_
  intro w0 ok0 wr φ0
  repeat' (first | refine T_seq ?_ | refine N_then ?_ | refine T_regX tyOk ?_ | refine S_nil ?_ | refine T_block ?_ | apply S_assign | exact gt_any rfl | exact rfl | fail)
  refine T_roundsS (α := Nat) (fun j => ⟨[(0, .sl 0 0 bs.length bs.length), (1, .int .i64 (k + j)), (5, .int .i64 j)], [(0, some ⟨bA (marksB k j) ++ bA (bs.drop j), 1, sl, false⟩)], 1⟩)
    (fun j => bs.length - j) (fun j => j ≤ bs.length) 0 (weak_of (keepE_cons rfl (keepE_cons (by rw [Int.natCast_zero, Int.add_zero]; rfl) (keepE_cons rfl keepE_nil))) (keepB_cons rfl keepB_nil) (Nat.le_refl _)).sub (by omega) ?_
  intro j hj
  by_cases hjl : j < bs.length
  · have hc : decide ((j : Int) < (bs.length : Int)) = true := by simp only [decide_eq_true_eq]; omega
    have hw := wrap_byte (k + j)
    have hset := marksB_step bs k hjl
    have hin : 0 + ((j : Int)).toNat < (bA (marksB k j) ++ bA (bs.drop j)).length := by simp [bA_length, marksB_length]; omega
    have hk : IntKind.wrap .i64 (k + (j : Int) + 1) = k + ((j + 1 : Nat) : Int) := by rw [wrap_i64 (by omega) (by omega)]; omega
    repeat' (first | refine T_seq ?_ | refine N_then ?_ | refine N_block ?_ | refine T_regX tyOk ?_ | refine S_nil ?_ | refine T_skip ?_ | refine T_block ?_ | (apply T_ifT; (· exact rfl); (· (first | assumption | exact rfl))) | apply S_move | apply S_assign | apply S_lss | apply S_add | (apply S_conv; (· exact rfl); (· exact rfl); (· exact gt_any rfl)) | (apply S_len_sl; (· exact rfl); (· exact gt_any rfl)) | (apply S_idxSl; (· exact rfl); (· exact rfl); (· exact gt_any rfl); (· exact rfl); (· exact gt_any rfl)) | (apply S_storeE; (· exact rfl); (· exact gt_any rfl); (· exact rfl); (· exact rfl); (· exact rfl)) | exact gt_any rfl | exact okCells_of rfl rfl | assumption | (apply wrap_i64; (· omega); (· omega)) | (refine ⟨?_, ?_⟩ <;> omega) | exact rfl | fail)
    exact N_againS (j + 1) ((weak_of (by repeat' (first | exact keepE_nil | refine keepE_cons rfl ?_)) (by repeat' (first | exact keepB_nil | refine keepB_cons (by first | rfl | exact congrArg (fun l => some (Box.mk l _ _ _)) hset) ?_)) (Nat.le_refl _))).sub (by omega) (by omega)
  · have hc : decide ((j : Int) < (bs.length : Int)) = false := by simp only [decide_eq_false_iff_not]; omega
    obtain rfl : j = bs.length := by omega
    have he : bA (marksB k bs.length) ++ bA (bs.drop bs.length) = bA (marksB k bs.length) := by rw [List.drop_length]; exact List.append_nil _
    repeat' (first | refine T_seq ?_ | refine N_then ?_ | refine N_thenE ?_ | refine N_blockE ?_ | refine N_againSE ?_ | refine T_regX tyOk ?_ | refine S_nil ?_ | refine T_ret ?_ | refine T_exit ?_ | (apply T_ifF; (· exact rfl); (· (first | assumption | exact rfl))) | apply S_move | apply S_assign | apply S_lss | (apply S_len_sl; (· exact rfl); (· exact gt_any rfl)) | exact gt_any rfl | exact rfl | fail)
    rw [he]
    (apply E_U0 [(0, 0)] <;> repeat' (first | exact resL_nil | (apply resL_tmp; (· exact rfl)) | (apply resL_cell; (· exact rfl); (· exact rfl); (· exact rfl); (· exact rfl); (· exact rfl); (· exact rfl)) | (apply resL_arr; (· exact rfl); (· exact rfl); (· exact rfl); (· exact rfl); (· (first | assumption | exact rfl))) | exact Ren.sl _ _ _ _ | (apply ren_slE; (· first | exact rfl | omega); (· first | exact rfl | assumption | (simp [bA_length]; done) | (simp [bA_length]; omega)); (· first | exact rfl | assumption | (simp [bA_length]; done) | (simp [bA_length]; omega))) | exact Ren.ptr _ _ _ | exact renL_nil | apply renL_cons | (apply Ren.pure; exact PureC.out) | apply ren_agg | apply ren_tup | exact Low.sl _ _ _ _ (by decide) | exact Low.ptr _ _ _ (by decide) | exact lowL_nil | apply lowL_cons | (apply Low.pure; exact PureC.out) | apply low_agg | apply low_tup | exact pullB_nil | (apply pullB_pureE; (· exact rfl); (· first | exact rfl | assumption | (simp [bA]; done)); (· exact PureEC.out)) | (apply pullB_one; (· exact rfl)) | exact lowBs_nil | apply lowBs_cons | (apply PureB.low; exact PureEC.out) | apply lowX_one | exact lowX_nil | exact rfl))

theorem marksB_getD (k : Int) (n : Nat) {j : Nat} (h : j < n) : (marksB k n).getD j 0 = byteOf (k + j) := by
  simp [marksB, List.getD_eq_getElem?_getD, h]

theorem heldByteS_cv (n : Nat) (k : Int) (hn : n ≤ 1073741824) (h0 : 0 ≤ k) (h1 : k ≤ 1152921504606846976) : CV Tryd.prog 34 [sl1 (bA (marksB k n)), .int .i64 k] (· = .int .i64 (k + n)) := by
  refine CV_intro tyOk Tryd.func34 (by kernel_rfl) rfl 22 rfl (by simp) [.tmp 4] rfl ?_
  intro w0 ok0
  have hl : (bA (marksB k n)).length = n := by rw [bA_length, marksB_length]
  repeat' (first | refine T_seq ?_ | refine N_then ?_ | refine T_regX tyOk ?_ | refine S_nil ?_ | refine T_block ?_ | apply S_assign | exact gt_any rfl | exact rfl | fail)
  refine T_roundsS (α := Nat) (fun j => ⟨[(0, sl1 (bA (marksB k n))), (1, .int .i64 (k + j)), (5, .int .i64 j)], [], 0⟩)
    (fun j => n - j) (fun j => j ≤ n) 0 (weak_of (keepE_cons rfl (keepE_cons (by rw [Int.natCast_zero, Int.add_zero]; rfl) (keepE_cons rfl keepE_nil))) keepB_nil (Nat.le_refl _)).sub (by omega) ?_
  intro j hj
  by_cases hjl : j < n
  · have hc : decide ((j : Int) < ((bA (marksB k n)).length : Int)) = true := by simp only [decide_eq_true_eq]; omega
    have hw := wrap_byte (k + j)
    have hget : (bA (marksB k n)).getD ((j : Int)).toNat .undef = .int .u8 ((byteOf (k + j)).toNat : Int) := by
      rw [bA_getD _ (by rw [marksB_length]; exact hjl), marksB_getD k n hjl]
    have hk : IntKind.wrap .i64 (k + (j : Int) + 1) = k + ((j + 1 : Nat) : Int) := by rw [wrap_i64 (by omega) (by omega)]; omega
    have hd : (!decide (((byteOf (k + j)).toNat : Int) = ((byteOf (k + j)).toNat : Int))) = false := by simp
    repeat' (first | refine T_seq ?_ | refine N_then ?_ | refine N_block ?_ | refine T_regX tyOk ?_ | refine S_nil ?_ | refine T_skip ?_ | refine T_block ?_ | (apply T_ifT; (· exact rfl); (· (first | assumption | exact rfl))) | (apply T_ifF; (· exact rfl); (· (first | assumption | exact rfl))) | apply S_move | apply S_assign | (apply S_loadV; (· exact rfl); (· exact gt_any rfl); (· exact rfl); (· (first | exact ⟨rfl, rfl⟩ | exact ⟨rfl, trivial⟩ | assumption))) | apply S_lss | (apply S_neq; (· exact gt_any rfl); (· exact gt_any rfl)) | apply S_add | (apply S_conv; (· exact rfl); (· exact rfl); (· exact gt_any rfl)) | (apply S_len_ls; (· exact rfl); (· exact gt_any rfl)) | (apply S_idxLs; (· exact rfl); (· exact rfl); (· exact gt_any rfl); (· exact gt_any rfl)) | exact gt_any rfl | assumption | (apply wrap_i64; (· omega); (· omega)) | (refine ⟨?_, ?_⟩ <;> omega) | exact rfl | fail)
    exact N_againS (j + 1) ((weak_of (by repeat' (first | exact keepE_nil | refine keepE_cons rfl ?_)) (by repeat' (first | exact keepB_nil | refine keepB_cons (by first | rfl | exact congrArg (fun l => some (Box.mk l _ _ _)) hset) ?_)) (Nat.le_refl _))).sub (by omega) (by omega)
  · have hc : decide ((j : Int) < ((bA (marksB k n)).length : Int)) = false := by simp only [decide_eq_false_iff_not]; omega
    obtain rfl : j = n := by omega
    repeat' (first | refine T_seq ?_ | refine N_then ?_ | refine N_thenE ?_ | refine N_blockE ?_ | refine N_againSE ?_ | refine T_regX tyOk ?_ | refine S_nil ?_ | refine T_ret ?_ | refine T_exit ?_ | (apply E_tmp; (· exact rfl); (· (repeat' (first | exact pure_int _ _ | exact pure_bool _ | exact pure_str _); done))) | (apply T_ifF; (· exact rfl); (· (first | assumption | exact rfl))) | apply S_move | apply S_assign | apply S_lss | (apply S_len_ls; (· exact rfl); (· exact gt_any rfl)) | exact gt_any rfl | exact rfl | fail)

theorem eqBytesResult_cv (c c' : Int) (bs bs' : List UInt8) (h : bs.length ≤ 4611686018427387904) : CV Tryd.prog 13 [bytesRes c bs, bytesRes c' bs'] (· = .bool (decide (c = c') && decide (bs = bs'))) := by
  refine CV_intro tyOk Tryd.func13 (by kernel_rfl) rfl 16 rfl (by simp) [.tmp 4] rfl ?_
  intro w0 ok0
  have c0 := eqByteS_cv bs bs' h
  repeat' (first | refine T_seq ?_ | refine N_then ?_ | refine N_thenR ?_ | refine T_regX tyOk ?_ | refine S_nil ?_ | refine T_skip ?_ | refine T_ret ?_ | (apply E_tmp; (· exact rfl); (· (repeat' (first | exact pure_int _ _ | exact pure_bool _ | exact pure_str _); done))) | refine T_if rfl (fun _ => ?_) (fun _ => ?_) | apply S_assign | (apply S_loadP; (· exact rfl); (· exact gt_any rfl); (· exact rfl); (· exact rfl); (· exact rfl); (· (first | exact ⟨rfl, rfl⟩ | exact ⟨rfl, trivial⟩ | assumption))) | (apply S_fieldP; (· exact rfl); (· exact rfl); (· exact rfl); (· exact rfl); (· exact gt_any rfl)) | (apply S_neq; (· exact gt_any rfl); (· exact gt_any rfl)) | apply S_not | apply S_box | apply S_call (f := 20) | apply c0 | exact PureLC.out | exact gt_any rfl | exact gts_nil | (apply gts_cons; (· exact gt_any rfl)) | exact okCells_of rfl rfl | exact rfl | fail)
  all_goals (first | rfl | (simp_all; done) | (simp_all; omega))

theorem markByteS_at (bs : List UInt8) (k : Int) (sl : Bool) (hb : bs.length ≤ 1073741824) (h0 : 0 ≤ k) (h1 : k ≤ 1152921504606846976) (id N : Nat) (hid : id < N) :
    CR Tryd.prog 33 [.sl id 0 bs.length bs.length, .int .i64 k] [(id, some ⟨bA bs, 1, sl, false⟩)] N (Is (.int .i64 (k + bs.length)) [(id, some ⟨bA (marksB k bs.length), 1, sl, false⟩)] N) :=
  (CR.toI (markByteS_cr bs k sl hb h0 h1) [id] rfl (by simp [*] <;> omega) _ (by simp [*] <;> omega) (by repeat' (first | exact Ren.sl _ _ _ _ | exact Ren.ptr _ _ _ | exact renL_nil | apply renL_cons | (apply Ren.pure; exact PureC.out) | apply ren_agg | apply ren_tup | exact renBs_nil | (apply renBs_pure; (· exact rfl); (· exact PureEC.out)) | (apply renBs_one; (· exact rfl)))) (by repeat' (first | exact Ren.sl _ _ _ _ | exact Ren.ptr _ _ _ | exact renL_nil | apply renL_cons | (apply Ren.pure; exact PureC.out) | apply ren_agg | apply ren_tup | exact renBs_nil | (apply renBs_pure; (· exact rfl); (· exact PureEC.out)) | (apply renBs_one; (· exact rfl)))) (by omega) (by repeat' (first | exact Ren.sl _ _ _ _ | exact Ren.ptr _ _ _ | exact renL_nil | apply renL_cons | (apply Ren.pure; exact PureC.out) | apply ren_agg | apply ren_tup | exact renBs_nil | (apply renBs_pure; (· exact rfl); (· exact PureEC.out)) | (apply renBs_one; (· exact rfl)))) (by repeat' (first | exact Ren.sl _ _ _ _ | exact Ren.ptr _ _ _ | exact renL_nil | apply renL_cons | (apply Ren.pure; exact PureC.out) | apply ren_agg | apply ren_tup | exact renBs_nil | (apply renBs_pure; (· exact rfl); (· exact PureEC.out)) | (apply renBs_one; (· exact rfl)))))

theorem markBytesResult_cr (c : Int) (bs : List UInt8) (k : Int) (hb : bs.length ≤ 1073741824) (h0 : 0 ≤ k) (h1 : k ≤ 1152921504606846976) :
    CR Tryd.prog 14 [.agg [.int .i64 c, .sl 0 0 bs.length bs.length], .int .i64 k] [(0, some ⟨bA bs, 1, true, false⟩)] 1 (Is (.int .i64 (k + bs.length)) [(0, some ⟨bA (marksB k bs.length), 1, true, false⟩)] 1) := by
  refine CR_introU tyOk Tryd.func14 (by kernel_rfl) rfl 10 rfl (by simp) [.tmp 4] rfl ?_
  intro w0 ok0 wr φ0
  have c0 := fun (id N : Nat) (hid : id < N) => markByteS_at bs k true hb h0 h1 id N hid
  repeat' (first | refine T_seq ?_ | refine N_then ?_ | refine T_regX tyOk ?_ | refine S_nil ?_ | refine T_ret ?_ | apply S_move | apply S_assign | (apply S_loadP; (· exact rfl); (· exact gt_any rfl); (· exact rfl); (· exact rfl); (· exact rfl); (· (first | exact ⟨rfl, rfl⟩ | exact ⟨rfl, trivial⟩ | assumption))) | (apply S_fieldP; (· exact rfl); (· exact rfl); (· exact rfl); (· exact rfl); (· exact gt_any rfl)) | apply S_box | (apply S_callL ([0]) (f := 33); (· repeat' (first | exact gts_nil | exact gt_any rfl | apply gts_cons)); (· exact rfl); (· (apply c0) <;> first | assumption | decide | omega)) | exact gt_any rfl | exact okCells_of rfl rfl | exact rfl | fail)
  (apply E_U0 [(0, 0)] <;> repeat' (first | exact resL_nil | (apply resL_tmp; (· exact rfl)) | (apply resL_cell; (· exact rfl); (· exact rfl); (· exact rfl); (· exact rfl); (· exact rfl); (· exact rfl)) | (apply resL_arr; (· exact rfl); (· exact rfl); (· exact rfl); (· exact rfl); (· (first | assumption | exact rfl))) | exact Ren.sl _ _ _ _ | (apply ren_slE; (· first | exact rfl | omega); (· first | exact rfl | assumption | (simp [bA_length]; done) | (simp [bA_length]; omega)); (· first | exact rfl | assumption | (simp [bA_length]; done) | (simp [bA_length]; omega))) | exact Ren.ptr _ _ _ | exact renL_nil | apply renL_cons | (apply Ren.pure; exact PureC.out) | apply ren_agg | apply ren_tup | exact Low.sl _ _ _ _ (by decide) | exact Low.ptr _ _ _ (by decide) | exact lowL_nil | apply lowL_cons | (apply Low.pure; exact PureC.out) | apply low_agg | apply low_tup | exact pullB_nil | (apply pullB_pureE; (· exact rfl); (· first | exact rfl | assumption | (simp [bA]; done)); (· exact PureEC.out)) | (apply pullB_one; (· exact rfl)) | exact lowBs_nil | apply lowBs_cons | (apply PureB.low; exact PureEC.out) | apply lowX_one | exact lowX_nil | exact rfl))

theorem markBytesResult_at (c : Int) (bs : List UInt8) (k : Int) (hb : bs.length ≤ 1073741824) (h0 : 0 ≤ k) (h1 : k ≤ 1152921504606846976) (id N : Nat) (hid : id < N) :
    CR Tryd.prog 14 [.agg [.int .i64 c, .sl id 0 bs.length bs.length], .int .i64 k] [(id, some ⟨bA bs, 1, true, false⟩)] N (Is (.int .i64 (k + bs.length)) [(id, some ⟨bA (marksB k bs.length), 1, true, false⟩)] N) :=
  (CR.toI (markBytesResult_cr c bs k hb h0 h1) [id] rfl (by simp [*] <;> omega) _ (by simp [*] <;> omega) (by repeat' (first | exact Ren.sl _ _ _ _ | exact Ren.ptr _ _ _ | exact renL_nil | apply renL_cons | (apply Ren.pure; exact PureC.out) | apply ren_agg | apply ren_tup | exact renBs_nil | (apply renBs_pure; (· exact rfl); (· exact PureEC.out)) | (apply renBs_one; (· exact rfl)))) (by repeat' (first | exact Ren.sl _ _ _ _ | exact Ren.ptr _ _ _ | exact renL_nil | apply renL_cons | (apply Ren.pure; exact PureC.out) | apply ren_agg | apply ren_tup | exact renBs_nil | (apply renBs_pure; (· exact rfl); (· exact PureEC.out)) | (apply renBs_one; (· exact rfl)))) (by omega) (by repeat' (first | exact Ren.sl _ _ _ _ | exact Ren.ptr _ _ _ | exact renL_nil | apply renL_cons | (apply Ren.pure; exact PureC.out) | apply ren_agg | apply ren_tup | exact renBs_nil | (apply renBs_pure; (· exact rfl); (· exact PureEC.out)) | (apply renBs_one; (· exact rfl)))) (by repeat' (first | exact Ren.sl _ _ _ _ | exact Ren.ptr _ _ _ | exact renL_nil | apply renL_cons | (apply Ren.pure; exact PureC.out) | apply ren_agg | apply ren_tup | exact renBs_nil | (apply renBs_pure; (· exact rfl); (· exact PureEC.out)) | (apply renBs_one; (· exact rfl)))))

theorem heldBytesResult_cv (c : Int) (n : Nat) (k : Int) (hn : n ≤ 1073741824) (h0 : 0 ≤ k) (h1 : k ≤ 1152921504606846976) : CV Tryd.prog 15 [bytesRes c (marksB k n), .int .i64 k] (· = .int .i64 (k + n)) := by
  refine CV_intro tyOk Tryd.func15 (by kernel_rfl) rfl 12 rfl (by simp) [.tmp 4] rfl ?_
  intro w0 ok0
  have hc : decide (k + (n : Int) < 0) = false := by simp; omega
  repeat' (first | refine T_seq ?_ | refine N_then ?_ | refine T_regX tyOk ?_ | refine S_nil ?_ | refine T_skip ?_ | refine T_ret ?_ | (apply E_tmp; (· exact rfl); (· (repeat' (first | exact pure_int _ _ | exact pure_bool _ | exact pure_str _); done))) | (apply T_ifF; (· exact rfl); (· (first | assumption | exact rfl))) | apply S_move | apply S_assign | (apply S_loadP; (· exact rfl); (· exact gt_any rfl); (· exact rfl); (· exact rfl); (· exact rfl); (· (first | exact ⟨rfl, rfl⟩ | exact ⟨rfl, trivial⟩ | assumption))) | (apply S_fieldP; (· exact rfl); (· exact rfl); (· exact rfl); (· exact rfl); (· exact gt_any rfl)) | apply S_lss | apply S_box | apply S_callQ (f := 34) | apply heldByteS_cv | exact viewL_nil | apply viewL_cons | (apply View.pure; exact PureC.out) | exact FlatC.out | exact gt_any rfl | exact gts_nil | (apply gts_cons; (· exact gt_any rfl)) | exact okCells_of rfl rfl | assumption | exact rfl | fail)

end Go.Proofs.YtmaginepopldnaaDoor
