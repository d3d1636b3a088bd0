/- Rows in boxes of their own: laid, marked, told. -/
import Derived.Test.YtaolmfgpebncjaaGreatRa
import Derived.Test.YtaolmfgpebncjaaGreatGj
import Derived.Test.YtaolmfgpebncjaaGreatGk
set_option maxRecDepth 100000
set_option maxHeartbeats 3200000
set_option linter.unusedSimpArgs false
set_option linter.unusedVariables false
namespace Go.Proofs.YtaolmfgpebncjaaGreat
open Go.Av
attribute [local irreducible] T thenQ blockQ againQ againS WX retV retR Gt Gts GtsP okCells CV CR Av.Pure

def putB (D : List UInt8) (off n : Nat) (k : Int) : List UInt8 := D.take off ++ marksB k n ++ D.drop (off + n)
theorem putB_length {D : List UInt8} {off n : Nat} {k : Int} (h : off + n ≤ D.length) : (putB D off n k).length = D.length := by
  simp only [putB, List.length_append, List.length_take, List.length_drop, marksB_length]; omega
theorem putB_zero (D : List UInt8) (off : Nat) (k : Int) : putB D off 0 k = D := by simp [putB, marksB]
theorem marksB_add (k : Int) (a : Nat) : ∀ b, marksB k (a + b) = marksB k a ++ marksB (k + a) b := by
  intro b
  unfold marksB
  rw [List.range_add, List.map_append, List.map_map]
  congr 1
  refine List.map_congr_left fun i _ => ?_
  simp only [Function.comp_apply]
  congr 1
  omega
theorem putB_step {D : List UInt8} {off n : Nat} (k : Int) {j : Nat} (h : j < n) (hf : off + n ≤ D.length) :
    (bA (putB D off j k)).set (off + ((j : Int)).toNat) (.int .u8 ((byteOf (k + j)).toNat : Int)) = bA (putB D off (j + 1) k) := by
  rw [Int.toNat_natCast]
  have h1 : (D.take off ++ marksB k j).length = off + j := by rw [List.length_append, List.length_take, marksB_length]; omega
  have h2 : D.drop (off + j) = D[off + j] :: D.drop (off + (j + 1)) := List.drop_eq_getElem_cons (by omega)
  have h3 : marksB k (j + 1) = marksB k j ++ [byteOf (k + j)] := by rw [marksB_add]; simp [marksB]
  unfold putB
  rw [h2, h3]
  simp only [bA, List.map_append, List.map_cons, List.map_nil]
  rw [← List.map_append, List.set_append_right _ _ (by rw [List.length_map, h1]; omega), List.length_map, h1, Nat.sub_self, List.set_cons_zero]
  simp

theorem markPart_cr (D : List UInt8) (off n : Nat) (k : Int) (sl : Bool) (hf : off + n ≤ D.length) (hb : D.length ≤ 1073741824) (h0 : 0 ≤ k) (h1 : k ≤ 1152921504606846976) :
    CR Tryz.prog 62 [.sl 0 off n n, .int .i64 k] [(0, some ⟨bA D, 1, sl, false⟩)] 1 (Is (.int .i64 (k + n)) [(0, some ⟨bA (putB D off n k), 1, sl, false⟩)] 1) := by
  refine CR_introU tyOk Tryz.func62 (by kernel_rfl) rfl 20 rfl (by simp) [.tmp 4] rfl ?_
  intro w0 ok0 wr φ0
  repeat' (first | refine T_seq ?_ | refine N_then ?_ | refine T_regX tyOk ?_ | refine S_nil ?_ | refine T_block ?_ | apply S_assign | exact gt_any rfl | exact rfl | fail)
  refine T_roundsS (α := Nat) (fun j => ⟨[(0, .sl 0 off n n), (1, .int .i64 (k + j)), (5, .int .i64 j)], [(0, some ⟨bA (putB D off j k), 1, sl, false⟩)], 1⟩)
    (fun j => n - j) (fun j => j ≤ n) 0 ?_ (by omega) ?_
  · simp only [putB_zero, Int.natCast_zero, Int.add_zero]
    exact ((weak_of (by repeat' (first | exact keepE_nil | refine keepE_cons rfl ?_)) (by repeat' (first | exact keepB_nil | refine keepB_cons (by first | rfl | exact congrArg (fun l => some (Box.mk l _ _ _)) hset) ?_)) (Nat.le_refl _))).sub
  intro j hj
  by_cases hjl : j < n
  · have hc : decide ((j : Int) < (n : Int)) = true := by simp only [decide_eq_true_eq]; omega
    have hw := wrap_byte (k + j)
    have hset := putB_step k hjl hf
    have hin : off + ((j : Int)).toNat < (bA (putB D off j k)).length := by rw [bA_length, putB_length (by omega)]; omega
    have hk : IntKind.wrap .i64 (k + (j : Int) + 1) = k + ((j + 1 : Nat) : Int) := by rw [wrap_i64 (by omega) (by omega)]; omega
    repeat' (first | refine T_seq ?_ | refine N_then ?_ | refine N_block ?_ | refine T_regX tyOk ?_ | refine S_nil ?_ | refine T_skip ?_ | refine T_block ?_ | (apply T_ifT; (· exact rfl); (· (first | assumption | exact rfl))) | apply S_move | apply S_assign | apply S_lss | apply S_add | (apply S_conv; (· exact rfl); (· exact rfl); (· exact gt_any rfl)) | (apply S_len_sl; (· exact rfl); (· exact gt_any rfl)) | (apply S_idxSl; (· exact rfl); (· exact rfl); (· exact gt_any rfl); (· exact rfl); (· exact gt_any rfl)) | (apply S_storeE; (· exact rfl); (· exact gt_any rfl); (· exact rfl); (· exact rfl); (· exact rfl)) | exact gt_any rfl | exact okCells_of rfl rfl | assumption | (apply wrap_i64; (· omega); (· omega)) | (refine ⟨?_, ?_⟩ <;> omega) | exact rfl | fail)
    exact N_againS (j + 1) ((weak_of (by repeat' (first | exact keepE_nil | refine keepE_cons rfl ?_)) (by repeat' (first | exact keepB_nil | refine keepB_cons (by first | rfl | exact congrArg (fun l => some (Box.mk l _ _ _)) hset) ?_)) (Nat.le_refl _))).sub (by omega) (by omega)
  · have hc : decide ((j : Int) < (n : Int)) = false := by simp only [decide_eq_false_iff_not]; omega
    obtain rfl : j = n := by omega
    repeat' (first | refine T_seq ?_ | refine N_then ?_ | refine N_thenE ?_ | refine N_blockE ?_ | refine N_againSE ?_ | refine T_regX tyOk ?_ | refine S_nil ?_ | refine T_ret ?_ | refine T_exit ?_ | (apply T_ifF; (· exact rfl); (· (first | assumption | exact rfl))) | apply S_move | apply S_assign | apply S_lss | (apply S_len_sl; (· exact rfl); (· exact gt_any rfl)) | exact gt_any rfl | exact rfl | fail)
    (apply E_U0 [(0, 0)] <;> repeat' (first | exact resL_nil | (apply resL_tmp; (· exact rfl)) | (apply resL_cell; (· exact rfl); (· exact rfl); (· exact rfl); (· exact rfl); (· exact rfl); (· exact rfl)) | (apply resL_arr; (· exact rfl); (· exact rfl); (· exact rfl); (· exact rfl); (· (first | assumption | exact rfl))) | exact Ren.sl _ _ _ _ | (apply ren_slE; (· first | exact rfl | omega); (· first | exact rfl | assumption | (simp [bA_length]; done) | (simp [bA_length]; omega)); (· first | exact rfl | assumption | (simp [bA_length]; done) | (simp [bA_length]; omega))) | exact Ren.ptr _ _ _ | exact renL_nil | apply renL_cons | (apply Ren.pure; exact PureC.out) | apply ren_agg | apply ren_tup | exact Low.sl _ _ _ _ (by decide) | exact Low.ptr _ _ _ (by decide) | exact lowL_nil | apply lowL_cons | (apply Low.pure; exact PureC.out) | apply low_agg | apply low_tup | exact pullB_nil | (apply pullB_pureE; (· exact rfl); (· first | exact rfl | assumption | (simp [bA]; done)); (· exact PureEC.out)) | (apply pullB_one; (· exact rfl)) | exact lowBs_nil | apply lowBs_cons | (apply PureB.low; exact PureEC.out) | apply lowX_one | exact lowX_nil | (apply pullB_list; (· exact rfl)) | exact renEL_nil | apply renEL_cons | apply lowX_cons | exact outsN_ren _ _ _ _ | exact outsN_low _ _ _ (by decide) | exact rfl))

theorem markPart_at (D : List UInt8) (off n : Nat) (k : Int) (sl : Bool) (hf : off + n ≤ D.length) (hb : D.length ≤ 1073741824) (h0 : 0 ≤ k) (h1 : k ≤ 1152921504606846976) (id N : Nat) (hid : id < N) :
    CR Tryz.prog 62 [.sl id off n n, .int .i64 k] [(id, some ⟨bA D, 1, sl, false⟩)] N (Is (.int .i64 (k + n)) [(id, some ⟨bA (putB D off n k), 1, sl, false⟩)] N) :=
  (CR.toI (markPart_cr D off n k sl hf hb h0 h1) [id] rfl (by simp [*] <;> omega) _ (by simp [*] <;> omega) (by repeat' (first | exact Ren.sl _ _ _ _ | exact Ren.ptr _ _ _ | exact renL_nil | apply renL_cons | (apply Ren.pure; exact PureC.out) | apply ren_agg | apply ren_tup | exact renBs_nil | (apply renBs_pure; (· exact rfl); (· exact PureEC.out)) | (apply renBs_one; (· exact rfl)) | (apply renBs_list; (· exact rfl)) | exact renEL_nil | apply renEL_cons | exact outsN_ren _ _ _ _)) (by repeat' (first | exact Ren.sl _ _ _ _ | exact Ren.ptr _ _ _ | exact renL_nil | apply renL_cons | (apply Ren.pure; exact PureC.out) | apply ren_agg | apply ren_tup | exact renBs_nil | (apply renBs_pure; (· exact rfl); (· exact PureEC.out)) | (apply renBs_one; (· exact rfl)) | (apply renBs_list; (· exact rfl)) | exact renEL_nil | apply renEL_cons | exact outsN_ren _ _ _ _)) (by omega) (by repeat' (first | exact Ren.sl _ _ _ _ | exact Ren.ptr _ _ _ | exact renL_nil | apply renL_cons | (apply Ren.pure; exact PureC.out) | apply ren_agg | apply ren_tup | exact renBs_nil | (apply renBs_pure; (· exact rfl); (· exact PureEC.out)) | (apply renBs_one; (· exact rfl)) | (apply renBs_list; (· exact rfl)) | exact renEL_nil | apply renEL_cons | exact outsN_ren _ _ _ _)) (by repeat' (first | exact Ren.sl _ _ _ _ | exact Ren.ptr _ _ _ | exact renL_nil | apply renL_cons | (apply Ren.pure; exact PureC.out) | apply ren_agg | apply ren_tup | exact renBs_nil | (apply renBs_pure; (· exact rfl); (· exact PureEC.out)) | (apply renBs_one; (· exact rfl)) | (apply renBs_list; (· exact rfl)) | exact renEL_nil | apply renEL_cons | exact outsN_ren _ _ _ _)))

def marksR : Int → List (List UInt8) → List (List UInt8)
  | _, [] => []
  | k, w :: l => marksB k w.length :: marksR (k + w.length) l
theorem take_sum {ns : List Nat} {i n : Nat} (h : ns[i]? = some n) : (ns.take (i + 1)).sum = (ns.take i).sum + n := by
  rw [List.take_add_one, h]; simp
theorem take_sum_le (ns : List Nat) (i : Nat) : (ns.take i).sum ≤ ns.sum := by
  have := List.sum_append (l₁ := ns.take i) (l₂ := ns.drop i)
  rw [List.take_append_drop] at this
  omega

end Go.Proofs.YtaolmfgpebncjaaGreat
