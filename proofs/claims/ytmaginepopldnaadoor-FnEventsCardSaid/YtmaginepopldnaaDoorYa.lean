/- How the draws read their bytes. -/
import Derived.Test.YtmaginepopldnaaDoorWb
import Derived.Test.YtmaginepopldnaaDoorGi
set_option maxRecDepth 100000
set_option maxHeartbeats 3200000
set_option linter.unusedSimpArgs false
set_option linter.unusedVariables false
namespace Go.Proofs.YtmaginepopldnaaDoor
open Go.Av
attribute [local irreducible] T thenQ blockQ againQ againS WX retV retR Gt Gts GtsP okCells CV CR Av.Pure

abbrev srcA (code : List UInt8) (k : Nat) : AV := .agg [sl1 (bA code), .int .i64 (k : Int)]
abbrev boxS (code : List UInt8) (k : Nat) : Option Box := some ⟨[srcA code k], 2, false, false⟩

def nextRaw (code : List UInt8) (k : Nat) : Nat := (code.getD (k % code.length) 0).toNat + k / code.length * 37
def nextBig (code : List UInt8) (k : Nat) : Nat := nextRaw code k * 251 + (code.getD ((k + 1) % code.length) 0).toNat * 13 + k
def nextV (code : List UInt8) (k : Nat) (n : Int) : Int :=
  if n < 1 then 0 else if code.length = 0 then ((k * 7 : Nat) : Int) % n else if 200 < n then ((nextBig code k : Nat) : Int) % n else ((nextRaw code k : Nat) : Int) % n
theorem nextV_range (code : List UInt8) (k : Nat) {n : Int} (h : 1 ≤ n) : 0 ≤ nextV code k n ∧ nextV code k n < n := by
  unfold nextV
  rw [if_neg (by omega)]
  split
  · exact ⟨Int.emod_nonneg _ (by omega), Int.emod_lt_of_pos _ (by omega)⟩
  · split
    · exact ⟨Int.emod_nonneg _ (by omega), Int.emod_lt_of_pos _ (by omega)⟩
    · exact ⟨Int.emod_nonneg _ (by omega), Int.emod_lt_of_pos _ (by omega)⟩
theorem nextV_zero (code : List UInt8) (k : Nat) {n : Int} (h : n < 1) : nextV code k n = 0 := if_pos h

theorem l1Source_cr0 (code : List UInt8) : CR Tryd.prog 41 [sl1 (bA code)] [] 0 (Is (.ptr 0 0 0) [(0, boxS code 0)] (0 + 1)) := by
  refine CR_introU tyOk Tryd.func41 (by kernel_rfl) rfl 6 rfl (by simp) [.tmp 2] rfl ?_
  intro w0 ok0 wr φ0
  repeat' (first | refine T_seq ?_ | refine N_then ?_ | refine T_regX tyOk ?_ | refine S_nil ?_ | refine T_ret ?_ | apply S_move | apply S_assign | apply S_box | (apply S_build; (· exact rfl); (· exact rfl); (· exact rfl); (· (repeat' (first | exact gtsP_nil | exact gt_any rfl | apply gtsP_cons))); (· (repeat' (first | exact BuildR.nil _ | (apply BuildR.cons; (· exact rfl); (· exact rfl); (· exact rfl); (· exact rfl); (· (first | nofun | assumption)); (· (repeat' constructor))))))) | exact gt_any rfl | exact okCells_of rfl rfl | exact rfl | fail)
  (apply E_U0 [(0, 0)] <;> repeat' (first | exact resL_nil | (apply resL_tmp; (· exact rfl)) | (apply resL_cell; (· exact rfl); (· exact rfl); (· exact rfl); (· exact rfl); (· exact rfl); (· exact rfl)) | (apply resL_arr; (· exact rfl); (· exact rfl); (· exact rfl); (· exact rfl); (· (first | assumption | exact rfl))) | exact Ren.sl _ _ _ _ | (apply ren_slE; (· first | exact rfl | omega); (· first | exact rfl | assumption | (simp [bA_length]; done) | (simp [bA_length]; omega)); (· first | exact rfl | assumption | (simp [bA_length]; done) | (simp [bA_length]; omega))) | exact Ren.ptr _ _ _ | exact renL_nil | apply renL_cons | (apply Ren.pure; exact PureC.out) | apply ren_agg | apply ren_tup | exact Low.sl _ _ _ _ (by decide) | exact Low.ptr _ _ _ (by decide) | exact lowL_nil | apply lowL_cons | (apply Low.pure; exact PureC.out) | apply low_agg | apply low_tup | exact pullB_nil | (apply pullB_pureE; (· exact rfl); (· first | exact rfl | assumption | (simp [bA]; done)); (· exact PureEC.out)) | (apply pullB_one; (· exact rfl)) | exact lowBs_nil | apply lowBs_cons | (apply PureB.low; exact PureEC.out) | apply lowX_one | exact lowX_nil | exact rfl))

theorem l1Source_cr (code : List UInt8) (N : Nat) : CR Tryd.prog 41 [sl1 (bA code)] [] N (Is (.ptr N 0 0) [(N, boxS code 0)] (N + 1)) :=
  CR.allN (l1Source_cr0 code) N (by first | exact PureC.out | exact PureLC.out | assumption) (by repeat' (first | exact Ren.sl _ _ _ _ | exact Ren.ptr _ _ _ | exact renL_nil | apply renL_cons | (apply Ren.pure; (first | exact PureC.out | exact PureLC.out | assumption)) | apply ren_agg | apply ren_tup)) (by repeat' (first | exact renBs_nil | (apply renBs_pure; (· exact rfl); (· (exact PureEC.out))) | (apply renBs_one; (· exact rfl)) | exact renL_nil | apply renL_cons | exact Ren.sl _ _ _ _ | exact Ren.ptr _ _ _ | (apply Ren.pure; (first | exact PureC.out | exact PureLC.out | assumption)) | apply ren_agg))

theorem next_tmod (a : Nat) {n : Int} (h : 1 ≤ n) : ((a : Int)).tmod n = (a : Int) % n := Int.tmod_eq_emod_of_nonneg (by omega)

theorem l1Next_cr (code : List UInt8) (k : Nat) (n : Int) (hk : k ≤ 1000000000) (hc : code.length ≤ 1073741824) :
    CR Tryd.prog 43 [.ptr 0 0 0, .int .i64 n] [(0, boxS code k)] 1 (Is (.int .i64 (nextV code k n)) [(0, boxS code (k + 1))] 1) := by
  refine CR_introU tyOk Tryd.func43 (by kernel_rfl) rfl 71 rfl (by simp) [.tmp 4] rfl ?_
  intro w0 ok0 wr φ0
  have hl := bA_length code
  have w1 : IntKind.wrap .i64 ((k : Int) + 1) = ((k + 1 : Nat) : Int) := by rw [wrap_i64 (by omega) (by omega)]; omega
  have w2 : IntKind.wrap .i64 (((k + 1 : Nat) : Int) - 1) = (k : Int) := by rw [wrap_i64 (by omega) (by omega)]; omega
  by_cases h1 : n < 1
  · have d1 : decide (n < 1) = true := by simpa using h1
    rw [nextV_zero code k h1]
    repeat' (first | refine T_seq ?_ | refine N_then ?_ | refine N_thenR ?_ | refine T_regX tyOk ?_ | refine S_nil ?_ | refine T_ret ?_ | (apply T_ifT; (· exact rfl); (· (first | assumption | exact rfl))) | apply S_move | apply S_assign | (apply S_loadP; (· exact rfl); (· exact gt_any rfl); (· exact rfl); (· exact rfl); (· exact rfl); (· (first | exact ⟨rfl, rfl⟩ | exact ⟨rfl, trivial⟩ | assumption))) | (apply S_fieldP; (· exact rfl); (· exact rfl); (· exact rfl); (· exact rfl); (· exact gt_any rfl)) | apply S_lss | apply S_add | (apply S_storeF; (· exact rfl); (· exact gt_any rfl); (· exact rfl); (· exact rfl); (· exact rfl); (· exact rfl); (· exact gt_any rfl); (· exact rfl); (· exact rfl); (· (repeat' constructor))) | (apply S_nilP; (· exact gt_any rfl)) | exact gt_any rfl | assumption | exact rfl | fail)
    (apply E_U0 [(0, 0)] <;> repeat' (first | exact resL_nil | (apply resL_tmp; (· exact rfl)) | (apply resL_cell; (· exact rfl); (· exact rfl); (· exact rfl); (· exact rfl); (· exact rfl); (· exact rfl)) | (apply resL_arr; (· exact rfl); (· exact rfl); (· exact rfl); (· exact rfl); (· (first | assumption | exact rfl))) | exact Ren.sl _ _ _ _ | (apply ren_slE; (· first | exact rfl | omega); (· first | exact rfl | assumption | (simp [bA_length]; done) | (simp [bA_length]; omega)); (· first | exact rfl | assumption | (simp [bA_length]; done) | (simp [bA_length]; omega))) | exact Ren.ptr _ _ _ | exact renL_nil | apply renL_cons | (apply Ren.pure; exact PureC.out) | apply ren_agg | apply ren_tup | exact Low.sl _ _ _ _ (by decide) | exact Low.ptr _ _ _ (by decide) | exact lowL_nil | apply lowL_cons | (apply Low.pure; exact PureC.out) | apply low_agg | apply low_tup | exact pullB_nil | (apply pullB_pureE; (· exact rfl); (· first | exact rfl | assumption | (simp [bA]; done)); (· exact PureEC.out)) | (apply pullB_one; (· exact rfl)) | exact lowBs_nil | apply lowBs_cons | (apply PureB.low; exact PureEC.out) | apply lowX_one | exact lowX_nil | exact rfl))
  · have d1 : decide (n < 1) = false := by simpa using h1
    unfold nextV
    rw [if_neg h1]
    have hne : n ≠ 0 := by omega
    by_cases h2 : code.length = 0
    · have d2 : decide (((bA code).length : Int) = 0) = true := by simp only [decide_eq_true_eq]; omega
      rw [if_pos h2]
      have w3 : IntKind.wrap .i64 ((k : Int) * 7) = ((k * 7 : Nat) : Int) := by rw [wrap_i64 (by omega) (by omega)]; omega
      have m1 := next_tmod (k * 7) (n := n) (by omega)
      repeat' (first | refine T_seq ?_ | refine N_then ?_ | refine N_thenR ?_ | refine T_regX tyOk ?_ | refine S_nil ?_ | refine T_skip ?_ | refine T_ret ?_ | (apply T_ifT; (· exact rfl); (· (first | assumption | exact rfl))) | (apply T_ifF; (· exact rfl); (· (first | assumption | exact rfl))) | apply S_move | apply S_assign | (apply S_loadP; (· exact rfl); (· exact gt_any rfl); (· exact rfl); (· exact rfl); (· exact rfl); (· (first | exact ⟨rfl, rfl⟩ | exact ⟨rfl, trivial⟩ | assumption))) | (apply S_fieldP; (· exact rfl); (· exact rfl); (· exact rfl); (· exact rfl); (· exact gt_any rfl)) | apply S_lss | (apply S_eql; (· exact gt_any rfl); (· exact gt_any rfl)) | apply S_add | apply S_sub | apply S_mul | (apply S_len_ls; (· exact rfl); (· exact gt_any rfl)) | (apply S_storeF; (· exact rfl); (· exact gt_any rfl); (· exact rfl); (· exact rfl); (· exact rfl); (· exact rfl); (· exact gt_any rfl); (· exact rfl); (· exact rfl); (· (repeat' constructor))) | (apply S_remW; (· exact gt_any rfl); (· exact gt_any rfl); (· exact rfl); (· (first | exact Nat.le_of_ble_eq_true rfl | omega | decide))) | (apply S_nilP; (· exact gt_any rfl)) | exact gt_any rfl | assumption | exact rfl | fail)
      (apply E_U0 [(0, 0)] <;> repeat' (first | exact resL_nil | (apply resL_tmp; (· exact rfl)) | (apply resL_cell; (· exact rfl); (· exact rfl); (· exact rfl); (· exact rfl); (· exact rfl); (· exact rfl)) | (apply resL_arr; (· exact rfl); (· exact rfl); (· exact rfl); (· exact rfl); (· (first | assumption | exact rfl))) | exact Ren.sl _ _ _ _ | (apply ren_slE; (· first | exact rfl | omega); (· first | exact rfl | assumption | (simp [bA_length]; done) | (simp [bA_length]; omega)); (· first | exact rfl | assumption | (simp [bA_length]; done) | (simp [bA_length]; omega))) | exact Ren.ptr _ _ _ | exact renL_nil | apply renL_cons | (apply Ren.pure; exact PureC.out) | apply ren_agg | apply ren_tup | exact Low.sl _ _ _ _ (by decide) | exact Low.ptr _ _ _ (by decide) | exact lowL_nil | apply lowL_cons | (apply Low.pure; exact PureC.out) | apply low_agg | apply low_tup | exact pullB_nil | (apply pullB_pureE; (· exact rfl); (· first | exact rfl | assumption | (simp [bA]; done)); (· exact PureEC.out)) | (apply pullB_one; (· exact rfl)) | exact lowBs_nil | apply lowBs_cons | (apply PureB.low; exact PureEC.out) | apply lowX_one | exact lowX_nil | exact rfl))
    · have d2 : decide (((bA code).length : Int) = 0) = false := by simp only [decide_eq_false_iff_not]; omega
      rw [if_neg h2]
      have hpos : ((bA code).length : Int) ≠ 0 := by omega
      have hm1 : k % code.length < code.length := Nat.mod_lt _ (by omega)
      have hm2 : (k + 1) % code.length < code.length := Nat.mod_lt _ (by omega)
      have q1 : ((k : Int)).tmod ((bA code).length : Int) = ((k % code.length : Nat) : Int) := by rw [hl, Int.tmod_eq_emod_of_nonneg (by omega)]; omega
      have q2 : ((k + 1 : Nat) : Int).tmod ((bA code).length : Int) = (((k + 1) % code.length : Nat) : Int) := by rw [hl, Int.tmod_eq_emod_of_nonneg (by omega)]; omega
      have hq : k / code.length ≤ k := Nat.div_le_self _ _
      have q3 : IntKind.wrap .i64 (((k : Int)).tdiv ((bA code).length : Int)) = ((k / code.length : Nat) : Int) := by
        rw [hl, Int.tdiv_eq_ediv_of_nonneg (by omega), show ((k : Int)) / (code.length : Int) = ((k / code.length : Nat) : Int) by omega]
        have hq0 : (0 : Int) ≤ ((k / code.length : Nat) : Int) := Int.natCast_nonneg _
        have hq1 : ((k / code.length : Nat) : Int) ≤ (k : Int) := Int.ofNat_le.2 hq
        generalize ((k / code.length : Nat) : Int) = z at *
        exact wrap_i64 (by omega) (by omega)
      have hR : nextRaw code k = (code.getD (k % code.length) 0).toNat + k / code.length * 37 := rfl
      generalize k / code.length = qk at *
      have b1 := bA_getD code hm1
      have b2 := bA_getD code hm2
      have hb1 := UInt8.toNat_lt (code.getD (k % code.length) 0)
      have hb2 := UInt8.toNat_lt (code.getD ((k + 1) % code.length) 0)
      have w3 : IntKind.wrap .i64 (((code.getD (k % code.length) 0).toNat : Int)) = ((code.getD (k % code.length) 0).toNat : Int) := wrap_i64 (by omega) (by omega)
      have w4 : IntKind.wrap .i64 ((qk : Int) * 37) = ((qk * 37 : Nat) : Int) := by rw [wrap_i64 (by omega) (by omega)]; omega
      have w5 : IntKind.wrap .i64 (((code.getD (k % code.length) 0).toNat : Int) + ((qk * 37 : Nat) : Int)) = (nextRaw code k : Int) := by rw [hR]; rw [wrap_i64 (by omega) (by omega)]; omega
      have hraw : nextRaw code k ≤ 40000000000 := by rw [hR]; omega
      by_cases h3 : 200 < n
      · have d3 : decide ((200 : Int) < n) = true := by simpa using h3
        rw [if_pos h3]
        have w6 : IntKind.wrap .i64 ((nextRaw code k : Int) * 251) = ((nextRaw code k * 251 : Nat) : Int) := by rw [wrap_i64 (by omega) (by omega)]; omega
        have w7 : IntKind.wrap .i64 (((code.getD ((k + 1) % code.length) 0).toNat : Int)) = ((code.getD ((k + 1) % code.length) 0).toNat : Int) := wrap_i64 (by omega) (by omega)
        have w8 : IntKind.wrap .i64 (((code.getD ((k + 1) % code.length) 0).toNat : Int) * 13) = (((code.getD ((k + 1) % code.length) 0).toNat * 13 : Nat) : Int) := by rw [wrap_i64 (by omega) (by omega)]; omega
        have w9 : IntKind.wrap .i64 (((nextRaw code k * 251 : Nat) : Int) + (((code.getD ((k + 1) % code.length) 0).toNat * 13 : Nat) : Int)) = ((nextRaw code k * 251 + (code.getD ((k + 1) % code.length) 0).toNat * 13 : Nat) : Int) := by rw [wrap_i64 (by omega) (by omega)]; omega
        have w10 : IntKind.wrap .i64 (((nextRaw code k * 251 + (code.getD ((k + 1) % code.length) 0).toNat * 13 : Nat) : Int) + (k : Int)) = (nextBig code k : Int) := by unfold nextBig; rw [wrap_i64 (by omega) (by omega)]; omega
        have m1 := next_tmod (nextBig code k) (n := n) (by omega)
        generalize nextBig code k = NB at *
        generalize nextRaw code k = NR at *
        repeat' (first | refine T_seq ?_ | refine N_then ?_ | refine T_regX tyOk ?_ | (apply T_drawAll tyOk mixed; (· kernel_rfl)) | refine S_nil ?_ | refine T_skip ?_ | refine T_ret ?_ | (apply T_ifT; (· exact rfl); (· (first | assumption | exact rfl))) | (apply T_ifF; (· exact rfl); (· (first | assumption | exact rfl))) | apply S_move | apply S_assign | (apply S_loadP; (· exact rfl); (· exact gt_any rfl); (· exact rfl); (· exact rfl); (· exact rfl); (· (first | exact ⟨rfl, rfl⟩ | exact ⟨rfl, trivial⟩ | assumption))) | (apply S_loadV; (· exact rfl); (· exact gt_any rfl); (· exact rfl); (· (first | exact ⟨rfl, rfl⟩ | exact ⟨rfl, trivial⟩ | assumption))) | (apply S_fieldP; (· exact rfl); (· exact rfl); (· exact rfl); (· exact rfl); (· exact gt_any rfl)) | apply S_lss | apply S_gtr | (apply S_eql; (· exact gt_any rfl); (· exact gt_any rfl)) | apply S_add | apply S_sub | apply S_mul | (apply S_conv; (· exact rfl); (· exact rfl); (· exact gt_any rfl)) | (apply S_len_ls; (· exact rfl); (· exact gt_any rfl)) | (apply S_storeF; (· exact rfl); (· exact gt_any rfl); (· exact rfl); (· exact rfl); (· exact rfl); (· exact rfl); (· exact gt_any rfl); (· exact rfl); (· exact rfl); (· (repeat' constructor))) | (apply S_quoW; (· exact gt_any rfl); (· exact gt_any rfl); (· exact rfl); (· (first | exact Nat.le_of_ble_eq_true rfl | omega | decide))) | (apply S_remW; (· exact gt_any rfl); (· exact gt_any rfl); (· exact rfl); (· (first | exact Nat.le_of_ble_eq_true rfl | omega | decide))) | (apply S_idxLs; (· exact rfl); (· exact rfl); (· exact gt_any rfl); (· exact gt_any rfl)) | (apply S_nilP; (· exact gt_any rfl)) | exact gt_any rfl | assumption | (refine ⟨?_, ?_⟩ <;> omega) | exact rfl | fail)
        (apply E_U0 [(0, 0)] <;> repeat' (first | exact resL_nil | (apply resL_tmp; (· exact rfl)) | (apply resL_cell; (· exact rfl); (· exact rfl); (· exact rfl); (· exact rfl); (· exact rfl); (· exact rfl)) | (apply resL_arr; (· exact rfl); (· exact rfl); (· exact rfl); (· exact rfl); (· (first | assumption | exact rfl))) | exact Ren.sl _ _ _ _ | (apply ren_slE; (· first | exact rfl | omega); (· first | exact rfl | assumption | (simp [bA_length]; done) | (simp [bA_length]; omega)); (· first | exact rfl | assumption | (simp [bA_length]; done) | (simp [bA_length]; omega))) | exact Ren.ptr _ _ _ | exact renL_nil | apply renL_cons | (apply Ren.pure; exact PureC.out) | apply ren_agg | apply ren_tup | exact Low.sl _ _ _ _ (by decide) | exact Low.ptr _ _ _ (by decide) | exact lowL_nil | apply lowL_cons | (apply Low.pure; exact PureC.out) | apply low_agg | apply low_tup | exact pullB_nil | (apply pullB_pureE; (· exact rfl); (· first | exact rfl | assumption | (simp [bA]; done)); (· exact PureEC.out)) | (apply pullB_one; (· exact rfl)) | exact lowBs_nil | apply lowBs_cons | (apply PureB.low; exact PureEC.out) | apply lowX_one | exact lowX_nil | exact rfl))
      · have d3 : decide ((200 : Int) < n) = false := by simpa using h3
        rw [if_neg h3]
        have m1 := next_tmod (nextRaw code k) (n := n) (by omega)
        generalize nextRaw code k = NR at *
        repeat' (first | refine T_seq ?_ | refine N_then ?_ | refine T_regX tyOk ?_ | (apply T_drawAll tyOk mixed; (· kernel_rfl)) | refine S_nil ?_ | refine T_skip ?_ | refine T_ret ?_ | (apply T_ifF; (· exact rfl); (· (first | assumption | exact rfl))) | apply S_move | apply S_assign | (apply S_loadP; (· exact rfl); (· exact gt_any rfl); (· exact rfl); (· exact rfl); (· exact rfl); (· (first | exact ⟨rfl, rfl⟩ | exact ⟨rfl, trivial⟩ | assumption))) | (apply S_loadV; (· exact rfl); (· exact gt_any rfl); (· exact rfl); (· (first | exact ⟨rfl, rfl⟩ | exact ⟨rfl, trivial⟩ | assumption))) | (apply S_fieldP; (· exact rfl); (· exact rfl); (· exact rfl); (· exact rfl); (· exact gt_any rfl)) | apply S_lss | apply S_gtr | (apply S_eql; (· exact gt_any rfl); (· exact gt_any rfl)) | apply S_add | apply S_sub | apply S_mul | (apply S_conv; (· exact rfl); (· exact rfl); (· exact gt_any rfl)) | (apply S_len_ls; (· exact rfl); (· exact gt_any rfl)) | (apply S_storeF; (· exact rfl); (· exact gt_any rfl); (· exact rfl); (· exact rfl); (· exact rfl); (· exact rfl); (· exact gt_any rfl); (· exact rfl); (· exact rfl); (· (repeat' constructor))) | (apply S_quoW; (· exact gt_any rfl); (· exact gt_any rfl); (· exact rfl); (· (first | exact Nat.le_of_ble_eq_true rfl | omega | decide))) | (apply S_remW; (· exact gt_any rfl); (· exact gt_any rfl); (· exact rfl); (· (first | exact Nat.le_of_ble_eq_true rfl | omega | decide))) | (apply S_idxLs; (· exact rfl); (· exact rfl); (· exact gt_any rfl); (· exact gt_any rfl)) | (apply S_nilP; (· exact gt_any rfl)) | exact gt_any rfl | assumption | (refine ⟨?_, ?_⟩ <;> omega) | exact rfl | fail)
        (apply E_U0 [(0, 0)] <;> repeat' (first | exact resL_nil | (apply resL_tmp; (· exact rfl)) | (apply resL_cell; (· exact rfl); (· exact rfl); (· exact rfl); (· exact rfl); (· exact rfl); (· exact rfl)) | (apply resL_arr; (· exact rfl); (· exact rfl); (· exact rfl); (· exact rfl); (· (first | assumption | exact rfl))) | exact Ren.sl _ _ _ _ | (apply ren_slE; (· first | exact rfl | omega); (· first | exact rfl | assumption | (simp [bA_length]; done) | (simp [bA_length]; omega)); (· first | exact rfl | assumption | (simp [bA_length]; done) | (simp [bA_length]; omega))) | exact Ren.ptr _ _ _ | exact renL_nil | apply renL_cons | (apply Ren.pure; exact PureC.out) | apply ren_agg | apply ren_tup | exact Low.sl _ _ _ _ (by decide) | exact Low.ptr _ _ _ (by decide) | exact lowL_nil | apply lowL_cons | (apply Low.pure; exact PureC.out) | apply low_agg | apply low_tup | exact pullB_nil | (apply pullB_pureE; (· exact rfl); (· first | exact rfl | assumption | (simp [bA]; done)); (· exact PureEC.out)) | (apply pullB_one; (· exact rfl)) | exact lowBs_nil | apply lowBs_cons | (apply PureB.low; exact PureEC.out) | apply lowX_one | exact lowX_nil | exact rfl))

theorem l1Next_at (code : List UInt8) (k : Nat) (n : Int) (hk : k ≤ 1000000000) (hc : code.length ≤ 1073741824) (id N : Nat) (hid : id < N) :
    CR Tryd.prog 43 [.ptr id 0 0, .int .i64 n] [(id, boxS code k)] N (Is (.int .i64 (nextV code k n)) [(id, boxS code (k + 1))] N) :=
  (CR.toI (l1Next_cr code k n hk hc) [id] rfl (by simp [*] <;> omega) _ (by simp [*] <;> omega) (by repeat' (first | exact Ren.sl _ _ _ _ | exact Ren.ptr _ _ _ | exact renL_nil | apply renL_cons | (apply Ren.pure; exact PureC.out) | apply ren_agg | apply ren_tup | exact renBs_nil | (apply renBs_pure; (· exact rfl); (· exact PureEC.out)) | (apply renBs_one; (· exact rfl)))) (by repeat' (first | exact Ren.sl _ _ _ _ | exact Ren.ptr _ _ _ | exact renL_nil | apply renL_cons | (apply Ren.pure; exact PureC.out) | apply ren_agg | apply ren_tup | exact renBs_nil | (apply renBs_pure; (· exact rfl); (· exact PureEC.out)) | (apply renBs_one; (· exact rfl)))) (by omega) (by repeat' (first | exact Ren.sl _ _ _ _ | exact Ren.ptr _ _ _ | exact renL_nil | apply renL_cons | (apply Ren.pure; exact PureC.out) | apply ren_agg | apply ren_tup | exact renBs_nil | (apply renBs_pure; (· exact rfl); (· exact PureEC.out)) | (apply renBs_one; (· exact rfl)))) (by repeat' (first | exact Ren.sl _ _ _ _ | exact Ren.ptr _ _ _ | exact renL_nil | apply renL_cons | (apply Ren.pure; exact PureC.out) | apply ren_agg | apply ren_tup | exact renBs_nil | (apply renBs_pure; (· exact rfl); (· exact PureEC.out)) | (apply renBs_one; (· exact rfl)))))

def pickV (code : List UInt8) (k : Nat) (xs : List Int) : Int := xs.getD (nextV code k xs.length).toNat 0

theorem l1Pick_cr (code : List UInt8) (k : Nat) (xs : List Int) (nn ee : Bool) (hk : k ≤ 1000000000) (hc : code.length ≤ 1073741824) (h0 : 0 < xs.length) (h1 : xs.length ≤ 1000) :
    CR Tryd.prog 57 [.ptr 0 0 0, .ls 1 nn ee (xs.map numA)] [(0, boxS code k)] 1 (Is (.int .i64 (pickV code k xs)) [(0, boxS code (k + 1))] 1) := by
  refine CR_introU tyOk Tryd.func57 (by kernel_rfl) rfl 12 rfl (by simp) [.tmp 4] rfl ?_
  intro w0 ok0 wr φ0
  have hl : (xs.map numA).length = xs.length := by simp
  have c0 := fun (id N : Nat) (hid : id < N) => l1Next_at code k (xs.length : Int) hk hc id N hid
  rw [← hl] at c0
  have hr := nextV_range code k (n := (xs.length : Int)) (by omega)
  have hget := map_getD numA xs 0 (k := (nextV code k (xs.length : Int)).toNat) (by omega)
  rw [show (((nextV code k (xs.length : Int)).toNat : Nat) : Int) = nextV code k (xs.length : Int) by omega] at hget
  unfold pickV
  rw [← hl] at hr hget ⊢
  generalize nextV code k ((xs.map numA).length : Int) = v at *
  repeat' (first | refine T_seq ?_ | refine N_then ?_ | refine T_regX tyOk ?_ | refine S_nil ?_ | refine T_ret ?_ | apply S_move | apply S_assign | (apply S_loadV; (· exact rfl); (· exact gt_any rfl); (· exact rfl); (· (first | exact ⟨rfl, rfl⟩ | exact ⟨rfl, trivial⟩ | assumption))) | (apply S_len_ls; (· exact rfl); (· exact gt_any rfl)) | (apply S_idxLs; (· exact rfl); (· exact rfl); (· exact gt_any rfl); (· exact gt_any rfl)) | (apply S_callL ([0]) (f := 43); (· repeat' (first | exact gts_nil | exact gt_any rfl | apply gts_cons)); (· exact rfl); (· (apply c0) <;> first | assumption | decide | omega)) | exact gt_any rfl | assumption | exact rfl | fail)
  (apply E_U0 [(0, 0)] <;> repeat' (first | exact resL_nil | (apply resL_tmp; (· exact rfl)) | (apply resL_cell; (· exact rfl); (· exact rfl); (· exact rfl); (· exact rfl); (· exact rfl); (· exact rfl)) | (apply resL_arr; (· exact rfl); (· exact rfl); (· exact rfl); (· exact rfl); (· (first | assumption | exact rfl))) | exact Ren.sl _ _ _ _ | (apply ren_slE; (· first | exact rfl | omega); (· first | exact rfl | assumption | (simp [bA_length]; done) | (simp [bA_length]; omega)); (· first | exact rfl | assumption | (simp [bA_length]; done) | (simp [bA_length]; omega))) | exact Ren.ptr _ _ _ | exact renL_nil | apply renL_cons | (apply Ren.pure; exact PureC.out) | apply ren_agg | apply ren_tup | exact Low.sl _ _ _ _ (by decide) | exact Low.ptr _ _ _ (by decide) | exact lowL_nil | apply lowL_cons | (apply Low.pure; exact PureC.out) | apply low_agg | apply low_tup | exact pullB_nil | (apply pullB_pureE; (· exact rfl); (· first | exact rfl | assumption | (simp [bA]; done)); (· exact PureEC.out)) | (apply pullB_one; (· exact rfl)) | exact lowBs_nil | apply lowBs_cons | (apply PureB.low; exact PureEC.out) | apply lowX_one | exact lowX_nil | exact rfl))

theorem l1Pick_at (code : List UInt8) (k : Nat) (xs : List Int) (nn ee : Bool) (hk : k ≤ 1000000000) (hc : code.length ≤ 1073741824) (h0 : 0 < xs.length) (h1 : xs.length ≤ 1000) (id N : Nat) (hid : id < N) :
    CR Tryd.prog 57 [.ptr id 0 0, .ls 1 nn ee (xs.map numA)] [(id, boxS code k)] N (Is (.int .i64 (pickV code k xs)) [(id, boxS code (k + 1))] N) :=
  (CR.toI (l1Pick_cr code k xs nn ee hk hc h0 h1) [id] rfl (by simp [*] <;> omega) _ (by simp [*] <;> omega) (by repeat' (first | exact Ren.sl _ _ _ _ | exact Ren.ptr _ _ _ | exact renL_nil | apply renL_cons | (apply Ren.pure; exact PureC.out) | apply ren_agg | apply ren_tup | exact renBs_nil | (apply renBs_pure; (· exact rfl); (· exact PureEC.out)) | (apply renBs_one; (· exact rfl)))) (by repeat' (first | exact Ren.sl _ _ _ _ | exact Ren.ptr _ _ _ | exact renL_nil | apply renL_cons | (apply Ren.pure; exact PureC.out) | apply ren_agg | apply ren_tup | exact renBs_nil | (apply renBs_pure; (· exact rfl); (· exact PureEC.out)) | (apply renBs_one; (· exact rfl)))) (by omega) (by repeat' (first | exact Ren.sl _ _ _ _ | exact Ren.ptr _ _ _ | exact renL_nil | apply renL_cons | (apply Ren.pure; exact PureC.out) | apply ren_agg | apply ren_tup | exact renBs_nil | (apply renBs_pure; (· exact rfl); (· exact PureEC.out)) | (apply renBs_one; (· exact rfl)))) (by repeat' (first | exact Ren.sl _ _ _ _ | exact Ren.ptr _ _ _ | exact renL_nil | apply renL_cons | (apply Ren.pure; exact PureC.out) | apply ren_agg | apply ren_tup | exact renBs_nil | (apply renBs_pure; (· exact rfl); (· exact PureEC.out)) | (apply renBs_one; (· exact rfl)))))

end Go.Proofs.YtmaginepopldnaaDoor
