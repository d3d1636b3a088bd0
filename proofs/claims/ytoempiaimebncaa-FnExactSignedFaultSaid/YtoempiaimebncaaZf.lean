/- The digits of a message by the specification; signatures checked. -/
import Derived.Test.YtoempiaimebncaaZe
set_option maxRecDepth 100000
set_option maxHeartbeats 3200000
set_option linter.unusedSimpArgs false
set_option linter.unusedVariables false
namespace Go.Proofs.Ytoempiaimebncaa
open Go.Av
attribute [local irreducible] T thenQ blockQ againQ againS WX retV retR Gt Gts GtsP okCells CV CR Av.Pure
attribute [local irreducible] sha

theorem specDigitsOf_cv (m : List UInt8) (h : m.length ≤ 100000000) : CV Try.prog 42 [sl1 (bA m)] (· = sl1 ((digL m).map numA)) := by
  refine CV_intro tyOk Try.func42 (by kernel_rfl) rfl 48 rfl (by simp) [.tmp 2] rfl ?_
  intro w0 ok0
  have c0 := specTagged_cv messS m (by decide) (by omega)
  have hD : messD m = sha (tagL messS ++ m) := rfl
  rw [← hD] at c0
  have hdl : (messD m).length = 32 := sha_length _
  have hdig : digL m = digs (messD m) 16 ++ [((restN (messD m) 16 / 16 : Nat) : Int), ((restN (messD m) 16 / 4 % 4 : Nat) : Int), ((restN (messD m) 16 % 4 : Nat) : Int)] := rfl
  clear hD
  rw [hdig]
  clear hdig
  generalize messD m = d at *
  have hbl : (bA d).length = 32 := by rw [bA_length, hdl]
  repeat' (first | refine T_seq ?_ | refine N_then ?_ | refine T_regX tyOk ?_ | refine S_nil ?_ | refine T_block ?_ | apply S_move | apply S_assign | (apply S_buildL tyOk; (· exact rfl); (· exact rfl); (· exact rfl)) | apply S_call (f := 39) | apply c0 | exact PureLC.out | (dsimp only; omega) | exact gtsI_nil | exact elts_nil | exact gt_any rfl | exact gts_nil | (apply gts_cons; (· exact gt_any rfl)) | exact rfl | fail)
  refine T_roundsS (α := Nat) (fun k => ⟨[(3, sl1 (bA d)), (4, .sl 0 0 (4 * k) (4 * k)), (5, .int .i64 (restN d (4 * k) : Int)), (6, .int .i64 k)], [(0, some ⟨(digs d (4 * k)).map numA, 1, true, false⟩)], 1⟩)
    (fun k => 4 - k) (fun k => k ≤ 4) 0 ((weak_of (by repeat' (first | exact keepE_nil | refine keepE_cons rfl ?_)) (by repeat' (first | exact keepB_nil | refine keepB_cons (by first | rfl | exact congrArg (fun l => some (Box.mk l _ _ _)) hset) ?_)) (Nat.le_refl _))).sub (by omega) ?_
  intro k hk
  by_cases hk4 : k < 4
  · have d1 : decide ((k : Int) < 4) = true := decide_eq_true (by omega)
    have hw : IntKind.wrap .i64 ((k : Int) + 1) = ((k + 1 : Nat) : Int) := by rw [wrap_i64 (by omega) (by omega)]; omega
    repeat' (first | refine T_seq ?_ | refine N_then ?_ | refine T_regX tyOk ?_ | refine S_nil ?_ | refine T_skip ?_ | refine T_block ?_ | (apply T_ifT; (· exact rfl); (· (first | assumption | exact rfl))) | apply S_move | apply S_assign | apply S_lss | exact gt_any rfl | exact rfl | fail)
    refine T_roundsS (α := Nat) (fun j => ⟨[(3, sl1 (bA d)), (4, .sl 0 0 (4 * k + j) (4 * k + j)), (5, .int .i64 (restN d (4 * k + j) : Int)), (6, .int .i64 k), (7, .int .i64 (3 - (j : Int)))], [(0, some ⟨(digs d (4 * k + j)).map numA, 1, true, false⟩)], 1⟩)
      (fun j => 4 - j) (fun j => j ≤ 4) 0 ((weak_of (by repeat' (first | exact keepE_nil | refine keepE_cons rfl ?_)) (by repeat' (first | exact keepB_nil | refine keepB_cons (by first | rfl | exact congrArg (fun l => some (Box.mk l _ _ _)) hset) ?_)) (Nat.le_refl _))).sub (by omega) ?_
    intro j hj
    by_cases hj4 : j < 4
    · have d2 : decide ((0 : Int) ≤ 3 - (j : Int)) = true := decide_eq_true (by omega)
      have hget := bA_getD d (k := k) (by omega)
      have hs := dig_shr (d.getD k 0) j hj4
      have hda : (d.getD k 0).toNat >>> (6 - 2 * j) % 4 = digAt d (4 * k + j) := by
        unfold digAt
        rw [show (4 * k + j) / 4 = k by omega, show (4 * k + j) % 4 = j by omega]
      rw [hda] at hs
      have hset := digs_succ d (4 * k + j)
      have hdl3 := digAt_le d (4 * k + j)
      have hr3 := restN_le d (4 * k + j)
      have hrn : restN d (4 * k + j + 1) = restN d (4 * k + j) + 3 - digAt d (4 * k + j) := rfl
      have hdgl : ((digs d (4 * k + j)).map numA).length = 4 * k + j := by rw [List.length_map, digs_length]
      generalize digAt d (4 * k + j) = z at *
      have w0 : IntKind.wrap .i64 (2 * (3 - (j : Int))) = 6 - 2 * (j : Int) := by rw [wrap_i64 (by omega) (by omega)]; omega
      have w5 : IntKind.wrap .u64 (6 - 2 * (j : Int)) = 6 - 2 * (j : Int) := wrap_u64 (by omega) (by omega)
      have w1 : IntKind.wrap .i64 ((z : Int)) = (z : Int) := wrap_i64 (by omega) (by omega)
      have w2 : IntKind.wrap .i64 ((restN d (4 * k + j) : Int) + 3) = ((restN d (4 * k + j) + 3 : Nat) : Int) := by rw [wrap_i64 (by omega) (by omega)]; omega
      have w3 : IntKind.wrap .i64 (((restN d (4 * k + j) + 3 : Nat) : Int) - (z : Int)) = (restN d (4 * k + j + 1) : Int) := by rw [wrap_i64 (by omega) (by omega)]; omega
      have w4 : IntKind.wrap .i64 (3 - (j : Int) - 1) = 3 - ((j + 1 : Nat) : Int) := by rw [wrap_i64 (by omega) (by omega)]; omega
      repeat' (first | refine T_seq ?_ | refine N_then ?_ | refine N_block ?_ | refine T_regX tyOk ?_ | refine S_nil ?_ | refine T_skip ?_ | refine T_block ?_ | (apply T_ifT; (· exact rfl); (· (first | assumption | exact rfl))) | apply S_move | apply S_assign | (apply S_loadV; (· exact rfl); (· exact gt_any rfl); (· exact rfl); (· (first | exact ⟨rfl, rfl⟩ | exact ⟨rfl, trivial⟩ | assumption))) | apply S_geq | apply S_add | apply S_sub | apply S_mul | (apply S_conv; (· exact rfl); (· exact rfl); (· exact gt_any rfl)) | apply S_shrW | (apply S_idxLs; (· exact rfl); (· exact rfl); (· exact gt_any rfl); (· exact gt_any rfl)) | (apply M_appB; (· exact rfl); (· exact rfl); (· exact gt_any rfl)) | (apply S_buildV tyOk; (· exact rfl); (· exact rfl)) | (apply S_bits; (· (first | exact Or.inl rfl | exact Or.inr (Or.inl rfl) | exact Or.inr (Or.inr (Or.inl rfl)) | exact Or.inr (Or.inr (Or.inr rfl))))) | (apply mlen; first | exact rfl | assumption | exact Nat.le_of_ble_eq_true rfl | omega | (simp [bA_length]; done) | (simp [bA_length]; omega)) | (apply msz; first | assumption | exact Nat.le_of_ble_eq_true rfl | (dsimp only; simp only [List.length_append, List.length_map, List.length_cons, List.length_nil, bA_length, List.length_take, List.length_drop, List.length_replicate] at *; omega) | (dsimp only; omega)) | (apply mnorm; first | with_reducible exact app_nil0 _ | exact app_norm _ _ | exact rfl) | exact Src.ls rfl rfl | (dsimp only; omega) | exact gtsI_nil | (apply gtsI_cons; (· exact gt_any rfl)) | exact elts_nil | apply elts_cons | (intro hu; cases hu; done) | exact gt_any rfl | exact okCells_of rfl rfl | assumption | (refine ⟨?_, ?_⟩ <;> omega) | omega | exact rfl | fail)
      exact N_againS (j + 1) (sub_names [(0, 1)] (k0 := 0) rfl (by rfl) (by repeat' (first | exact pullE_nil | (apply pullE_cons; (· exact rfl)) | exact Ren.sl _ _ _ _ | (apply ren_slE; (· first | exact rfl | omega); (· first | exact rfl | assumption | (simp [bA_length]; done) | (simp [bA_length]; omega)); (· first | exact rfl | assumption | (simp [bA_length]; done) | (simp [bA_length]; omega))) | exact Ren.ptr _ _ _ | (apply Ren.pure; (first | exact PureC.out | exact PureLC.out | assumption)) | exact renL_nil | apply renL_cons | apply ren_agg | apply ren_tup)) (by repeat' (first | exact pullB_nil | (apply pullB_pure; (· first | exact rfl | exact congrArg (fun l => some (Box.mk l _ _ _)) hset); (· (exact PureEC.out))) | (apply pullB_one; (· exact rfl)) | exact renL_nil | apply renL_cons | exact Ren.sl _ _ _ _ | exact Ren.ptr _ _ _ | (apply Ren.pure; (first | exact PureC.out | exact PureLC.out | assumption)) | apply ren_agg)) (by repeat' (first | exact lowE_nil | apply lowE_cons | exact Low.sl _ _ _ _ (by decide) | exact Low.ptr _ _ _ (by decide) | (apply Low.pure; (first | exact PureC.out | exact PureLC.out | assumption)) | exact lowL_nil | apply lowL_cons | apply low_agg | apply low_tup)) (by repeat' (first | exact lowBs_nil | apply lowBs_cons | (apply PureB.low; (exact PureEC.out)) | apply lowX_one | exact lowX_nil | exact lowL_nil | apply lowL_cons | exact Low.sl _ _ _ _ (by decide) | exact Low.ptr _ _ _ (by decide) | (apply Low.pure; (first | exact PureC.out | exact PureLC.out | assumption))))) (by omega) (by omega)
    · have d2 : decide ((0 : Int) ≤ 3 - (j : Int)) = false := decide_eq_false (by omega)
      obtain rfl : j = 4 := by omega
      rw [show 4 * k + 4 = 4 * (k + 1) by omega]
      repeat' (first | refine T_seq ?_ | refine N_then ?_ | refine N_thenE ?_ | refine N_block ?_ | refine N_blockE ?_ | refine N_againSE ?_ | refine T_regX tyOk ?_ | refine S_nil ?_ | refine T_exit ?_ | (apply T_ifF; (· exact rfl); (· (first | assumption | exact rfl))) | apply S_move | apply S_assign | apply S_geq | apply S_add | exact gt_any rfl | assumption | exact rfl | fail)
      exact N_againS (k + 1) ((weak_of (by repeat' (first | exact keepE_nil | refine keepE_cons rfl ?_)) (by repeat' (first | exact keepB_nil | refine keepB_cons (by first | rfl | exact congrArg (fun l => some (Box.mk l _ _ _)) hset) ?_)) (Nat.le_refl _))).sub (by omega) (by omega)
  · have d1 : decide ((k : Int) < 4) = false := decide_eq_false (by omega)
    obtain rfl : k = 4 := by omega
    have hr := restN_le d 16
    rw [show 4 * 4 = 16 from rfl]
    have hdgl : ((digs d 16).map numA).length = 16 := by rw [List.length_map, digs_length]
    generalize restN d 16 = r at *
    have q1 : IntKind.wrap .i64 ((r : Int).tdiv 16) = ((r / 16 : Nat) : Int) := by rw [Int.tdiv_eq_ediv_of_nonneg (by omega), wrap_i64 (by omega) (by omega)]; omega
    have q2 : IntKind.wrap .i64 ((r : Int).tdiv 4) = ((r / 4 : Nat) : Int) := by rw [Int.tdiv_eq_ediv_of_nonneg (by omega), wrap_i64 (by omega) (by omega)]; omega
    have q3 : (((r / 4 : Nat) : Int)).tmod 4 = ((r / 4 % 4 : Nat) : Int) := by rw [Int.tmod_eq_emod_of_nonneg (by omega)]; omega
    have q4 : (r : Int).tmod 4 = ((r % 4 : Nat) : Int) := by rw [Int.tmod_eq_emod_of_nonneg (by omega)]; omega
    have hset : (digs d 16).map numA ++ [.int .i64 ((r / 16 : Nat) : Int), .int .i64 ((r / 4 % 4 : Nat) : Int), .int .i64 ((r % 4 : Nat) : Int)] = (digs d 16 ++ [((r / 16 : Nat) : Int), ((r / 4 % 4 : Nat) : Int), ((r % 4 : Nat) : Int)]).map numA := by simp
    have hl19 : ((digs d 16 ++ [((r / 16 : Nat) : Int), ((r / 4 % 4 : Nat) : Int), ((r % 4 : Nat) : Int)]).map numA).length = 19 := by rw [List.length_map, List.length_append, digs_length]; rfl
    repeat' (first | refine T_seq ?_ | refine N_then ?_ | refine N_thenE ?_ | refine N_blockE ?_ | refine N_againSE ?_ | refine T_regX tyOk ?_ | refine S_nil ?_ | refine T_ret ?_ | refine T_exit ?_ | (apply T_ifF; (· exact rfl); (· (first | assumption | exact rfl))) | apply S_move | apply S_assign | apply S_lss | (apply S_quoW; (· exact gt_any rfl); (· exact gt_any rfl); (· exact rfl); (· (first | exact Nat.le_of_ble_eq_true rfl | omega | decide))) | (apply S_remW; (· exact gt_any rfl); (· exact gt_any rfl); (· exact rfl); (· (first | exact Nat.le_of_ble_eq_true rfl | omega | decide))) | (apply M_appB; (· exact rfl); (· exact rfl); (· exact gt_any rfl)) | (apply S_buildV tyOk; (· exact rfl); (· exact rfl)) | (apply mlen; first | exact rfl | assumption | exact Nat.le_of_ble_eq_true rfl | omega | (simp [bA_length]; done) | (simp [bA_length]; omega)) | (apply msz; first | assumption | exact Nat.le_of_ble_eq_true rfl | (dsimp only; simp only [List.length_append, List.length_map, List.length_cons, List.length_nil, bA_length, List.length_take, List.length_drop, List.length_replicate] at *; omega) | (dsimp only; omega)) | (apply mnorm; first | with_reducible exact app_nil0 _ | exact app_norm _ _ | exact rfl) | exact Src.ls rfl rfl | (dsimp only; omega) | exact gtsI_nil | (apply gtsI_cons; (· exact gt_any rfl)) | exact elts_nil | apply elts_cons | (intro hu; cases hu; done) | exact gt_any rfl | exact okCells_of rfl rfl | assumption | exact rfl | fail)
    rw [hset]
    (apply E_X <;> repeat' (first | exact resL_nil | (apply resL_tmp; (· exact rfl)) | (apply resL_cell; (· exact rfl); (· exact rfl); (· exact rfl); (· exact rfl); (· exact rfl); (· exact rfl)) | (apply resL_arr; (· exact rfl); (· exact rfl); (· exact rfl); (· exact rfl); (· (first | assumption | exact rfl))) | exact viewL_nil | apply viewL_cons | apply view_nothingE | (apply view_slE; (· exact rfl); (· first | exact rfl | assumption | (simp [bA_length]; done) | (simp [bA_length]; omega) | omega); (· exact PureEC.out)) | (apply view_loose; (· exact PureEC.out)) | apply view_agg | apply view_tup | (apply View.ofEq; (· exact PureC.out)) | exact rfl))

theorem isLeaf_cv (n : Int) : CV Try.prog 72 [.int .i64 n] (· = .bool (decide (0 ≤ n) && decide (n ≤ 3))) := by
  refine CV_intro tyOk Try.func72 (by kernel_rfl) rfl 5 rfl (by simp) [.tmp 2] rfl ?_
  intro w0 ok0
  repeat' (first | refine T_seq ?_ | refine N_then ?_ | refine T_regX tyOk ?_ | refine S_nil ?_ | refine T_ret ?_ | (apply E_tmp; (· exact rfl); (· (repeat' (first | exact pure_int _ _ | exact pure_bool _ | exact pure_str _); done))) | apply S_move | apply S_assign | apply S_callQ (f := 30) | apply in_cv | exact viewL_nil | apply viewL_cons | (apply View.pure; exact PureC.out) | exact FlatC.out | exact gt_any rfl | exact gts_nil | (apply gts_cons; (· exact gt_any rfl)) | exact rfl | fail)

/-- Are there so many parts, at a leaf of their own? -/
def placed (x : Sig) : Bool := (decide (0 ≤ x.leaf) && decide (x.leaf ≤ 3)) && (decide (x.parts.length = 19) && (decide (x.prf.place = x.leaf) && decide (x.prf.count = 4)))

theorem isPlaced_cv (x : Sig) (h : x.parts.length ≤ 1000000000) : CV Try.prog 53 [sigA x] (· = .bool (placed x)) := by
  refine CV_intro tyOk Try.func53 (by kernel_rfl) rfl 26 rfl (by simp) [.tmp 2] rfl ?_
  intro w0 ok0
  have hl : (x.parts.map byA).length = x.parts.length := by simp
  have e : decide (x.parts.length = 19) = decide (((x.parts.map byA).length : Int) = 19) := by
    by_cases h : x.parts.length = 19
    · rw [decide_eq_true h, decide_eq_true (by omega)]
    · rw [decide_eq_false h, decide_eq_false (by omega)]
  unfold placed
  rw [e]
  repeat' (first | refine T_seq ?_ | refine N_then ?_ | refine T_regX tyOk ?_ | refine S_nil ?_ | refine T_ret ?_ | (apply E_tmp; (· exact rfl); (· (repeat' (first | exact pure_int _ _ | exact pure_bool _ | exact pure_str _); done))) | (apply S_gt; (· exact rfl); (· exact rfl); (· (first | assumption | exact rfl))) | (apply S_gtF'; (· exact rfl); (· exact rfl); (· exact rfl); (· (first | assumption | exact rfl))) | refine S_gsplit rfl rfl (fun _ => ?_) (fun _ => ?_) | apply S_move | apply S_assign | (apply S_pickT; (· exact gt_any rfl); (· (first | assumption | exact rfl))) | (apply S_pickF; (· exact gt_any rfl); (· (first | assumption | exact rfl))) | (apply S_loadP; (· exact rfl); (· exact gt_any rfl); (· exact rfl); (· exact rfl); (· exact rfl); (· (first | exact ⟨rfl, rfl⟩ | exact ⟨rfl, trivial⟩ | assumption))) | (apply S_fieldP; (· exact rfl); (· exact rfl); (· exact rfl); (· exact rfl); (· exact gt_any rfl)) | (apply S_eql; (· exact gt_any rfl); (· exact gt_any rfl)) | (apply S_len_ls; (· exact rfl); (· exact gt_any rfl)) | apply S_box | apply S_callQ (f := 72) | apply isLeaf_cv | exact viewL_nil | apply viewL_cons | (apply View.pure; exact PureC.out) | exact FlatC.out | exact gt_any rfl | exact gts_nil | (apply gts_cons; (· exact gt_any rfl)) | exact okCells_of rfl rfl | exact rfl | fail)
  all_goals (first | rfl | (simp_all; done) | (simp_all; omega))

theorem l4Right_cv (x : Sig) (h : x.parts.length ≤ 1000000000) (h2 : x.prf.path.length ≤ 1000000000) : CV Try.prog 41 [sigA x] (· = .bool (placed x && prfOk x.prf)) := by
  refine CV_intro tyOk Try.func41 (by kernel_rfl) rfl 31 rfl (by simp) [.tmp 2] rfl ?_
  intro w0 ok0
  have hl : (x.parts.map byA).length = x.parts.length := by simp
  have c0 := l3Right_cv x.prf h2
  have e : decide (x.parts.length = 19) = decide (((x.parts.map byA).length : Int) = 19) := by
    by_cases h : x.parts.length = 19
    · rw [decide_eq_true h, decide_eq_true (by omega)]
    · rw [decide_eq_false h, decide_eq_false (by omega)]
  unfold placed
  rw [e]
  repeat' (first | refine T_seq ?_ | refine N_then ?_ | refine N_thenR ?_ | refine T_regX tyOk ?_ | refine S_nil ?_ | refine T_skip ?_ | refine T_ret ?_ | (apply E_tmp; (· exact rfl); (· (repeat' (first | exact pure_int _ _ | exact pure_bool _ | exact pure_str _); done))) | (apply T_ifT; (· exact rfl); (· (first | assumption | exact rfl))) | refine T_if rfl (fun _ => ?_) (fun _ => ?_) | (apply S_gt; (· exact rfl); (· exact rfl); (· (first | assumption | exact rfl))) | (apply S_gf; (· exact rfl); (· exact rfl); (· (first | assumption | exact rfl))) | (apply S_gtF'; (· exact rfl); (· exact rfl); (· exact rfl); (· (first | assumption | exact rfl))) | (apply S_gfT'; (· exact rfl); (· exact rfl); (· exact rfl); (· (first | assumption | exact rfl))) | refine S_gsplit rfl rfl (fun _ => ?_) (fun _ => ?_) | apply S_move | apply S_assign | (apply S_pickT; (· exact gt_any rfl); (· (first | assumption | exact rfl))) | (apply S_pickF; (· exact gt_any rfl); (· (first | assumption | exact rfl))) | (apply S_loadP; (· exact rfl); (· exact gt_any rfl); (· exact rfl); (· exact rfl); (· exact rfl); (· (first | exact ⟨rfl, rfl⟩ | exact ⟨rfl, trivial⟩ | assumption))) | (apply M_loadA; (· exact rfl); (· exact rfl); (· exact gt_any rfl); (· exact rfl); (· exact rfl); (· (repeat' constructor))) | (apply S_fieldP; (· exact rfl); (· exact rfl); (· exact rfl); (· exact rfl); (· exact gt_any rfl)) | (apply S_eql; (· exact gt_any rfl); (· exact gt_any rfl)) | (apply S_neq; (· exact gt_any rfl); (· exact gt_any rfl)) | apply S_not | (apply S_len_ls; (· exact rfl); (· exact gt_any rfl)) | apply S_box | apply S_callQ (f := 61) | apply c0 | apply S_callQ (f := 20) | apply l1In_cv | exact viewL_nil | apply viewL_cons | (apply View.pure; exact PureC.out) | exact FlatC.out | exact gt_any rfl | exact gts_nil | (apply gts_cons; (· exact gt_any rfl)) | exact okCells_of rfl rfl | exact rfl | fail)
  all_goals (first | rfl | (simp_all; done) | (simp_all; omega))

end Go.Proofs.Ytoempiaimebncaa
