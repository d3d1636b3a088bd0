/- The digits of a message. -/
import Derived.Test.YtoempiaimebncaaZd
set_option maxRecDepth 100000
set_option maxHeartbeats 3200000
set_option linter.unusedSimpArgs false
set_option linter.unusedVariables false
namespace Go.Proofs.Ytoempiaimebncaa
open Go.Av
attribute [local irreducible] T thenQ blockQ againQ againS WX retV retR Gt Gts GtsP okCells CV CR Av.Pure
attribute [local irreducible] sha

theorem and3 (a : Nat) (h : a < 256) : bits .and .u8 (a : Int) 3 = ((a % 4 : Nat) : Int) := by
  have e : a % 4 = a &&& 3 := (Nat.and_two_pow_sub_one_eq_mod a 2).symm
  rw [e]
  have h1 : (BitVec.ofInt 8 (a : Int)).toNat = a := by simp [BitVec.toNat_ofInt]; omega
  show IntKind.wrap .u8 (((BitVec.ofInt 8 (a : Int)) &&& (BitVec.ofInt 8 (3 : Int))).toNat : Int) = _
  rw [BitVec.toNat_and, h1, show (BitVec.ofInt 8 (3 : Int)).toNat = 3 by decide]
  have : a &&& 3 ≤ 3 := Nat.and_le_right
  exact wrap_u8 (by omega) (by omega)

/-- The digits of base 4 of bytes. -/
def digAt (d : List UInt8) (i : Nat) : Nat := ((d.getD (i / 4) 0).toNat >>> (6 - 2 * (i % 4))) % 4
def digs (d : List UInt8) (n : Nat) : List Int := (List.range n).map fun i => (digAt d i : Int)
def restN (d : List UInt8) : Nat → Nat
  | 0 => 0
  | n + 1 => restN d n + 3 - digAt d n
theorem digAt_le (d : List UInt8) (i : Nat) : digAt d i ≤ 3 := by unfold digAt; omega
theorem digs_succ (d : List UInt8) (n : Nat) : (digs d n).map numA ++ [.int .i64 (digAt d n : Int)] = (digs d (n + 1)).map numA := by
  unfold digs
  rw [List.range_succ]
  simp
theorem digs_length (d : List UInt8) (n : Nat) : (digs d n).length = n := by simp [digs]
theorem restN_le (d : List UInt8) : ∀ n, restN d n ≤ 3 * n
  | 0 => Nat.le_refl _
  | n + 1 => by have := restN_le d n; have := digAt_le d n; rw [restN]; omega
def messD (m : List UInt8) : List UInt8 := sha (tagL messS ++ m)
def digL (m : List UInt8) : List Int := digs (messD m) 16 ++ [((restN (messD m) 16 / 16 : Nat) : Int), ((restN (messD m) 16 / 4 % 4 : Nat) : Int), ((restN (messD m) 16 % 4 : Nat) : Int)]
theorem digL_length (m : List UInt8) : (digL m).length = 19 := by unfold digL; rw [List.length_append, digs_length]; rfl
theorem digL_range (m : List UInt8) : ∀ x ∈ digL m, 0 ≤ x ∧ x ≤ 3 := by
  intro x hx
  have h16 := restN_le (messD m) 16
  unfold digL at hx
  rcases List.mem_append.1 hx with h | h
  · unfold digs at h
    obtain ⟨i, _, rfl⟩ := List.mem_map.1 h
    have := digAt_le (messD m) i
    omega
  · simp only [List.mem_cons, List.not_mem_nil, or_false] at h
    rcases h with rfl | rfl | rfl <;> omega

theorem dig_shr (x : UInt8) (j : Nat) (h : j < 4) : bits .and .u8 (((x.toNat : Int)).fdiv (2 ^ min ((6 : Int) - 2 * (j : Int)).toNat IntKind.u8.bits)) 3 = ((x.toNat >>> (6 - 2 * j) % 4 : Nat) : Int) := by
  have hx := UInt8.toNat_lt x
  rw [show ((6 : Int) - 2 * (j : Int)).toNat = 6 - 2 * j by omega, show IntKind.u8.bits = 8 from rfl, Nat.min_eq_left (by omega), fdiv_pow]
  have : x.toNat >>> (6 - 2 * j) ≤ x.toNat := by rw [Nat.shiftRight_eq_div_pow]; exact Nat.div_le_self _ _
  exact and3 _ (by omega)

theorem implDigitsOf_cv (m : List UInt8) (h : m.length ≤ 100000000) : CV Try.prog 54 [sl1 (bA m)] (· = sl1 ((digL m).map numA)) := by
  refine CV_intro tyOk Try.func54 (by kernel_rfl) rfl 47 rfl (by simp) [.tmp 2] rfl ?_
  intro w0 ok0
  have e : [m].flatten = m := by simp
  have c0 := tagged_cv messS [m] (by decide) (by rw [e]; omega) (by simp)
  rw [e] at c0
  have hD : messD m = sha (tagL messS ++ m) := rfl
  rw [← hD] at c0
  have hdl : (messD m).length = 32 := sha_length _
  have hdig : digL m = digs (messD m) 16 ++ [((restN (messD m) 16 / 16 : Nat) : Int), ((restN (messD m) 16 / 4 % 4 : Nat) : Int), ((restN (messD m) 16 % 4 : Nat) : Int)] := rfl
  clear hD
  rw [hdig]
  clear hdig
  generalize messD m = d at *
  have c1 : CV Try.prog 51 [.str messS, .ls 1 false true [byA m]] (· = sl1 (bA d)) := c0.args rfl (loose2 (Loose.refl _) (loose_ls _ _ _ _))
  have hbl : (bA d).length = 32 := by rw [bA_length, hdl]
  have h4 : (bA (d.take 4)).length = 4 := by rw [bA_length, List.length_take]; omega
  have ht : List.take (4 - 0) (List.drop 0 (bA d)) = bA (d.take 4) := by simp [bA]
  repeat' (first | refine T_seq ?_ | refine N_then ?_ | refine T_regX tyOk ?_ | refine S_nil ?_ | refine T_block ?_ | apply S_move | apply S_assign | (apply S_len_ls; (· exact rfl); (· exact gt_any rfl)) | (apply S_buildL tyOk (ps := []); (· exact rfl); (· exact rfl); (· exact rfl)) | (apply S_buildV tyOk; (· exact rfl); (· exact rfl)) | (apply M_slLs; (· exact rfl); (· exact rfl); (· exact gt_any rfl); (· exact rfl)) | apply S_call (f := 51) | apply c1 | exact PureLC.out | (apply mlen; first | exact rfl | assumption | exact Nat.le_of_ble_eq_true rfl | omega | (simp [bA_length]; done) | (simp [bA_length]; omega)) | (apply mtake; first | assumption | exact take_full (by first | rfl | (simp; done)) | exact rfl) | (dsimp only; omega) | (apply mnat; first | exact Int.toNat_natCast _ | exact rfl) | exact Bd.no _ | (apply bd_at; (· exact gt_any rfl)) | exact gtsI_nil | (apply gtsI_cons; (· exact gt_any rfl)) | exact elts_nil | apply elts_cons | (intro hu; cases hu; done) | exact gt_any rfl | exact gts_nil | (apply gts_cons; (· exact gt_any rfl)) | exact okCells_of rfl rfl | omega | exact rfl | fail)
  refine T_roundsS (α := Nat) (fun k => ⟨[(3, .sl 0 0 (4 * k) (4 * k)), (4, .int .i64 (restN d (4 * k) : Int)), (13, sl1 (bA (d.take 4))), (14, .int .i64 (bA (d.take 4)).length), (15, .int .i64 k)], [(0, some ⟨(digs d (4 * k)).map numA, 1, true, false⟩)], 1⟩)
    (fun k => 4 - k) (fun k => k ≤ 4) 0 ((weak_of (by repeat' (first | exact keepE_nil | refine keepE_cons rfl ?_)) (by repeat' (first | exact keepB_nil | refine keepB_cons (by first | rfl | exact congrArg (fun l => some (Box.mk l _ _ _)) hset) ?_)) (Nat.le_refl _))).sub (by omega) ?_
  intro k hk
  by_cases hk4 : k < 4
  · have d1 : decide ((k : Int) < ((bA (d.take 4)).length : Int)) = true := decide_eq_true (by omega)
    have hget := bA_getD (d.take 4) (k := k) (by rw [List.length_take]; omega)
    have hg2 : (d.take 4).getD k 0 = d.getD k 0 := by rw [List.getD_eq_getElem?_getD, List.getD_eq_getElem?_getD, List.getElem?_take_of_lt hk4]
    rw [hg2] at hget
    have hw : IntKind.wrap .i64 ((k : Int) + 1) = ((k + 1 : Nat) : Int) := by rw [wrap_i64 (by omega) (by omega)]; omega
    repeat' (first | refine T_seq ?_ | refine N_then ?_ | refine T_regX tyOk ?_ | refine S_nil ?_ | refine T_skip ?_ | refine T_block ?_ | (apply T_ifT; (· exact rfl); (· (first | assumption | exact rfl))) | apply S_assign | (apply S_loadV; (· exact rfl); (· exact gt_any rfl); (· exact rfl); (· (first | exact ⟨rfl, rfl⟩ | exact ⟨rfl, trivial⟩ | assumption))) | apply S_lss | (apply S_idxLs; (· exact rfl); (· exact rfl); (· exact gt_any rfl); (· exact gt_any rfl)) | exact gt_any rfl | assumption | (refine ⟨?_, ?_⟩ <;> omega) | exact rfl | fail)
    refine T_roundsS (α := Nat) (fun j => ⟨[(3, .sl 0 0 (4 * k + j) (4 * k + j)), (4, .int .i64 (restN d (4 * k + j) : Int)), (6, .int .u8 ((d.getD k 0).toNat : Int)), (7, .int .i64 (6 - 2 * (j : Int))), (13, sl1 (bA (d.take 4))), (14, .int .i64 (bA (d.take 4)).length), (15, .int .i64 k)], [(0, some ⟨(digs d (4 * k + j)).map numA, 1, true, false⟩)], 1⟩)
      (fun j => 4 - j) (fun j => j ≤ 4) 0 ((weak_of (by repeat' (first | exact keepE_nil | refine keepE_cons rfl ?_)) (by repeat' (first | exact keepB_nil | refine keepB_cons (by first | rfl | exact congrArg (fun l => some (Box.mk l _ _ _)) hset) ?_)) (Nat.le_refl _))).sub (by omega) ?_
    intro j hj
    by_cases hj4 : j < 4
    · have d2 : decide ((0 : Int) ≤ 6 - 2 * (j : Int)) = true := decide_eq_true (by omega)
      have hs := dig_shr (d.getD k 0) j hj4
      have hda : (d.getD k 0).toNat >>> (6 - 2 * j) % 4 = digAt d (4 * k + j) := by
        unfold digAt
        rw [show (4 * k + j) / 4 = k by omega, show (4 * k + j) % 4 = j by omega]
      rw [hda] at hs
      have hset := digs_succ d (4 * k + j)
      have hdl3 := digAt_le d (4 * k + j)
      have hr3 := restN_le d (4 * k + j)
      have hrn : restN d (4 * k + j + 1) = restN d (4 * k + j) + 3 - digAt d (4 * k + j) := rfl
      have hdgl : ((digs d (4 * k + j)).map numA).length = 4 * k + j := by rw [List.length_map, digs_length]
      generalize digAt d (4 * k + j) = z at *
      have w1 : IntKind.wrap .i64 ((z : Int)) = (z : Int) := wrap_i64 (by omega) (by omega)
      have w2 : IntKind.wrap .i64 ((restN d (4 * k + j) : Int) + 3) = ((restN d (4 * k + j) + 3 : Nat) : Int) := by rw [wrap_i64 (by omega) (by omega)]; omega
      have w3 : IntKind.wrap .i64 (((restN d (4 * k + j) + 3 : Nat) : Int) - (z : Int)) = (restN d (4 * k + j + 1) : Int) := by rw [wrap_i64 (by omega) (by omega)]; omega
      have w4 : IntKind.wrap .i64 (6 - 2 * (j : Int) - 2) = 6 - 2 * ((j + 1 : Nat) : Int) := by rw [wrap_i64 (by omega) (by omega)]; omega
      repeat' (first | refine T_seq ?_ | refine N_then ?_ | refine N_block ?_ | refine T_regX tyOk ?_ | refine S_nil ?_ | refine T_skip ?_ | refine T_block ?_ | (apply T_ifT; (· exact rfl); (· (first | assumption | exact rfl))) | apply S_move | apply S_assign | apply S_geq | apply S_add | apply S_sub | (apply S_conv; (· exact rfl); (· exact rfl); (· exact gt_any rfl)) | apply S_shrW | (apply M_appB; (· exact rfl); (· exact rfl); (· exact gt_any rfl)) | (apply S_buildL tyOk; (· exact rfl); (· exact rfl); (· exact rfl)) | (apply S_bits; (· (first | exact Or.inl rfl | exact Or.inr (Or.inl rfl) | exact Or.inr (Or.inr (Or.inl rfl)) | exact Or.inr (Or.inr (Or.inr rfl))))) | (apply mtake; first | assumption | exact take_full (by first | rfl | (simp; done)) | exact rfl) | (apply mlen; first | exact rfl | assumption | exact Nat.le_of_ble_eq_true rfl | omega | (simp [bA_length]; done) | (simp [bA_length]; omega)) | (apply msz; first | assumption | exact Nat.le_of_ble_eq_true rfl | (dsimp only; simp only [List.length_append, List.length_map, List.length_cons, List.length_nil, bA_length, List.length_take, List.length_drop, List.length_replicate] at *; omega) | (dsimp only; omega)) | (apply mnorm; first | with_reducible exact app_nil0 _ | exact app_norm _ _ | exact rfl) | (apply mtake; first | assumption | exact take_full (by first | rfl | (simp; done)) | exact rfl) | (apply src_sl; (· exact rfl); (· exact rfl); (· exact rfl)) | (dsimp only; omega) | exact gtsI_nil | (apply gtsI_cons; (· exact gt_any rfl)) | exact elts_nil | apply elts_cons | (intro hu; cases hu; done) | exact gt_any rfl | exact okCells_of rfl rfl | assumption | omega | exact rfl | fail)
      exact N_againS (j + 1) (sub_names [(0, 2)] (k0 := 0) rfl (by rfl) (by repeat' (first | exact pullE_nil | (apply pullE_cons; (· exact rfl)) | exact Ren.sl _ _ _ _ | (apply ren_slE; (· first | exact rfl | omega); (· first | exact rfl | assumption | (simp [bA_length]; done) | (simp [bA_length]; omega)); (· first | exact rfl | assumption | (simp [bA_length]; done) | (simp [bA_length]; omega))) | exact Ren.ptr _ _ _ | (apply Ren.pure; (first | exact PureC.out | exact PureLC.out | assumption)) | exact renL_nil | apply renL_cons | apply ren_agg | apply ren_tup)) (by repeat' (first | exact pullB_nil | (apply pullB_pure; (· first | exact rfl | exact congrArg (fun l => some (Box.mk l _ _ _)) hset); (· (exact PureEC.out))) | (apply pullB_one; (· exact rfl)) | exact renL_nil | apply renL_cons | exact Ren.sl _ _ _ _ | exact Ren.ptr _ _ _ | (apply Ren.pure; (first | exact PureC.out | exact PureLC.out | assumption)) | apply ren_agg)) (by repeat' (first | exact lowE_nil | apply lowE_cons | exact Low.sl _ _ _ _ (by decide) | exact Low.ptr _ _ _ (by decide) | (apply Low.pure; (first | exact PureC.out | exact PureLC.out | assumption)) | exact lowL_nil | apply lowL_cons | apply low_agg | apply low_tup)) (by repeat' (first | exact lowBs_nil | apply lowBs_cons | (apply PureB.low; (exact PureEC.out)) | apply lowX_one | exact lowX_nil | exact lowL_nil | apply lowL_cons | exact Low.sl _ _ _ _ (by decide) | exact Low.ptr _ _ _ (by decide) | (apply Low.pure; (first | exact PureC.out | exact PureLC.out | assumption))))) (by omega) (by omega)
    · have d2 : decide ((0 : Int) ≤ 6 - 2 * (j : Int)) = false := decide_eq_false (by omega)
      obtain rfl : j = 4 := by omega
      rw [show 4 * k + 4 = 4 * (k + 1) by omega]
      repeat' (first | refine T_seq ?_ | refine N_then ?_ | refine N_thenE ?_ | refine N_block ?_ | refine N_blockE ?_ | refine N_againSE ?_ | refine T_regX tyOk ?_ | refine S_nil ?_ | refine T_exit ?_ | (apply T_ifF; (· exact rfl); (· (first | assumption | exact rfl))) | apply S_move | apply S_geq | apply S_add | exact gt_any rfl | assumption | exact rfl | fail)
      exact N_againS (k + 1) ((weak_of (by repeat' (first | exact keepE_nil | refine keepE_cons rfl ?_)) (by repeat' (first | exact keepB_nil | refine keepB_cons (by first | rfl | exact congrArg (fun l => some (Box.mk l _ _ _)) hset) ?_)) (Nat.le_refl _))).sub (by omega) (by omega)
  · have d1 : decide ((k : Int) < ((bA (d.take 4)).length : Int)) = false := decide_eq_false (by omega)
    obtain rfl : k = 4 := by omega
    have hr := restN_le d 16
    rw [show 4 * 4 = 16 from rfl]
    have hdgl : ((digs d 16).map numA).length = 16 := by rw [List.length_map, digs_length]
    generalize restN d 16 = r at *
    have q1 : IntKind.wrap .i64 ((r : Int).tdiv 16) = ((r / 16 : Nat) : Int) := by rw [Int.tdiv_eq_ediv_of_nonneg (by omega), wrap_i64 (by omega) (by omega)]; omega
    have q2 : IntKind.wrap .i64 ((r : Int).tdiv 4) = ((r / 4 : Nat) : Int) := by rw [Int.tdiv_eq_ediv_of_nonneg (by omega), wrap_i64 (by omega) (by omega)]; omega
    have q3 : (((r / 4 : Nat) : Int)).tmod 4 = ((r / 4 % 4 : Nat) : Int) := by rw [Int.tmod_eq_emod_of_nonneg (by omega)]; omega
    have q4 : (r : Int).tmod 4 = ((r % 4 : Nat) : Int) := by rw [Int.tmod_eq_emod_of_nonneg (by omega)]; omega
    have hset : (digs d 16).map numA ++ [.int .i64 ((r / 16 : Nat) : Int), .int .i64 ((r / 4 % 4 : Nat) : Int), .int .i64 ((r % 4 : Nat) : Int)] = (digs d 16 ++ [((r / 16 : Nat) : Int), ((r / 4 % 4 : Nat) : Int), ((r % 4 : Nat) : Int)]).map numA := by simp
    have hl19 : ((digs d 16 ++ [((r / 16 : Nat) : Int), ((r / 4 % 4 : Nat) : Int), ((r % 4 : Nat) : Int)]).map numA).length = 19 := by rw [List.length_map, List.length_append, digs_length]; rfl
    repeat' (first | refine T_seq ?_ | refine N_then ?_ | refine N_thenE ?_ | refine N_blockE ?_ | refine N_againSE ?_ | refine T_regX tyOk ?_ | refine S_nil ?_ | refine T_ret ?_ | refine T_exit ?_ | (apply T_ifF; (· exact rfl); (· (first | assumption | exact rfl))) | apply S_move | apply S_assign | apply S_lss | (apply S_quoW; (· exact gt_any rfl); (· exact gt_any rfl); (· exact rfl); (· (first | exact Nat.le_of_ble_eq_true rfl | omega | decide))) | (apply S_remW; (· exact gt_any rfl); (· exact gt_any rfl); (· exact rfl); (· (first | exact Nat.le_of_ble_eq_true rfl | omega | decide))) | (apply M_appB; (· exact rfl); (· exact rfl); (· exact gt_any rfl)) | (apply S_buildL tyOk; (· exact rfl); (· exact rfl); (· exact rfl)) | (apply mtake; first | assumption | exact take_full (by first | rfl | (simp; done)) | exact rfl) | (apply mlen; first | exact rfl | assumption | exact Nat.le_of_ble_eq_true rfl | omega | (simp [bA_length]; done) | (simp [bA_length]; omega)) | (apply msz; first | assumption | exact Nat.le_of_ble_eq_true rfl | (dsimp only; simp only [List.length_append, List.length_map, List.length_cons, List.length_nil, bA_length, List.length_take, List.length_drop, List.length_replicate] at *; omega) | (dsimp only; omega)) | (apply mnorm; first | with_reducible exact app_nil0 _ | exact app_norm _ _ | exact rfl) | (apply mtake; first | assumption | exact take_full (by first | rfl | (simp; done)) | exact rfl) | (apply src_sl; (· exact rfl); (· exact rfl); (· exact rfl)) | (dsimp only; omega) | exact gtsI_nil | (apply gtsI_cons; (· exact gt_any rfl)) | exact elts_nil | apply elts_cons | (intro hu; cases hu; done) | exact gt_any rfl | exact okCells_of rfl rfl | assumption | exact rfl | fail)
    rw [hset]
    (apply E_X <;> repeat' (first | exact resL_nil | (apply resL_tmp; (· exact rfl)) | (apply resL_cell; (· exact rfl); (· exact rfl); (· exact rfl); (· exact rfl); (· exact rfl); (· exact rfl)) | (apply resL_arr; (· exact rfl); (· exact rfl); (· exact rfl); (· exact rfl); (· (first | assumption | exact rfl))) | exact viewL_nil | apply viewL_cons | apply view_nothingE | (apply view_slE; (· exact rfl); (· first | exact rfl | assumption | (simp [bA_length]; done) | (simp [bA_length]; omega) | omega); (· exact PureEC.out)) | (apply view_loose; (· exact PureEC.out)) | apply view_agg | apply view_tup | (apply View.ofEq; (· exact PureC.out)) | exact rfl))

end Go.Proofs.Ytoempiaimebncaa
