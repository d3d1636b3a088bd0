/- Validators and the heads of the second chain, as the helpers of the laws take them. -/
import Derived.Test.YthfikpgbddpmoaaRa
import Derived.Test.YthfikpgbddpmoaaGi
set_option maxRecDepth 100000
set_option maxHeartbeats 3200000
set_option linter.unusedSimpArgs false
set_option linter.unusedVariables false
namespace Go.Proofs.Ythfikpgbddpmoaa
open Go.Av
attribute [local irreducible] T thenQ blockQ againQ againS WX retV retR Gt Gts GtsP okCells CV CR Av.Pure

structure Vld where
  key : List UInt8
  power : Int
  deriving DecidableEq

abbrev Vld0 : Vld := ⟨[], 0⟩

abbrev vldA (x : Vld) : AV := .agg [byA x.key, .int .i64 x.power]

abbrev vldAC (x : Vld) : List AV := [byA x.key, .int .i64 x.power]

instance : ElemF vldA := ⟨fun a y hy => by
  have h := (inferInstance : CellsC (vldAC a)).out y hy
  exact h⟩

abbrev vldAS (l : List Vld) : AV := .ls 2 true false (l.map vldA)

def VldW (x : Vld) : Nat := x.key.length

def VldR (x : Vld) : Prop := x.key.length ≤ 9223372036854775807

theorem szValidator_cv (x : Vld) (left : Int) (hx : VldR x) (h0 : 0 ≤ left) (h1 : left ≤ 9223372036854775807) :
    CV Try.prog 189 [vldA x, .int .i64 left] (· = .int .i64 (szAfter left (VldW x))) := by
  refine CV_intro tyOk Try.func189 (by kernel_rfl) rfl 12 rfl (by simp) [.tmp 4] rfl ?_
  intro w0 ok0
  have hx0 : x.key.length ≤ 9223372036854775807 := hx
  have c0 := szByteS_cv x.key (left) hx0 (by omega) (by omega)
  by_cases g0 : left - (x.key.length : Nat) < 0
  · have e0 : szAfter (left) (x.key.length : Nat) = -1 := szAfter_neg g0
    rw [e0] at c0
    have f : szAfter left (VldW x : Nat) = -1 := szAfter_neg (by unfold VldW; omega)
    rw [f]
    have d : decide ((-1 : Int) < 0) = true := rfl
    repeat' (first | refine T_seq ?_ | refine N_then ?_ | refine N_thenR ?_ | refine T_regX tyOk ?_ | refine S_nil ?_ | refine T_ret ?_ | (apply E_tmp; (· exact rfl); (· (repeat' (first | exact pure_int _ _ | exact pure_bool _ | exact pure_str _); done))) | (apply T_ifT; (· exact rfl); (· (first | assumption | exact rfl))) | apply S_move | apply S_assign | (apply S_loadP; (· exact rfl); (· exact gt_any rfl); (· exact rfl); (· exact rfl); (· exact rfl); (· (first | exact ⟨rfl, rfl⟩ | exact ⟨rfl, trivial⟩ | assumption))) | (apply S_fieldP; (· exact rfl); (· exact rfl); (· exact rfl); (· exact rfl); (· exact gt_any rfl)) | apply S_lss | apply S_box | apply S_callQ (f := 91) | apply c0 | exact viewL_nil | apply viewL_cons | (apply View.pure; exact PureC.out) | exact FlatC.out | exact gt_any rfl | exact gts_nil | (apply gts_cons; (· exact gt_any rfl)) | exact okCells_of rfl rfl | assumption | exact rfl | fail)
  have e0 : szAfter (left) (x.key.length : Nat) = left - (x.key.length : Nat) := by rw [szAfter_pos g0]; try omega
  rw [e0] at c0
  have d0 : decide (left - ((x.key.length : Nat) : Int) < 0) = false := decide_eq_false (by omega)
  have f : szAfter left (VldW x : Nat) = left - (x.key.length : Nat) := szAfter_pos (by unfold VldW; omega)
  rw [f]
  repeat' (first | refine T_seq ?_ | refine N_then ?_ | refine T_regX tyOk ?_ | refine S_nil ?_ | refine T_skip ?_ | refine T_ret ?_ | (apply E_tmp; (· exact rfl); (· (repeat' (first | exact pure_int _ _ | exact pure_bool _ | exact pure_str _); done))) | (apply T_ifF; (· exact rfl); (· (first | assumption | exact rfl))) | apply S_move | apply S_assign | (apply S_loadP; (· exact rfl); (· exact gt_any rfl); (· exact rfl); (· exact rfl); (· exact rfl); (· (first | exact ⟨rfl, rfl⟩ | exact ⟨rfl, trivial⟩ | assumption))) | (apply S_fieldP; (· exact rfl); (· exact rfl); (· exact rfl); (· exact rfl); (· exact gt_any rfl)) | apply S_lss | apply S_box | apply S_callQ (f := 91) | apply c0 | exact viewL_nil | apply viewL_cons | (apply View.pure; exact PureC.out) | exact FlatC.out | exact gt_any rfl | exact gts_nil | (apply gts_cons; (· exact gt_any rfl)) | exact okCells_of rfl rfl | exact rfl | fail)

theorem toValidator_cv (x : Vld) (h : VldW x ≤ 1048576) : CV Try.prog 191 [vldA x] (· = vldA x) := by
  refine CV_intro tyOk Try.func191 (by kernel_rfl) rfl 12 rfl (by simp) [.cell 2 202] rfl ?_
  intro w0 ok0
  unfold VldW at h
  have c0 := toByteS_cv x.key (by omega)
  repeat' (first | refine T_seq ?_ | refine N_then ?_ | refine T_regX tyOk ?_ | refine S_nil ?_ | refine T_ret ?_ | (apply E_X <;> repeat' (first | exact resL_nil | (apply resL_tmp; (· exact rfl)) | (apply resL_cell; (· exact rfl); (· exact rfl); (· exact rfl); (· exact rfl); (· exact rfl); (· exact rfl)) | (apply resL_arr; (· exact rfl); (· exact rfl); (· exact rfl); (· exact rfl); (· (first | assumption | exact rfl))) | exact viewL_nil | apply viewL_cons | apply view_nothingE | (apply view_slE; (· exact rfl); (· first | exact rfl | assumption | (simp [bA_length]; done) | (simp [bA_length]; omega) | omega); (· exact PureEC.out)) | (apply view_loose; (· exact PureEC.out)) | apply view_agg | apply view_tup | (apply View.ofEq; (· exact PureC.out)) | exact rfl)) | (apply S_loadP; (· exact rfl); (· exact gt_any rfl); (· exact rfl); (· exact rfl); (· exact rfl); (· (first | exact ⟨rfl, rfl⟩ | exact ⟨rfl, trivial⟩ | assumption))) | (apply S_loadW; (· exact rfl); (· exact gt_any rfl); (· exact rfl); (· exact rfl); (· exact rfl); (· exact rfl); (· exact rfl); (· exact rfl)) | (apply S_fieldP; (· exact rfl); (· exact rfl); (· exact rfl); (· exact rfl); (· exact gt_any rfl)) | apply S_alloc | apply S_box | (apply S_store1; (· exact rfl); (· exact gt_any rfl); (· exact rfl); (· exact rfl); (· exact rfl); (· exact rfl)) | (apply S_storeF; (· exact rfl); (· exact gt_any rfl); (· exact rfl); (· exact rfl); (· exact rfl); (· exact rfl); (· exact gt_any rfl); (· exact rfl); (· exact rfl); (· (repeat' constructor))) | apply S_call (f := 49) | apply c0 | exact PureLC.out | exact gt_any rfl | exact gts_nil | (apply gts_cons; (· exact gt_any rfl)) | exact okCells_of rfl rfl | exact rfl | fail)

theorem eqValidator_cv (x : Vld) (h : VldW x ≤ 1048576) : CV Try.prog 195 [vldA x, vldA x] (· = .bool true) := by
  refine CV_intro tyOk Try.func195 (by kernel_rfl) rfl 16 rfl (by simp) [.tmp 4] rfl ?_
  intro w0 ok0
  unfold VldW at h
  have c0 := eqB_cv x.key (by omega)
  have i1 : (!decide (x.power = x.power)) = false := by simp
  repeat' (first | refine T_seq ?_ | refine N_then ?_ | refine T_regX tyOk ?_ | refine S_nil ?_ | refine T_skip ?_ | refine T_ret ?_ | (apply E_tmp; (· exact rfl); (· (repeat' (first | exact pure_int _ _ | exact pure_bool _ | exact pure_str _); done))) | (apply T_ifF; (· exact rfl); (· (first | assumption | exact rfl))) | apply S_assign | (apply S_loadP; (· exact rfl); (· exact gt_any rfl); (· exact rfl); (· exact rfl); (· exact rfl); (· (first | exact ⟨rfl, rfl⟩ | exact ⟨rfl, trivial⟩ | assumption))) | (apply S_fieldP; (· exact rfl); (· exact rfl); (· exact rfl); (· exact rfl); (· exact gt_any rfl)) | (apply S_neq; (· exact gt_any rfl); (· exact gt_any rfl)) | apply S_not | apply S_box | apply S_callQ (f := 52) | apply c0 | exact viewL_nil | apply viewL_cons | (apply View.pure; exact PureC.out) | exact FlatC.out | exact gt_any rfl | exact gts_nil | (apply gts_cons; (· exact gt_any rfl)) | exact okCells_of rfl rfl | exact rfl | fail)

theorem elemValidator {x : AV} {ei : TI} {n : Nat} (hk : isAggK ei.k = true) (h : TyN ty (n + 2) 201 x.cells ∧ x = (if isAggK ei.k then .agg x.cells else x.cells.getD 0 .undef)) : ∃ a : Vld, x = vldA a ∧ VldR a := by
  obtain ⟨⟨ls, h1, h2, h3⟩, h4⟩ := h
  have hl : leafs ty 8 201 = some [22, 2] := rfl
  rw [hl] at h1
  obtain rfl := Option.some.inj h1
  rw [if_pos hk] at h4
  generalize x.cells = cs at h2 h3 h4
  subst h4
  match cs, h2 with
  | [a0, a1], _ =>
    obtain ⟨e0, xs0, u0, rfl, v0, w0⟩ := h3 0 _ _ rfl rfl
    obtain rfl := Option.some.inj u0
    obtain ⟨q0, rfl⟩ := bytes_of rfl rfl rfl xs0 w0
    rw [bA_length] at v0
    obtain ⟨i1, rfl, _⟩ := h3 1 _ _ rfl rfl
    exact ⟨⟨q0, i1⟩, rfl, v0⟩

theorem szValidatorS_cv (l : List Vld) (left : Int) (hx : listR VldR l) (h0 : 0 ≤ left) (h1 : left ≤ 9223372036854775807) :
    CV Try.prog 132 [vldAS l, .int .i64 left] (· = .int .i64 (szAfter left (listW VldW l))) := by
  refine CV_intro tyOk Try.func132 (by kernel_rfl) rfl 27 rfl (by simp) [.tmp 4] rfl ?_
  intro w0 ok0
  have hl : (l.map vldA).length = l.length := by simp
  obtain ⟨hn, hall⟩ := hx
  have hw0 : IntKind.wrap .i64 (left - ((l.map vldA).length : Int)) = left - (l.length : Int) := by rw [wrap_i64 (by omega) (by omega)]; omega
  by_cases g : left - (l.length : Int) < 0
  · have d : decide (left - (l.length : Int) < 0) = true := decide_eq_true g
    have f : szAfter left (listW VldW l : Nat) = -1 := szAfter_neg (by unfold listW; omega)
    rw [f]
    repeat' (first | refine T_seq ?_ | refine N_then ?_ | refine N_thenR ?_ | refine T_regX tyOk ?_ | refine S_nil ?_ | refine T_ret ?_ | (apply E_tmp; (· exact rfl); (· (repeat' (first | exact pure_int _ _ | exact pure_bool _ | exact pure_str _); done))) | (apply T_ifT; (· exact rfl); (· (first | assumption | exact rfl))) | apply S_move | apply S_assign | apply S_lss | apply S_sub | (apply S_len_ls; (· exact rfl); (· exact gt_any rfl)) | exact gt_any rfl | assumption | exact rfl | fail)
  have d : decide (left - (l.length : Int) < 0) = false := decide_eq_false g
  repeat' (first | refine T_seq ?_ | refine N_then ?_ | refine T_regX tyOk ?_ | refine S_nil ?_ | refine T_skip ?_ | refine T_block ?_ | (apply T_ifF; (· exact rfl); (· (first | assumption | exact rfl))) | apply S_move | apply S_assign | apply S_lss | apply S_sub | (apply S_len_ls; (· exact rfl); (· exact gt_any rfl)) | exact gt_any rfl | assumption | exact rfl | fail)
  refine T_roundsS (α := Nat) (fun k => ⟨[(0, vldAS l), (1, .int .i64 (left - (l.length : Int) - (sumW VldW (l.take k) : Int))), (5, .int .i64 k)], [], 0⟩)
    (fun k => l.length - k) (fun k => k ≤ l.length ∧ 0 ≤ left - (l.length : Int) - (sumW VldW (l.take k) : Int)) 0 ?_ ⟨by omega, by simp [sumW]; omega⟩ ?_
  · have e : left - (l.length : Int) - (sumW VldW (l.take 0) : Int) = left - (l.length : Int) := by simp [sumW]
    rw [e]
    exact ((weak_of (by repeat' (first | exact keepE_nil | refine keepE_cons rfl ?_)) (by repeat' (first | exact keepB_nil | refine keepB_cons (by first | rfl | exact congrArg (fun l => some (Box.mk l _ _ _)) hset) ?_)) (Nat.le_refl _))).sub
  rintro k ⟨hk, hI⟩
  by_cases hkl : k < l.length
  · have hc : decide ((k : Int) < ((l.map vldA).length : Int)) = true := by simp only [decide_eq_true_eq]; omega
    have hget := map_getD vldA l Vld0 (k := k) (by omega)
    have hkw : IntKind.wrap .i64 ((k : Int) + 1) = ((k + 1 : Nat) : Int) := by rw [wrap_i64 (by omega) (by omega)]; omega
    have hs := sumW_take VldW l Vld0 hkl
    have hr := hall _ (getD_mem l Vld0 hkl)
    have hle := sumW_le VldW l (k + 1)
    generalize l.getD k Vld0 = x at *
    have c0 := szValidator_cv x (left - (l.length : Int) - (sumW VldW (l.take k) : Int)) hr (by omega) (by omega)
    by_cases g2 : left - (l.length : Int) - (sumW VldW (l.take k) : Int) - ((VldW x : Nat) : Int) < 0
    · rw [szAfter_neg g2] at c0
      have d2 : decide ((-1 : Int) < 0) = true := rfl
      have f : szAfter left (listW VldW l : Nat) = -1 := szAfter_neg (by unfold listW; omega)
      rw [f]
      repeat' (first | refine T_seq ?_ | refine N_then ?_ | refine N_thenR ?_ | refine N_blockR ?_ | refine N_againSR ?_ | refine T_regX tyOk ?_ | refine S_nil ?_ | refine T_skip ?_ | refine T_ret ?_ | refine T_block ?_ | (apply E_tmp; (· exact rfl); (· (repeat' (first | exact pure_int _ _ | exact pure_bool _ | exact pure_str _); done))) | (apply T_ifT; (· exact rfl); (· (first | assumption | exact rfl))) | apply S_move | apply S_assign | (apply S_loadVA; (· exact rfl); (· exact gt_any rfl); (· exact rfl); (· exact rfl)) | apply S_lss | (apply S_len_ls; (· exact rfl); (· exact gt_any rfl)) | (apply S_idxLs; (· exact rfl); (· exact rfl); (· exact gt_any rfl); (· exact gt_any rfl)) | apply S_callQ (f := 189) | apply c0 | exact viewL_nil | apply viewL_cons | (apply View.pure; exact PureC.out) | exact FlatC.out | exact gt_any rfl | exact gts_nil | (apply gts_cons; (· exact gt_any rfl)) | assumption | (refine ⟨?_, ?_⟩ <;> omega) | exact rfl | fail)
    · rw [szAfter_pos g2] at c0
      have d2 : decide (left - (l.length : Int) - (sumW VldW (l.take k) : Int) - ((VldW x : Nat) : Int) < 0) = false := decide_eq_false g2
      have e : left - (l.length : Int) - (sumW VldW (l.take k) : Int) - ((VldW x : Nat) : Int) = left - (l.length : Int) - (sumW VldW (l.take (k + 1)) : Int) := by omega
      rw [e] at c0 d2
      repeat' (first | refine T_seq ?_ | refine N_then ?_ | refine N_block ?_ | refine T_regX tyOk ?_ | refine S_nil ?_ | refine T_skip ?_ | refine T_block ?_ | (apply T_ifT; (· exact rfl); (· (first | assumption | exact rfl))) | (apply T_ifF; (· exact rfl); (· (first | assumption | exact rfl))) | apply S_move | apply S_assign | (apply S_loadVA; (· exact rfl); (· exact gt_any rfl); (· exact rfl); (· exact rfl)) | apply S_lss | apply S_add | (apply S_len_ls; (· exact rfl); (· exact gt_any rfl)) | (apply S_idxLs; (· exact rfl); (· exact rfl); (· exact gt_any rfl); (· exact gt_any rfl)) | apply S_callQ (f := 189) | apply c0 | exact viewL_nil | apply viewL_cons | (apply View.pure; exact PureC.out) | exact FlatC.out | exact gt_any rfl | exact gts_nil | (apply gts_cons; (· exact gt_any rfl)) | assumption | (refine ⟨?_, ?_⟩ <;> omega) | exact rfl | fail)
      exact N_againS (k + 1) ((weak_of (by repeat' (first | exact keepE_nil | refine keepE_cons rfl ?_)) (by repeat' (first | exact keepB_nil | refine keepB_cons (by first | rfl | exact congrArg (fun l => some (Box.mk l _ _ _)) hset) ?_)) (Nat.le_refl _))).sub ⟨by omega, by omega⟩ (by omega)
  · have hc : decide ((k : Int) < ((l.map vldA).length : Int)) = false := by simp only [decide_eq_false_iff_not]; omega
    obtain rfl : k = l.length := by omega
    rw [List.take_length] at hI ⊢
    have f : szAfter left (listW VldW l : Nat) = left - (l.length : Int) - (sumW VldW l : Int) := by rw [szAfter_pos (by unfold listW; omega)]; unfold listW; omega
    rw [f]
    repeat' (first | refine T_seq ?_ | refine N_then ?_ | refine N_thenE ?_ | refine N_blockE ?_ | refine N_againSE ?_ | refine T_regX tyOk ?_ | refine S_nil ?_ | refine T_ret ?_ | refine T_exit ?_ | (apply E_tmp; (· exact rfl); (· (repeat' (first | exact pure_int _ _ | exact pure_bool _ | exact pure_str _); done))) | (apply T_ifF; (· exact rfl); (· (first | assumption | exact rfl))) | apply S_move | apply S_assign | apply S_lss | (apply S_len_ls; (· exact rfl); (· exact gt_any rfl)) | exact gt_any rfl | exact rfl | fail)

theorem toValidatorS_cv (l : List Vld) (h : listW VldW l ≤ 1048576) : CV Try.prog 138 [vldAS l] (· = vldAS l) := by
  refine CV_intro tyOk Try.func138 (by kernel_rfl) rfl 23 rfl (by simp) [.tmp 2] rfl ?_
  intro w0 ok0
  have hl : (l.map vldA).length = l.length := by simp
  have hll : l.length ≤ 1048576 := by unfold listW at h; omega
  repeat' (first | refine T_seq ?_ | refine N_then ?_ | refine T_regX tyOk ?_ | refine S_nil ?_ | refine T_block ?_ | apply S_move | apply S_assign | (apply S_len_ls; (· exact rfl); (· exact gt_any rfl)) | (apply S_make; (· exact rfl); (· exact rfl); (· exact gt_any rfl); (· exact gt_any rfl); (· exact rfl); (· (first | assumption | omega)); (· (first | assumption | omega | (dsimp only; omega) | (simp; omega))); (· (first | assumption | omega | (dsimp only; omega) | (simp; omega))); (· (first | assumption | omega | (dsimp only; omega) | (simp; omega))); (· (first | exact okCells_of rfl rfl | assumption)); (· (first | exact Nat.le_of_ble_eq_true rfl | omega | decide))) | exact gt_any rfl | exact rfl | fail)
  refine T_roundsS (α := Nat) (fun k => ⟨[(0, vldAS l), (3, .sl 0 0 (l.map vldA).length (l.map vldA).length), (4, .int .i64 k)], [(0, some ⟨(l.map vldA).take k ++ List.replicate ((l.map vldA).length - k) (AV.agg [.ls 0 true true [], .int .i64 0]), 2, false, false⟩)], 1⟩)
    (fun k => (l.map vldA).length - k) (fun k => k ≤ (l.map vldA).length) 0 ((weak_of (by repeat' (first | exact keepE_nil | refine keepE_cons rfl ?_)) (by repeat' (first | exact keepB_nil | refine keepB_cons (by first | rfl | exact congrArg (fun l => some (Box.mk l _ _ _)) hset) ?_)) (Nat.le_refl _))).sub (by omega) ?_
  intro k hk
  by_cases hkl : k < (l.map vldA).length
  · have hc : decide ((k : Int) < ((l.map vldA).length : Int)) = true := by simp only [decide_eq_true_eq]; omega
    have hget := map_getD vldA l Vld0 (k := k) (by omega)
    have hat := map_at vldA l Vld0 (k := k) (by omega)
    have hset := copy_step (l.map vldA) (AV.agg [.ls 0 true true [], .int .i64 0]) hkl hat
    have hin : 0 + ((k : Int)).toNat < ((l.map vldA).take k ++ List.replicate ((l.map vldA).length - k) (AV.agg [.ls 0 true true [], .int .i64 0])).length := by
      simp only [List.length_append, List.length_take, List.length_replicate]; omega
    have hkw : IntKind.wrap .i64 ((k : Int) + 1) = ((k + 1 : Nat) : Int) := by rw [wrap_i64 (by omega) (by omega)]; omega
    have hle := listW_mem VldW l (getD_mem l Vld0 (by omega : k < l.length))
    have okk : okCells 2 (vldA (l.getD k Vld0)) := okCells_of rfl rfl
    have c0 := toValidator_cv (l.getD k Vld0) (by omega)
    repeat' (first | refine T_seq ?_ | refine N_then ?_ | refine N_block ?_ | refine T_regX tyOk ?_ | refine S_nil ?_ | refine T_skip ?_ | refine T_block ?_ | (apply T_ifT; (· exact rfl); (· (first | assumption | exact rfl))) | apply S_move | apply S_assign | (apply S_loadVA; (· exact rfl); (· exact gt_any rfl); (· exact rfl); (· exact rfl)) | apply S_lss | apply S_add | (apply S_len_ls; (· exact rfl); (· exact gt_any rfl)) | (apply S_idxLs; (· exact rfl); (· exact rfl); (· exact gt_any rfl); (· exact gt_any rfl)) | (apply S_idxSl; (· exact rfl); (· exact rfl); (· exact gt_any rfl); (· exact rfl); (· exact gt_any rfl)) | (apply S_storeE; (· exact rfl); (· exact gt_any rfl); (· exact rfl); (· exact rfl); (· exact rfl)) | apply S_call (f := 191) | apply c0 | exact PureLC.out | exact gt_any rfl | exact gts_nil | (apply gts_cons; (· exact gt_any rfl)) | exact okCells_of rfl rfl | assumption | (refine ⟨?_, ?_⟩ <;> omega) | exact rfl | fail)
    exact N_againS (k + 1) ((weak_of (by repeat' (first | exact keepE_nil | refine keepE_cons rfl ?_)) (by repeat' (first | exact keepB_nil | refine keepB_cons (by first | rfl | exact congrArg (fun l => some (Box.mk l _ _ _)) hset) ?_)) (Nat.le_refl _))).sub (by omega) (by omega)
  · have hc : decide ((k : Int) < ((l.map vldA).length : Int)) = false := by simp only [decide_eq_false_iff_not]; omega
    obtain rfl : k = (l.map vldA).length := by omega
    have he : (l.map vldA).take (l.map vldA).length ++ List.replicate ((l.map vldA).length - (l.map vldA).length) (AV.agg [.ls 0 true true [], .int .i64 0]) = l.map vldA := by
      rw [Nat.sub_self, List.replicate_zero, List.append_nil, List.take_length]
    repeat' (first | refine T_seq ?_ | refine N_then ?_ | refine N_thenE ?_ | refine N_blockE ?_ | refine N_againSE ?_ | refine T_regX tyOk ?_ | refine S_nil ?_ | refine T_ret ?_ | refine T_exit ?_ | (apply T_ifF; (· exact rfl); (· (first | assumption | exact rfl))) | apply S_move | apply S_assign | apply S_lss | (apply S_len_ls; (· exact rfl); (· exact gt_any rfl)) | exact gt_any rfl | exact rfl | fail)
    rw [he]
    (apply E_X <;> repeat' (first | exact resL_nil | (apply resL_tmp; (· exact rfl)) | (apply resL_cell; (· exact rfl); (· exact rfl); (· exact rfl); (· exact rfl); (· exact rfl); (· exact rfl)) | (apply resL_arr; (· exact rfl); (· exact rfl); (· exact rfl); (· exact rfl); (· (first | assumption | exact rfl))) | exact viewL_nil | apply viewL_cons | apply view_nothingE | (apply view_slE; (· exact rfl); (· first | exact rfl | assumption | (simp [bA_length]; done) | (simp [bA_length]; omega) | omega); (· exact PureEC.out)) | (apply view_loose; (· exact PureEC.out)) | apply view_agg | apply view_tup | (apply View.ofEq; (· exact PureC.out)) | exact rfl))

theorem eqValidatorS_cv (l : List Vld) (h : listW VldW l ≤ 1048576) : CV Try.prog 147 [vldAS l, vldAS l] (· = .bool true) := by
  refine CV_intro tyOk Try.func147 (by kernel_rfl) rfl 27 rfl (by simp) [.tmp 4] rfl ?_
  intro w0 ok0
  have hl : (l.map vldA).length = l.length := by simp
  have hll : l.length ≤ 1048576 := by unfold listW at h; omega
  have hc0 : (!decide (((l.map vldA).length : Int) = ((l.map vldA).length : Int))) = false := by simp
  repeat' (first | refine T_seq ?_ | refine N_then ?_ | refine T_regX tyOk ?_ | refine S_nil ?_ | refine T_skip ?_ | refine T_block ?_ | (apply T_ifF; (· exact rfl); (· (first | assumption | exact rfl))) | apply S_move | apply S_assign | (apply S_neq; (· exact gt_any rfl); (· exact gt_any rfl)) | (apply S_len_ls; (· exact rfl); (· exact gt_any rfl)) | exact gt_any rfl | exact rfl | fail)
  refine T_roundsS (α := Nat) (fun k => ⟨[(0, vldAS l), (1, vldAS l), (5, .int .i64 k)], [], 0⟩)
    (fun k => l.length - k) (fun k => k ≤ l.length) 0 ((weak_of (by repeat' (first | exact keepE_nil | refine keepE_cons rfl ?_)) (by repeat' (first | exact keepB_nil | refine keepB_cons (by first | rfl | exact congrArg (fun l => some (Box.mk l _ _ _)) hset) ?_)) (Nat.le_refl _))).sub (by omega) ?_
  intro k hk
  by_cases hkl : k < l.length
  · have hc : decide ((k : Int) < ((l.map vldA).length : Int)) = true := by simp only [decide_eq_true_eq]; omega
    have hget := map_getD vldA l Vld0 (k := k) (by omega)
    have hkw : IntKind.wrap .i64 ((k : Int) + 1) = ((k + 1 : Nat) : Int) := by rw [wrap_i64 (by omega) (by omega)]; omega
    have hle := listW_mem VldW l (getD_mem l Vld0 hkl)
    have c0 := eqValidator_cv (l.getD k Vld0) (by omega)
    repeat' (first | refine T_seq ?_ | refine N_then ?_ | refine N_block ?_ | refine T_regX tyOk ?_ | (apply T_drawM (id := 6) 8 tyOk mixed; (· exact rfl); (· exact rfl); (· kernel_rfl); (· exact Nat.le_of_ble_eq_true rfl)) | refine S_nil ?_ | refine T_skip ?_ | refine T_block ?_ | (apply T_ifT; (· exact rfl); (· (first | assumption | exact rfl))) | (apply T_ifF; (· exact rfl); (· (first | assumption | exact rfl))) | apply S_move | apply S_assign | (apply S_loadVA; (· exact rfl); (· exact gt_any rfl); (· exact rfl); (· exact rfl)) | apply S_lss | apply S_add | apply S_not | (apply S_len_ls; (· exact rfl); (· exact gt_any rfl)) | (apply S_idxLs; (· exact rfl); (· exact rfl); (· exact gt_any rfl); (· exact gt_any rfl)) | apply S_callQ (f := 195) | apply c0 | exact viewL_nil | apply viewL_cons | (apply View.pure; exact PureC.out) | exact FlatC.out | exact gt_any rfl | exact gts_nil | (apply gts_cons; (· exact gt_any rfl)) | assumption | (refine ⟨?_, ?_⟩ <;> omega) | exact rfl | fail)
    exact N_againS (k + 1) ((weak_of (by repeat' (first | exact keepE_nil | refine keepE_cons rfl ?_)) (by repeat' (first | exact keepB_nil | refine keepB_cons (by first | rfl | exact congrArg (fun l => some (Box.mk l _ _ _)) hset) ?_)) (Nat.le_refl _))).sub (by omega) (by omega)
  · have hc : decide ((k : Int) < ((l.map vldA).length : Int)) = false := by simp only [decide_eq_false_iff_not]; omega
    repeat' (first | refine T_seq ?_ | refine N_then ?_ | refine N_thenE ?_ | refine N_blockE ?_ | refine N_againSE ?_ | refine T_regX tyOk ?_ | refine S_nil ?_ | refine T_ret ?_ | refine T_exit ?_ | (apply E_tmp; (· exact rfl); (· (repeat' (first | exact pure_int _ _ | exact pure_bool _ | exact pure_str _); done))) | (apply T_ifF; (· exact rfl); (· (first | assumption | exact rfl))) | apply S_move | apply S_assign | apply S_lss | (apply S_len_ls; (· exact rfl); (· exact gt_any rfl)) | exact gt_any rfl | exact rfl | fail)

structure HdB where
  height : Int
  time : Int
  root : List UInt8
  set : List UInt8
  next : List UInt8
  deriving DecidableEq

abbrev HdB0 : HdB := ⟨0, 0, [], [], []⟩

abbrev hdbA (x : HdB) : AV := .agg [.int .i64 x.height, .int .i64 x.time, byA x.root, byA x.set, byA x.next]

abbrev hdbAC (x : HdB) : List AV := [.int .i64 x.height, .int .i64 x.time, byA x.root, byA x.set, byA x.next]

instance : ElemF hdbA := ⟨fun a y hy => by
  have h := (inferInstance : CellsC (hdbAC a)).out y hy
  exact h⟩

abbrev hdbAS (l : List HdB) : AV := .ls 5 true false (l.map hdbA)

def HdBW (x : HdB) : Nat := x.root.length + x.set.length + x.next.length

def HdBR (x : HdB) : Prop := x.root.length ≤ 9223372036854775807 ∧ x.set.length ≤ 9223372036854775807 ∧ x.next.length ≤ 9223372036854775807

theorem szHeadB_cv (x : HdB) (left : Int) (hx : HdBR x) (h0 : 0 ≤ left) (h1 : left ≤ 9223372036854775807) :
    CV Try.prog 131 [hdbA x, .int .i64 left] (· = .int .i64 (szAfter left (HdBW x))) := by
  refine CV_intro tyOk Try.func131 (by kernel_rfl) rfl 24 rfl (by simp) [.tmp 4] rfl ?_
  intro w0 ok0
  obtain ⟨hx0, hx1, hx2⟩ := hx
  have c0 := szByteS_cv x.root (left) hx0 (by omega) (by omega)
  by_cases g0 : left - (x.root.length : Nat) < 0
  · have e0 : szAfter (left) (x.root.length : Nat) = -1 := szAfter_neg g0
    rw [e0] at c0
    have f : szAfter left (HdBW x : Nat) = -1 := szAfter_neg (by unfold HdBW; omega)
    rw [f]
    have d : decide ((-1 : Int) < 0) = true := rfl
    repeat' (first | refine T_seq ?_ | refine N_then ?_ | refine N_thenR ?_ | refine T_regX tyOk ?_ | refine S_nil ?_ | refine T_ret ?_ | (apply E_tmp; (· exact rfl); (· (repeat' (first | exact pure_int _ _ | exact pure_bool _ | exact pure_str _); done))) | (apply T_ifT; (· exact rfl); (· (first | assumption | exact rfl))) | apply S_move | apply S_assign | (apply S_loadP; (· exact rfl); (· exact gt_any rfl); (· exact rfl); (· exact rfl); (· exact rfl); (· (first | exact ⟨rfl, rfl⟩ | exact ⟨rfl, trivial⟩ | assumption))) | (apply S_fieldP; (· exact rfl); (· exact rfl); (· exact rfl); (· exact rfl); (· exact gt_any rfl)) | apply S_lss | apply S_box | apply S_callQ (f := 91) | apply c0 | exact viewL_nil | apply viewL_cons | (apply View.pure; exact PureC.out) | exact FlatC.out | exact gt_any rfl | exact gts_nil | (apply gts_cons; (· exact gt_any rfl)) | exact okCells_of rfl rfl | assumption | exact rfl | fail)
  have e0 : szAfter (left) (x.root.length : Nat) = left - (x.root.length : Nat) := by rw [szAfter_pos g0]; try omega
  rw [e0] at c0
  have d0 : decide (left - ((x.root.length : Nat) : Int) < 0) = false := decide_eq_false (by omega)
  have c1 := szByteS_cv x.set (left - (x.root.length : Nat)) hx1 (by omega) (by omega)
  by_cases g1 : left - (x.root.length : Nat) - (x.set.length : Nat) < 0
  · have e1 : szAfter (left - (x.root.length : Nat)) (x.set.length : Nat) = -1 := szAfter_neg g1
    rw [e1] at c1
    have f : szAfter left (HdBW x : Nat) = -1 := szAfter_neg (by unfold HdBW; omega)
    rw [f]
    have d : decide ((-1 : Int) < 0) = true := rfl
    repeat' (first | refine T_seq ?_ | refine N_then ?_ | refine N_thenR ?_ | refine T_regX tyOk ?_ | refine S_nil ?_ | refine T_skip ?_ | refine T_ret ?_ | (apply E_tmp; (· exact rfl); (· (repeat' (first | exact pure_int _ _ | exact pure_bool _ | exact pure_str _); done))) | (apply T_ifT; (· exact rfl); (· (first | assumption | exact rfl))) | (apply T_ifF; (· exact rfl); (· (first | assumption | exact rfl))) | apply S_move | apply S_assign | (apply S_loadP; (· exact rfl); (· exact gt_any rfl); (· exact rfl); (· exact rfl); (· exact rfl); (· (first | exact ⟨rfl, rfl⟩ | exact ⟨rfl, trivial⟩ | assumption))) | (apply S_fieldP; (· exact rfl); (· exact rfl); (· exact rfl); (· exact rfl); (· exact gt_any rfl)) | apply S_lss | apply S_box | apply S_callQ (f := 91) | apply c0 | apply c1 | exact viewL_nil | apply viewL_cons | (apply View.pure; exact PureC.out) | exact FlatC.out | exact gt_any rfl | exact gts_nil | (apply gts_cons; (· exact gt_any rfl)) | exact okCells_of rfl rfl | assumption | exact rfl | fail)
  have e1 : szAfter (left - (x.root.length : Nat)) (x.set.length : Nat) = left - (x.root.length + x.set.length : Nat) := by rw [szAfter_pos g1]; try omega
  rw [e1] at c1
  have d1 : decide (left - ((x.root.length + x.set.length : Nat) : Int) < 0) = false := decide_eq_false (by omega)
  have c2 := szByteS_cv x.next (left - (x.root.length + x.set.length : Nat)) hx2 (by omega) (by omega)
  by_cases g2 : left - (x.root.length + x.set.length : Nat) - (x.next.length : Nat) < 0
  · have e2 : szAfter (left - (x.root.length + x.set.length : Nat)) (x.next.length : Nat) = -1 := szAfter_neg g2
    rw [e2] at c2
    have f : szAfter left (HdBW x : Nat) = -1 := szAfter_neg (by unfold HdBW; omega)
    rw [f]
    have d : decide ((-1 : Int) < 0) = true := rfl
    repeat' (first | refine T_seq ?_ | refine N_then ?_ | refine N_thenR ?_ | refine T_regX tyOk ?_ | refine S_nil ?_ | refine T_skip ?_ | refine T_ret ?_ | (apply E_tmp; (· exact rfl); (· (repeat' (first | exact pure_int _ _ | exact pure_bool _ | exact pure_str _); done))) | (apply T_ifT; (· exact rfl); (· (first | assumption | exact rfl))) | (apply T_ifF; (· exact rfl); (· (first | assumption | exact rfl))) | apply S_move | apply S_assign | (apply S_loadP; (· exact rfl); (· exact gt_any rfl); (· exact rfl); (· exact rfl); (· exact rfl); (· (first | exact ⟨rfl, rfl⟩ | exact ⟨rfl, trivial⟩ | assumption))) | (apply S_fieldP; (· exact rfl); (· exact rfl); (· exact rfl); (· exact rfl); (· exact gt_any rfl)) | apply S_lss | apply S_box | apply S_callQ (f := 91) | apply c0 | apply c1 | apply c2 | exact viewL_nil | apply viewL_cons | (apply View.pure; exact PureC.out) | exact FlatC.out | exact gt_any rfl | exact gts_nil | (apply gts_cons; (· exact gt_any rfl)) | exact okCells_of rfl rfl | assumption | exact rfl | fail)
  have e2 : szAfter (left - (x.root.length + x.set.length : Nat)) (x.next.length : Nat) = left - (x.root.length + x.set.length + x.next.length : Nat) := by rw [szAfter_pos g2]; try omega
  rw [e2] at c2
  have d2 : decide (left - ((x.root.length + x.set.length + x.next.length : Nat) : Int) < 0) = false := decide_eq_false (by omega)
  have f : szAfter left (HdBW x : Nat) = left - (x.root.length + x.set.length + x.next.length : Nat) := szAfter_pos (by unfold HdBW; omega)
  rw [f]
  repeat' (first | refine T_seq ?_ | refine N_then ?_ | refine T_regX tyOk ?_ | refine S_nil ?_ | refine T_skip ?_ | refine T_ret ?_ | (apply E_tmp; (· exact rfl); (· (repeat' (first | exact pure_int _ _ | exact pure_bool _ | exact pure_str _); done))) | (apply T_ifF; (· exact rfl); (· (first | assumption | exact rfl))) | apply S_move | apply S_assign | (apply S_loadP; (· exact rfl); (· exact gt_any rfl); (· exact rfl); (· exact rfl); (· exact rfl); (· (first | exact ⟨rfl, rfl⟩ | exact ⟨rfl, trivial⟩ | assumption))) | (apply S_fieldP; (· exact rfl); (· exact rfl); (· exact rfl); (· exact rfl); (· exact gt_any rfl)) | apply S_lss | apply S_box | apply S_callQ (f := 91) | apply c0 | apply c1 | apply c2 | exact viewL_nil | apply viewL_cons | (apply View.pure; exact PureC.out) | exact FlatC.out | exact gt_any rfl | exact gts_nil | (apply gts_cons; (· exact gt_any rfl)) | exact okCells_of rfl rfl | exact rfl | fail)

theorem toHeadB_cv (x : HdB) (h : HdBW x ≤ 1048576) : CV Try.prog 137 [hdbA x] (· = hdbA x) := by
  refine CV_intro tyOk Try.func137 (by kernel_rfl) rfl 23 rfl (by simp) [.cell 2 93] rfl ?_
  intro w0 ok0
  unfold HdBW at h
  have c0 := toByteS_cv x.root (by omega)
  have c1 := toByteS_cv x.set (by omega)
  have c2 := toByteS_cv x.next (by omega)
  repeat' (first | refine T_seq ?_ | refine N_then ?_ | refine T_regX tyOk ?_ | refine S_nil ?_ | refine T_ret ?_ | (apply E_X <;> repeat' (first | exact resL_nil | (apply resL_tmp; (· exact rfl)) | (apply resL_cell; (· exact rfl); (· exact rfl); (· exact rfl); (· exact rfl); (· exact rfl); (· exact rfl)) | (apply resL_arr; (· exact rfl); (· exact rfl); (· exact rfl); (· exact rfl); (· (first | assumption | exact rfl))) | exact viewL_nil | apply viewL_cons | apply view_nothingE | (apply view_slE; (· exact rfl); (· first | exact rfl | assumption | (simp [bA_length]; done) | (simp [bA_length]; omega) | omega); (· exact PureEC.out)) | (apply view_loose; (· exact PureEC.out)) | apply view_agg | apply view_tup | (apply View.ofEq; (· exact PureC.out)) | exact rfl)) | (apply S_loadP; (· exact rfl); (· exact gt_any rfl); (· exact rfl); (· exact rfl); (· exact rfl); (· (first | exact ⟨rfl, rfl⟩ | exact ⟨rfl, trivial⟩ | assumption))) | (apply S_loadW; (· exact rfl); (· exact gt_any rfl); (· exact rfl); (· exact rfl); (· exact rfl); (· exact rfl); (· exact rfl); (· exact rfl)) | (apply S_fieldP; (· exact rfl); (· exact rfl); (· exact rfl); (· exact rfl); (· exact gt_any rfl)) | apply S_alloc | apply S_box | (apply S_store1; (· exact rfl); (· exact gt_any rfl); (· exact rfl); (· exact rfl); (· exact rfl); (· exact rfl)) | (apply S_storeF; (· exact rfl); (· exact gt_any rfl); (· exact rfl); (· exact rfl); (· exact rfl); (· exact rfl); (· exact gt_any rfl); (· exact rfl); (· exact rfl); (· (repeat' constructor))) | apply S_call (f := 49) | apply c0 | apply c1 | apply c2 | exact PureLC.out | exact gt_any rfl | exact gts_nil | (apply gts_cons; (· exact gt_any rfl)) | exact okCells_of rfl rfl | exact rfl | fail)

theorem eqHeadB_cv (x : HdB) (h : HdBW x ≤ 1048576) : CV Try.prog 146 [hdbA x, hdbA x] (· = .bool true) := by
  refine CV_intro tyOk Try.func146 (by kernel_rfl) rfl 33 rfl (by simp) [.tmp 4] rfl ?_
  intro w0 ok0
  unfold HdBW at h
  have c0 := eqB_cv x.root (by omega)
  have c1 := eqB_cv x.set (by omega)
  have c2 := eqB_cv x.next (by omega)
  have i0 : (!decide (x.height = x.height)) = false := by simp
  have i1 : (!decide (x.time = x.time)) = false := by simp
  repeat' (first | refine T_seq ?_ | refine N_then ?_ | refine T_regX tyOk ?_ | refine S_nil ?_ | refine T_skip ?_ | refine T_ret ?_ | (apply E_tmp; (· exact rfl); (· (repeat' (first | exact pure_int _ _ | exact pure_bool _ | exact pure_str _); done))) | (apply T_ifF; (· exact rfl); (· (first | assumption | exact rfl))) | apply S_assign | (apply S_loadP; (· exact rfl); (· exact gt_any rfl); (· exact rfl); (· exact rfl); (· exact rfl); (· (first | exact ⟨rfl, rfl⟩ | exact ⟨rfl, trivial⟩ | assumption))) | (apply S_fieldP; (· exact rfl); (· exact rfl); (· exact rfl); (· exact rfl); (· exact gt_any rfl)) | (apply S_neq; (· exact gt_any rfl); (· exact gt_any rfl)) | apply S_not | apply S_box | apply S_callQ (f := 52) | apply c0 | apply c1 | apply c2 | exact viewL_nil | apply viewL_cons | (apply View.pure; exact PureC.out) | exact FlatC.out | exact gt_any rfl | exact gts_nil | (apply gts_cons; (· exact gt_any rfl)) | exact okCells_of rfl rfl | exact rfl | fail)

end Go.Proofs.Ythfikpgbddpmoaa
