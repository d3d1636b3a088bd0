/- Blocks, as the helpers of the laws take them. -/
import Derived.Test.YtaolmfgpebncjaaGreatRc
set_option maxRecDepth 100000
set_option maxHeartbeats 3200000
set_option linter.unusedSimpArgs false
set_option linter.unusedVariables false
namespace Go.Proofs.YtaolmfgpebncjaaGreat
open Go.Av
attribute [local irreducible] T thenQ blockQ againQ againS WX retV retR Gt Gts GtsP okCells CV CR Av.Pure

structure Blk where
  head : Hd
  events : List (List UInt8)
  deriving DecidableEq

abbrev Blk0 : Blk := ⟨⟨[], 0, 0, 0, [], 0⟩, []⟩

abbrev blkA (x : Blk) : AV := .agg [byA x.head.parent, .int .i64 x.head.height, .int .i64 x.head.time, .int .i64 x.head.zeros, byA x.head.root, .int .i64 x.head.nonce, rowsA x.events]

abbrev blkAC (x : Blk) : List AV := [byA x.head.parent, .int .i64 x.head.height, .int .i64 x.head.time, .int .i64 x.head.zeros, byA x.head.root, .int .i64 x.head.nonce, rowsA x.events]

instance : ElemF blkA := ⟨fun a y hy => by
  have h := (inferInstance : CellsC (blkAC a)).out y hy
  exact h⟩

abbrev blkAS (l : List Blk) : AV := .ls 7 true false (l.map blkA)

def BlkW (x : Blk) : Nat := HdW x.head + listW List.length x.events

def BlkR (x : Blk) : Prop := HdR x.head ∧ rowsR x.events

theorem szBlock_cv (x : Blk) (left : Int) (hx : BlkR x) (h0 : 0 ≤ left) (h1 : left ≤ 9223372036854775807) :
    CV Tryz.prog 51 [blkA x, .int .i64 left] (· = .int .i64 (szAfter left (BlkW x))) := by
  refine CV_intro tyOk Tryz.func51 (by kernel_rfl) rfl 18 rfl (by simp) [.tmp 4] rfl ?_
  intro w0 ok0
  obtain ⟨hx0, hx1⟩ := hx
  have c0 := szHead_cv x.head (left) hx0 (by omega) (by omega)
  by_cases g0 : left - (HdW x.head : Nat) < 0
  · have e0 : szAfter (left) (HdW x.head : Nat) = -1 := szAfter_neg g0
    rw [e0] at c0
    have f : szAfter left (BlkW x : Nat) = -1 := szAfter_neg (by unfold BlkW; omega)
    rw [f]
    have d : decide ((-1 : Int) < 0) = true := rfl
    repeat' (first | refine T_seq ?_ | refine N_then ?_ | refine N_thenR ?_ | refine T_regX tyOk ?_ | refine S_nil ?_ | refine T_ret ?_ | (apply E_tmp; (· exact rfl); (· (repeat' (first | exact pure_int _ _ | exact pure_bool _ | exact pure_str _); done))) | (apply T_ifT; (· exact rfl); (· (first | assumption | exact rfl))) | apply S_move | apply S_assign | (apply M_loadA; (· exact rfl); (· exact rfl); (· exact gt_any rfl); (· exact rfl); (· exact rfl); (· (repeat' constructor))) | (apply S_fieldP; (· exact rfl); (· exact rfl); (· exact rfl); (· exact rfl); (· exact gt_any rfl)) | apply S_lss | apply S_box | apply S_callQ (f := 112) | apply c0 | exact viewL_nil | apply viewL_cons | (apply View.pure; exact PureC.out) | exact FlatC.out | exact gt_any rfl | exact gts_nil | (apply gts_cons; (· exact gt_any rfl)) | exact okCells_of rfl rfl | assumption | exact rfl | fail)
  have e0 : szAfter (left) (HdW x.head : Nat) = left - (HdW x.head : Nat) := by rw [szAfter_pos g0]; try omega
  rw [e0] at c0
  have d0 : decide (left - ((HdW x.head : Nat) : Int) < 0) = false := decide_eq_false (by omega)
  have c1 := szByteSS_cv x.events (left - (HdW x.head : Nat)) hx1 (by omega) (by omega)
  by_cases g1 : left - (HdW x.head : Nat) - (listW List.length x.events : Nat) < 0
  · have e1 : szAfter (left - (HdW x.head : Nat)) (listW List.length x.events : Nat) = -1 := szAfter_neg g1
    rw [e1] at c1
    have f : szAfter left (BlkW x : Nat) = -1 := szAfter_neg (by unfold BlkW; omega)
    rw [f]
    have d : decide ((-1 : Int) < 0) = true := rfl
    repeat' (first | refine T_seq ?_ | refine N_then ?_ | refine N_thenR ?_ | refine T_regX tyOk ?_ | refine S_nil ?_ | refine T_skip ?_ | refine T_ret ?_ | (apply E_tmp; (· exact rfl); (· (repeat' (first | exact pure_int _ _ | exact pure_bool _ | exact pure_str _); done))) | (apply T_ifT; (· exact rfl); (· (first | assumption | exact rfl))) | (apply T_ifF; (· exact rfl); (· (first | assumption | exact rfl))) | apply S_move | apply S_assign | (apply S_loadP; (· exact rfl); (· exact gt_any rfl); (· exact rfl); (· exact rfl); (· exact rfl); (· (first | exact ⟨rfl, rfl⟩ | exact ⟨rfl, trivial⟩ | assumption))) | (apply M_loadA; (· exact rfl); (· exact rfl); (· exact gt_any rfl); (· exact rfl); (· exact rfl); (· (repeat' constructor))) | (apply S_fieldP; (· exact rfl); (· exact rfl); (· exact rfl); (· exact rfl); (· exact gt_any rfl)) | apply S_lss | apply S_box | apply S_callQ (f := 112) | apply c0 | apply S_callQ (f := 17) | apply c1 | exact viewL_nil | apply viewL_cons | (apply View.pure; exact PureC.out) | exact FlatC.out | exact gt_any rfl | exact gts_nil | (apply gts_cons; (· exact gt_any rfl)) | exact okCells_of rfl rfl | assumption | exact rfl | fail)
  have e1 : szAfter (left - (HdW x.head : Nat)) (listW List.length x.events : Nat) = left - (HdW x.head + listW List.length x.events : Nat) := by rw [szAfter_pos g1]; try omega
  rw [e1] at c1
  have d1 : decide (left - ((HdW x.head + listW List.length x.events : Nat) : Int) < 0) = false := decide_eq_false (by omega)
  have f : szAfter left (BlkW x : Nat) = left - (HdW x.head + listW List.length x.events : Nat) := szAfter_pos (by unfold BlkW; omega)
  rw [f]
  repeat' (first | refine T_seq ?_ | refine N_then ?_ | refine T_regX tyOk ?_ | refine S_nil ?_ | refine T_skip ?_ | refine T_ret ?_ | (apply E_tmp; (· exact rfl); (· (repeat' (first | exact pure_int _ _ | exact pure_bool _ | exact pure_str _); done))) | (apply T_ifF; (· exact rfl); (· (first | assumption | exact rfl))) | apply S_move | apply S_assign | (apply S_loadP; (· exact rfl); (· exact gt_any rfl); (· exact rfl); (· exact rfl); (· exact rfl); (· (first | exact ⟨rfl, rfl⟩ | exact ⟨rfl, trivial⟩ | assumption))) | (apply M_loadA; (· exact rfl); (· exact rfl); (· exact gt_any rfl); (· exact rfl); (· exact rfl); (· (repeat' constructor))) | (apply S_fieldP; (· exact rfl); (· exact rfl); (· exact rfl); (· exact rfl); (· exact gt_any rfl)) | apply S_lss | apply S_box | apply S_callQ (f := 112) | apply c0 | apply S_callQ (f := 17) | apply c1 | exact viewL_nil | apply viewL_cons | (apply View.pure; exact PureC.out) | exact FlatC.out | exact gt_any rfl | exact gts_nil | (apply gts_cons; (· exact gt_any rfl)) | exact okCells_of rfl rfl | exact rfl | fail)

theorem eqBlock_cv (x : Blk) (h : BlkW x ≤ 1048576) : CV Tryz.prog 61 [blkA x, blkA x] (· = .bool true) := by
  refine CV_intro tyOk Tryz.func61 (by kernel_rfl) rfl 17 rfl (by simp) [.tmp 4] rfl ?_
  intro w0 ok0
  unfold BlkW at h
  have c0 := eqHead_cv x.head (by omega)
  have c1 := eqByteSS_cv x.events (by omega)
  repeat' (first | refine T_seq ?_ | refine N_then ?_ | refine T_regX tyOk ?_ | refine S_nil ?_ | refine T_skip ?_ | refine T_ret ?_ | (apply E_tmp; (· exact rfl); (· (repeat' (first | exact pure_int _ _ | exact pure_bool _ | exact pure_str _); done))) | (apply T_ifF; (· exact rfl); (· (first | assumption | exact rfl))) | apply S_assign | (apply S_loadP; (· exact rfl); (· exact gt_any rfl); (· exact rfl); (· exact rfl); (· exact rfl); (· (first | exact ⟨rfl, rfl⟩ | exact ⟨rfl, trivial⟩ | assumption))) | (apply M_loadA; (· exact rfl); (· exact rfl); (· exact gt_any rfl); (· exact rfl); (· exact rfl); (· (repeat' constructor))) | (apply S_fieldP; (· exact rfl); (· exact rfl); (· exact rfl); (· exact rfl); (· exact gt_any rfl)) | apply S_not | apply S_box | apply S_callQ (f := 120) | apply c0 | apply S_callQ (f := 22) | apply c1 | exact viewL_nil | apply viewL_cons | (apply View.pure; exact PureC.out) | exact FlatC.out | exact gt_any rfl | exact gts_nil | (apply gts_cons; (· exact gt_any rfl)) | exact okCells_of rfl rfl | exact rfl | fail)

theorem elemBlock {x : AV} {ei : TI} {n : Nat} (hk : isAggK ei.k = true) (h : TyN ty (n + 3) 87 x.cells ∧ x = (if isAggK ei.k then .agg x.cells else x.cells.getD 0 .undef)) : ∃ a : Blk, x = blkA a ∧ BlkR a := by
  obtain ⟨⟨ls, h1, h2, h3⟩, h4⟩ := h
  have hl : leafs ty 8 87 = some [37, 2, 2, 2, 37, 2, 35] := rfl
  rw [hl] at h1
  obtain rfl := Option.some.inj h1
  rw [if_pos hk] at h4
  generalize x.cells = cs at h2 h3 h4
  subst h4
  match cs, h2 with
  | [a0, a1, a2, a3, a4, a5, a6], _ =>
    obtain ⟨e0, xs0, u0, rfl, v0, w0⟩ := h3 0 _ _ rfl rfl
    obtain rfl := Option.some.inj u0
    obtain ⟨q0, rfl⟩ := bytes_of rfl rfl rfl xs0 w0
    rw [bA_length] at v0
    obtain ⟨i1, rfl, _⟩ := h3 1 _ _ rfl rfl
    obtain ⟨i2, rfl, _⟩ := h3 2 _ _ rfl rfl
    obtain ⟨i3, rfl, _⟩ := h3 3 _ _ rfl rfl
    obtain ⟨e4, xs4, u4, rfl, v4, w4⟩ := h3 4 _ _ rfl rfl
    obtain rfl := Option.some.inj u4
    obtain ⟨q4, rfl⟩ := bytes_of rfl rfl rfl xs4 w4
    rw [bA_length] at v4
    obtain ⟨i5, rfl, _⟩ := h3 5 _ _ rfl rfl
    obtain ⟨e6, xs6, u6, rfl, v6, w6⟩ := h3 6 _ _ rfl rfl
    obtain rfl := Option.some.inj u6
    obtain ⟨q6, rfl, z6⟩ := rows_of xs6 w6
    rw [List.length_map] at v6
    exact ⟨⟨⟨q0, i1, i2, i3, q4, i5⟩, q6⟩, rfl, ⟨⟨v0, v4⟩, ⟨v6, z6⟩⟩⟩

theorem szBlockS_cv (l : List Blk) (left : Int) (hx : listR BlkR l) (h0 : 0 ≤ left) (h1 : left ≤ 9223372036854775807) :
    CV Tryz.prog 8 [blkAS l, .int .i64 left] (· = .int .i64 (szAfter left (listW BlkW l))) := by
  refine CV_intro tyOk Tryz.func8 (by kernel_rfl) rfl 27 rfl (by simp) [.tmp 4] rfl ?_
  intro w0 ok0
  have hl : (l.map blkA).length = l.length := by simp
  obtain ⟨hn, hall⟩ := hx
  have hw0 : IntKind.wrap .i64 (left - ((l.map blkA).length : Int)) = left - (l.length : Int) := by rw [wrap_i64 (by omega) (by omega)]; omega
  by_cases g : left - (l.length : Int) < 0
  · have d : decide (left - (l.length : Int) < 0) = true := decide_eq_true g
    have f : szAfter left (listW BlkW l : Nat) = -1 := szAfter_neg (by unfold listW; omega)
    rw [f]
    repeat' (first | refine T_seq ?_ | refine N_then ?_ | refine N_thenR ?_ | refine T_regX tyOk ?_ | refine S_nil ?_ | refine T_ret ?_ | (apply E_tmp; (· exact rfl); (· (repeat' (first | exact pure_int _ _ | exact pure_bool _ | exact pure_str _); done))) | (apply T_ifT; (· exact rfl); (· (first | assumption | exact rfl))) | apply S_move | apply S_assign | apply S_lss | apply S_sub | (apply S_len_ls; (· exact rfl); (· exact gt_any rfl)) | exact gt_any rfl | assumption | exact rfl | fail)
  have d : decide (left - (l.length : Int) < 0) = false := decide_eq_false g
  repeat' (first | refine T_seq ?_ | refine N_then ?_ | refine T_regX tyOk ?_ | refine S_nil ?_ | refine T_skip ?_ | refine T_block ?_ | (apply T_ifF; (· exact rfl); (· (first | assumption | exact rfl))) | apply S_move | apply S_assign | apply S_lss | apply S_sub | (apply S_len_ls; (· exact rfl); (· exact gt_any rfl)) | exact gt_any rfl | assumption | exact rfl | fail)
  refine T_roundsS (α := Nat) (fun k => ⟨[(0, blkAS l), (1, .int .i64 (left - (l.length : Int) - (sumW BlkW (l.take k) : Int))), (5, .int .i64 k)], [], 0⟩)
    (fun k => l.length - k) (fun k => k ≤ l.length ∧ 0 ≤ left - (l.length : Int) - (sumW BlkW (l.take k) : Int)) 0 ?_ ⟨by omega, by simp [sumW]; omega⟩ ?_
  · have e : left - (l.length : Int) - (sumW BlkW (l.take 0) : Int) = left - (l.length : Int) := by simp [sumW]
    rw [e]
    exact ((weak_of (by repeat' (first | exact keepE_nil | refine keepE_cons rfl ?_)) (by repeat' (first | exact keepB_nil | refine keepB_cons (by first | rfl | exact congrArg (fun l => some (Box.mk l _ _ _)) hset) ?_)) (Nat.le_refl _))).sub
  rintro k ⟨hk, hI⟩
  by_cases hkl : k < l.length
  · have hc : decide ((k : Int) < ((l.map blkA).length : Int)) = true := by simp only [decide_eq_true_eq]; omega
    have hget := map_getD blkA l Blk0 (k := k) (by omega)
    have hkw : IntKind.wrap .i64 ((k : Int) + 1) = ((k + 1 : Nat) : Int) := by rw [wrap_i64 (by omega) (by omega)]; omega
    have hs := sumW_take BlkW l Blk0 hkl
    have hr := hall _ (getD_mem l Blk0 hkl)
    have hle := sumW_le BlkW l (k + 1)
    generalize l.getD k Blk0 = x at *
    have c0 := szBlock_cv x (left - (l.length : Int) - (sumW BlkW (l.take k) : Int)) hr (by omega) (by omega)
    by_cases g2 : left - (l.length : Int) - (sumW BlkW (l.take k) : Int) - ((BlkW x : Nat) : Int) < 0
    · rw [szAfter_neg g2] at c0
      have d2 : decide ((-1 : Int) < 0) = true := rfl
      have f : szAfter left (listW BlkW l : Nat) = -1 := szAfter_neg (by unfold listW; omega)
      rw [f]
      repeat' (first | refine T_seq ?_ | refine N_then ?_ | refine N_thenR ?_ | refine N_blockR ?_ | refine N_againSR ?_ | refine T_regX tyOk ?_ | refine S_nil ?_ | refine T_skip ?_ | refine T_ret ?_ | refine T_block ?_ | (apply E_tmp; (· exact rfl); (· (repeat' (first | exact pure_int _ _ | exact pure_bool _ | exact pure_str _); done))) | (apply T_ifT; (· exact rfl); (· (first | assumption | exact rfl))) | apply S_move | apply S_assign | (apply S_loadVA; (· exact rfl); (· exact gt_any rfl); (· exact rfl); (· exact rfl)) | apply S_lss | (apply S_len_ls; (· exact rfl); (· exact gt_any rfl)) | (apply S_idxLs; (· exact rfl); (· exact rfl); (· exact gt_any rfl); (· exact gt_any rfl)) | apply S_callQ (f := 51) | apply c0 | exact viewL_nil | apply viewL_cons | (apply View.pure; exact PureC.out) | exact FlatC.out | exact gt_any rfl | exact gts_nil | (apply gts_cons; (· exact gt_any rfl)) | assumption | (refine ⟨?_, ?_⟩ <;> omega) | exact rfl | fail)
    · rw [szAfter_pos g2] at c0
      have d2 : decide (left - (l.length : Int) - (sumW BlkW (l.take k) : Int) - ((BlkW x : Nat) : Int) < 0) = false := decide_eq_false g2
      have e : left - (l.length : Int) - (sumW BlkW (l.take k) : Int) - ((BlkW x : Nat) : Int) = left - (l.length : Int) - (sumW BlkW (l.take (k + 1)) : Int) := by omega
      rw [e] at c0 d2
      repeat' (first | refine T_seq ?_ | refine N_then ?_ | refine N_block ?_ | refine T_regX tyOk ?_ | refine S_nil ?_ | refine T_skip ?_ | refine T_block ?_ | (apply T_ifT; (· exact rfl); (· (first | assumption | exact rfl))) | (apply T_ifF; (· exact rfl); (· (first | assumption | exact rfl))) | apply S_move | apply S_assign | (apply S_loadVA; (· exact rfl); (· exact gt_any rfl); (· exact rfl); (· exact rfl)) | apply S_lss | apply S_add | (apply S_len_ls; (· exact rfl); (· exact gt_any rfl)) | (apply S_idxLs; (· exact rfl); (· exact rfl); (· exact gt_any rfl); (· exact gt_any rfl)) | apply S_callQ (f := 51) | apply c0 | exact viewL_nil | apply viewL_cons | (apply View.pure; exact PureC.out) | exact FlatC.out | exact gt_any rfl | exact gts_nil | (apply gts_cons; (· exact gt_any rfl)) | assumption | (refine ⟨?_, ?_⟩ <;> omega) | exact rfl | fail)
      exact N_againS (k + 1) ((weak_of (by repeat' (first | exact keepE_nil | refine keepE_cons rfl ?_)) (by repeat' (first | exact keepB_nil | refine keepB_cons (by first | rfl | exact congrArg (fun l => some (Box.mk l _ _ _)) hset) ?_)) (Nat.le_refl _))).sub ⟨by omega, by omega⟩ (by omega)
  · have hc : decide ((k : Int) < ((l.map blkA).length : Int)) = false := by simp only [decide_eq_false_iff_not]; omega
    obtain rfl : k = l.length := by omega
    rw [List.take_length] at hI ⊢
    have f : szAfter left (listW BlkW l : Nat) = left - (l.length : Int) - (sumW BlkW l : Int) := by rw [szAfter_pos (by unfold listW; omega)]; unfold listW; omega
    rw [f]
    repeat' (first | refine T_seq ?_ | refine N_then ?_ | refine N_thenE ?_ | refine N_blockE ?_ | refine N_againSE ?_ | refine T_regX tyOk ?_ | refine S_nil ?_ | refine T_ret ?_ | refine T_exit ?_ | (apply E_tmp; (· exact rfl); (· (repeat' (first | exact pure_int _ _ | exact pure_bool _ | exact pure_str _); done))) | (apply T_ifF; (· exact rfl); (· (first | assumption | exact rfl))) | apply S_move | apply S_assign | apply S_lss | (apply S_len_ls; (· exact rfl); (· exact gt_any rfl)) | exact gt_any rfl | exact rfl | fail)

theorem eqBlockS_cv (l : List Blk) (h : listW BlkW l ≤ 1048576) : CV Tryz.prog 13 [blkAS l, blkAS l] (· = .bool true) := by
  refine CV_intro tyOk Tryz.func13 (by kernel_rfl) rfl 27 rfl (by simp) [.tmp 4] rfl ?_
  intro w0 ok0
  have hl : (l.map blkA).length = l.length := by simp
  have hll : l.length ≤ 1048576 := by unfold listW at h; omega
  have hc0 : (!decide (((l.map blkA).length : Int) = ((l.map blkA).length : Int))) = false := by simp
  repeat' (first | refine T_seq ?_ | refine N_then ?_ | refine T_regX tyOk ?_ | refine S_nil ?_ | refine T_skip ?_ | refine T_block ?_ | (apply T_ifF; (· exact rfl); (· (first | assumption | exact rfl))) | apply S_move | apply S_assign | (apply S_neq; (· exact gt_any rfl); (· exact gt_any rfl)) | (apply S_len_ls; (· exact rfl); (· exact gt_any rfl)) | exact gt_any rfl | exact rfl | fail)
  refine T_roundsS (α := Nat) (fun k => ⟨[(0, blkAS l), (1, blkAS l), (5, .int .i64 k)], [], 0⟩)
    (fun k => l.length - k) (fun k => k ≤ l.length) 0 ((weak_of (by repeat' (first | exact keepE_nil | refine keepE_cons rfl ?_)) (by repeat' (first | exact keepB_nil | refine keepB_cons (by first | rfl | exact congrArg (fun l => some (Box.mk l _ _ _)) hset) ?_)) (Nat.le_refl _))).sub (by omega) ?_
  intro k hk
  by_cases hkl : k < l.length
  · have hc : decide ((k : Int) < ((l.map blkA).length : Int)) = true := by simp only [decide_eq_true_eq]; omega
    have hget := map_getD blkA l Blk0 (k := k) (by omega)
    have hkw : IntKind.wrap .i64 ((k : Int) + 1) = ((k + 1 : Nat) : Int) := by rw [wrap_i64 (by omega) (by omega)]; omega
    have hle := listW_mem BlkW l (getD_mem l Blk0 hkl)
    have c0 := eqBlock_cv (l.getD k Blk0) (by omega)
    repeat' (first | refine T_seq ?_ | refine N_then ?_ | refine N_block ?_ | refine T_regX tyOk ?_ | (apply T_drawM (id := 6) 8 tyOk mixed; (· exact rfl); (· exact rfl); (· kernel_rfl); (· exact Nat.le_of_ble_eq_true rfl)) | refine S_nil ?_ | refine T_skip ?_ | refine T_block ?_ | (apply T_ifT; (· exact rfl); (· (first | assumption | exact rfl))) | (apply T_ifF; (· exact rfl); (· (first | assumption | exact rfl))) | apply S_move | apply S_assign | (apply S_loadVA; (· exact rfl); (· exact gt_any rfl); (· exact rfl); (· exact rfl)) | apply S_lss | apply S_add | apply S_not | (apply S_len_ls; (· exact rfl); (· exact gt_any rfl)) | (apply S_idxLs; (· exact rfl); (· exact rfl); (· exact gt_any rfl); (· exact gt_any rfl)) | apply S_callQ (f := 61) | apply c0 | exact viewL_nil | apply viewL_cons | (apply View.pure; exact PureC.out) | exact FlatC.out | exact gt_any rfl | exact gts_nil | (apply gts_cons; (· exact gt_any rfl)) | assumption | (refine ⟨?_, ?_⟩ <;> omega) | exact rfl | fail)
    exact N_againS (k + 1) ((weak_of (by repeat' (first | exact keepE_nil | refine keepE_cons rfl ?_)) (by repeat' (first | exact keepB_nil | refine keepB_cons (by first | rfl | exact congrArg (fun l => some (Box.mk l _ _ _)) hset) ?_)) (Nat.le_refl _))).sub (by omega) (by omega)
  · have hc : decide ((k : Int) < ((l.map blkA).length : Int)) = false := by simp only [decide_eq_false_iff_not]; omega
    repeat' (first | refine T_seq ?_ | refine N_then ?_ | refine N_thenE ?_ | refine N_blockE ?_ | refine N_againSE ?_ | refine T_regX tyOk ?_ | refine S_nil ?_ | refine T_ret ?_ | refine T_exit ?_ | (apply E_tmp; (· exact rfl); (· (repeat' (first | exact pure_int _ _ | exact pure_bool _ | exact pure_str _); done))) | (apply T_ifF; (· exact rfl); (· (first | assumption | exact rfl))) | apply S_move | apply S_assign | apply S_lss | (apply S_len_ls; (· exact rfl); (· exact gt_any rfl)) | exact gt_any rfl | exact rfl | fail)

end Go.Proofs.YtaolmfgpebncjaaGreat
