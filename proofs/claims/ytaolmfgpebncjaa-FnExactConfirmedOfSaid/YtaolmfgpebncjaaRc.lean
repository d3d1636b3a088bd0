/- Heads and clients, as the helpers of the laws take them. -/
import Derived.Test.YtaolmfgpebncjaaRa
import Derived.Test.YtaolmfgpebncjaaGi
set_option maxRecDepth 100000
set_option maxHeartbeats 3200000
set_option linter.unusedSimpArgs false
set_option linter.unusedVariables false
namespace Go.Proofs.Ytaolmfgpebncjaa
open Go.Av
attribute [local irreducible] T thenQ blockQ againQ againS WX retV retR Gt Gts GtsP okCells CV CR Av.Pure

structure Hd where
  parent : List UInt8
  height : Int
  time : Int
  zeros : Int
  root : List UInt8
  nonce : Int
  deriving DecidableEq

abbrev Hd0 : Hd := ⟨[], 0, 0, 0, [], 0⟩

abbrev hdA (x : Hd) : AV := .agg [byA x.parent, .int .i64 x.height, .int .i64 x.time, .int .i64 x.zeros, byA x.root, .int .i64 x.nonce]

abbrev hdAC (x : Hd) : List AV := [byA x.parent, .int .i64 x.height, .int .i64 x.time, .int .i64 x.zeros, byA x.root, .int .i64 x.nonce]

instance : ElemF hdA := ⟨fun a y hy => by
  have h := (inferInstance : CellsC (hdAC a)).out y hy
  exact h⟩

abbrev hdAS (l : List Hd) : AV := .ls 6 true false (l.map hdA)

def HdW (x : Hd) : Nat := x.parent.length + x.root.length

def HdR (x : Hd) : Prop := x.parent.length ≤ 9223372036854775807 ∧ x.root.length ≤ 9223372036854775807

theorem szHead_cv (x : Hd) (left : Int) (hx : HdR x) (h0 : 0 ≤ left) (h1 : left ≤ 9223372036854775807) :
    CV Try.prog 83 [hdA x, .int .i64 left] (· = .int .i64 (szAfter left (HdW x))) := by
  refine CV_intro tyOk Try.func83 (by kernel_rfl) rfl 18 rfl (by simp) [.tmp 4] rfl ?_
  intro w0 ok0
  obtain ⟨hx0, hx1⟩ := hx
  have c0 := szByteS_cv x.parent (left) hx0 (by omega) (by omega)
  by_cases g0 : left - (x.parent.length : Nat) < 0
  · have e0 : szAfter (left) (x.parent.length : Nat) = -1 := szAfter_neg g0
    rw [e0] at c0
    have f : szAfter left (HdW x : Nat) = -1 := szAfter_neg (by unfold HdW; omega)
    rw [f]
    have d : decide ((-1 : Int) < 0) = true := rfl
    repeat' (first | refine T_seq ?_ | refine N_then ?_ | refine N_thenR ?_ | refine T_regX tyOk ?_ | refine S_nil ?_ | refine T_ret ?_ | (apply E_tmp; (· exact rfl); (· (repeat' (first | exact pure_int _ _ | exact pure_bool _ | exact pure_str _); done))) | (apply T_ifT; (· exact rfl); (· (first | assumption | exact rfl))) | apply S_move | apply S_assign | (apply S_loadP; (· exact rfl); (· exact gt_any rfl); (· exact rfl); (· exact rfl); (· exact rfl); (· (first | exact ⟨rfl, rfl⟩ | exact ⟨rfl, trivial⟩ | assumption))) | (apply S_fieldP; (· exact rfl); (· exact rfl); (· exact rfl); (· exact rfl); (· exact gt_any rfl)) | apply S_lss | apply S_box | apply S_callQ (f := 126) | apply c0 | exact viewL_nil | apply viewL_cons | (apply View.pure; exact PureC.out) | exact FlatC.out | exact gt_any rfl | exact gts_nil | (apply gts_cons; (· exact gt_any rfl)) | exact okCells_of rfl rfl | assumption | exact rfl | fail)
  have e0 : szAfter (left) (x.parent.length : Nat) = left - (x.parent.length : Nat) := by rw [szAfter_pos g0]; try omega
  rw [e0] at c0
  have d0 : decide (left - ((x.parent.length : Nat) : Int) < 0) = false := decide_eq_false (by omega)
  have c1 := szByteS_cv x.root (left - (x.parent.length : Nat)) hx1 (by omega) (by omega)
  by_cases g1 : left - (x.parent.length : Nat) - (x.root.length : Nat) < 0
  · have e1 : szAfter (left - (x.parent.length : Nat)) (x.root.length : Nat) = -1 := szAfter_neg g1
    rw [e1] at c1
    have f : szAfter left (HdW x : Nat) = -1 := szAfter_neg (by unfold HdW; omega)
    rw [f]
    have d : decide ((-1 : Int) < 0) = true := rfl
    repeat' (first | refine T_seq ?_ | refine N_then ?_ | refine N_thenR ?_ | refine T_regX tyOk ?_ | refine S_nil ?_ | refine T_skip ?_ | refine T_ret ?_ | (apply E_tmp; (· exact rfl); (· (repeat' (first | exact pure_int _ _ | exact pure_bool _ | exact pure_str _); done))) | (apply T_ifT; (· exact rfl); (· (first | assumption | exact rfl))) | (apply T_ifF; (· exact rfl); (· (first | assumption | exact rfl))) | apply S_move | apply S_assign | (apply S_loadP; (· exact rfl); (· exact gt_any rfl); (· exact rfl); (· exact rfl); (· exact rfl); (· (first | exact ⟨rfl, rfl⟩ | exact ⟨rfl, trivial⟩ | assumption))) | (apply S_fieldP; (· exact rfl); (· exact rfl); (· exact rfl); (· exact rfl); (· exact gt_any rfl)) | apply S_lss | apply S_box | apply S_callQ (f := 126) | apply c0 | apply c1 | exact viewL_nil | apply viewL_cons | (apply View.pure; exact PureC.out) | exact FlatC.out | exact gt_any rfl | exact gts_nil | (apply gts_cons; (· exact gt_any rfl)) | exact okCells_of rfl rfl | assumption | exact rfl | fail)
  have e1 : szAfter (left - (x.parent.length : Nat)) (x.root.length : Nat) = left - (x.parent.length + x.root.length : Nat) := by rw [szAfter_pos g1]; try omega
  rw [e1] at c1
  have d1 : decide (left - ((x.parent.length + x.root.length : Nat) : Int) < 0) = false := decide_eq_false (by omega)
  have f : szAfter left (HdW x : Nat) = left - (x.parent.length + x.root.length : Nat) := szAfter_pos (by unfold HdW; omega)
  rw [f]
  repeat' (first | refine T_seq ?_ | refine N_then ?_ | refine T_regX tyOk ?_ | refine S_nil ?_ | refine T_skip ?_ | refine T_ret ?_ | (apply E_tmp; (· exact rfl); (· (repeat' (first | exact pure_int _ _ | exact pure_bool _ | exact pure_str _); done))) | (apply T_ifF; (· exact rfl); (· (first | assumption | exact rfl))) | apply S_move | apply S_assign | (apply S_loadP; (· exact rfl); (· exact gt_any rfl); (· exact rfl); (· exact rfl); (· exact rfl); (· (first | exact ⟨rfl, rfl⟩ | exact ⟨rfl, trivial⟩ | assumption))) | (apply S_fieldP; (· exact rfl); (· exact rfl); (· exact rfl); (· exact rfl); (· exact gt_any rfl)) | apply S_lss | apply S_box | apply S_callQ (f := 126) | apply c0 | apply c1 | exact viewL_nil | apply viewL_cons | (apply View.pure; exact PureC.out) | exact FlatC.out | exact gt_any rfl | exact gts_nil | (apply gts_cons; (· exact gt_any rfl)) | exact okCells_of rfl rfl | exact rfl | fail)

theorem toHead_cv (x : Hd) (h : HdW x ≤ 1048576) : CV Try.prog 87 [hdA x] (· = hdA x) := by
  refine CV_intro tyOk Try.func87 (by kernel_rfl) rfl 25 rfl (by simp) [.cell 2 64] rfl ?_
  intro w0 ok0
  unfold HdW at h
  have c0 := toByteS_cv x.parent (by omega)
  have c1 := toByteS_cv x.root (by omega)
  repeat' (first | refine T_seq ?_ | refine N_then ?_ | refine T_regX tyOk ?_ | refine S_nil ?_ | refine T_ret ?_ | (apply E_X <;> repeat' (first | exact resL_nil | (apply resL_tmp; (· exact rfl)) | (apply resL_cell; (· exact rfl); (· exact rfl); (· exact rfl); (· exact rfl); (· exact rfl); (· exact rfl)) | (apply resL_arr; (· exact rfl); (· exact rfl); (· exact rfl); (· exact rfl); (· (first | assumption | exact rfl))) | exact viewL_nil | apply viewL_cons | apply view_nothingE | (apply view_slE; (· exact rfl); (· first | exact rfl | assumption | (simp [bA_length]; done) | (simp [bA_length]; omega) | omega); (· exact PureEC.out)) | (apply view_loose; (· exact PureEC.out)) | apply view_agg | apply view_tup | (apply View.ofEq; (· exact PureC.out)) | exact rfl)) | (apply S_loadP; (· exact rfl); (· exact gt_any rfl); (· exact rfl); (· exact rfl); (· exact rfl); (· (first | exact ⟨rfl, rfl⟩ | exact ⟨rfl, trivial⟩ | assumption))) | (apply S_loadW; (· exact rfl); (· exact gt_any rfl); (· exact rfl); (· exact rfl); (· exact rfl); (· exact rfl); (· exact rfl); (· exact rfl)) | (apply S_fieldP; (· exact rfl); (· exact rfl); (· exact rfl); (· exact rfl); (· exact gt_any rfl)) | apply S_alloc | apply S_box | (apply S_store1; (· exact rfl); (· exact gt_any rfl); (· exact rfl); (· exact rfl); (· exact rfl); (· exact rfl)) | (apply S_storeF; (· exact rfl); (· exact gt_any rfl); (· exact rfl); (· exact rfl); (· exact rfl); (· exact rfl); (· exact gt_any rfl); (· exact rfl); (· exact rfl); (· (repeat' constructor))) | apply S_call (f := 24) | apply c0 | apply c1 | exact PureLC.out | exact gt_any rfl | exact gts_nil | (apply gts_cons; (· exact gt_any rfl)) | exact okCells_of rfl rfl | exact rfl | fail)

theorem eqHead_cv (x : Hd) (h : HdW x ≤ 1048576) : CV Try.prog 94 [hdA x, hdA x] (· = .bool true) := by
  refine CV_intro tyOk Try.func94 (by kernel_rfl) rfl 37 rfl (by simp) [.tmp 4] rfl ?_
  intro w0 ok0
  unfold HdW at h
  have c0 := eqB_cv x.parent (by omega)
  have c1 := eqB_cv x.root (by omega)
  have i1 : (!decide (x.height = x.height)) = false := by simp
  have i2 : (!decide (x.time = x.time)) = false := by simp
  have i3 : (!decide (x.zeros = x.zeros)) = false := by simp
  have i5 : (!decide (x.nonce = x.nonce)) = false := by simp
  repeat' (first | refine T_seq ?_ | refine N_then ?_ | refine T_regX tyOk ?_ | refine S_nil ?_ | refine T_skip ?_ | refine T_ret ?_ | (apply E_tmp; (· exact rfl); (· (repeat' (first | exact pure_int _ _ | exact pure_bool _ | exact pure_str _); done))) | (apply T_ifF; (· exact rfl); (· (first | assumption | exact rfl))) | apply S_assign | (apply S_loadP; (· exact rfl); (· exact gt_any rfl); (· exact rfl); (· exact rfl); (· exact rfl); (· (first | exact ⟨rfl, rfl⟩ | exact ⟨rfl, trivial⟩ | assumption))) | (apply S_fieldP; (· exact rfl); (· exact rfl); (· exact rfl); (· exact rfl); (· exact gt_any rfl)) | (apply S_neq; (· exact gt_any rfl); (· exact gt_any rfl)) | apply S_not | apply S_box | apply S_callQ (f := 26) | apply c0 | apply c1 | exact viewL_nil | apply viewL_cons | (apply View.pure; exact PureC.out) | exact FlatC.out | exact gt_any rfl | exact gts_nil | (apply gts_cons; (· exact gt_any rfl)) | exact okCells_of rfl rfl | exact rfl | fail)

theorem elemHead {x : AV} {ei : TI} {n : Nat} (hk : isAggK ei.k = true) (h : TyN ty (n + 2) 75 x.cells ∧ x = (if isAggK ei.k then .agg x.cells else x.cells.getD 0 .undef)) : ∃ a : Hd, x = hdA a ∧ HdR a := by
  obtain ⟨⟨ls, h1, h2, h3⟩, h4⟩ := h
  have hl : leafs ty 8 75 = some [44, 2, 2, 2, 44, 2] := rfl
  rw [hl] at h1
  obtain rfl := Option.some.inj h1
  rw [if_pos hk] at h4
  generalize x.cells = cs at h2 h3 h4
  subst h4
  match cs, h2 with
  | [a0, a1, a2, a3, a4, a5], _ =>
    obtain ⟨e0, xs0, u0, rfl, v0, w0⟩ := h3 0 _ _ rfl rfl
    obtain rfl := Option.some.inj u0
    obtain ⟨q0, rfl⟩ := bytes_of rfl rfl rfl xs0 w0
    rw [bA_length] at v0
    obtain ⟨i1, rfl, _⟩ := h3 1 _ _ rfl rfl
    obtain ⟨i2, rfl, _⟩ := h3 2 _ _ rfl rfl
    obtain ⟨i3, rfl, _⟩ := h3 3 _ _ rfl rfl
    obtain ⟨e4, xs4, u4, rfl, v4, w4⟩ := h3 4 _ _ rfl rfl
    obtain rfl := Option.some.inj u4
    obtain ⟨q4, rfl⟩ := bytes_of rfl rfl rfl xs4 w4
    rw [bA_length] at v4
    obtain ⟨i5, rfl, _⟩ := h3 5 _ _ rfl rfl
    exact ⟨⟨q0, i1, i2, i3, q4, i5⟩, rfl, ⟨v0, v4⟩⟩

theorem szHeadS_cv (l : List Hd) (left : Int) (hx : listR HdR l) (h0 : 0 ≤ left) (h1 : left ≤ 9223372036854775807) :
    CV Try.prog 37 [hdAS l, .int .i64 left] (· = .int .i64 (szAfter left (listW HdW l))) := by
  refine CV_intro tyOk Try.func37 (by kernel_rfl) rfl 27 rfl (by simp) [.tmp 4] rfl ?_
  intro w0 ok0
  have hl : (l.map hdA).length = l.length := by simp
  obtain ⟨hn, hall⟩ := hx
  have hw0 : IntKind.wrap .i64 (left - ((l.map hdA).length : Int)) = left - (l.length : Int) := by rw [wrap_i64 (by omega) (by omega)]; omega
  by_cases g : left - (l.length : Int) < 0
  · have d : decide (left - (l.length : Int) < 0) = true := decide_eq_true g
    have f : szAfter left (listW HdW l : Nat) = -1 := szAfter_neg (by unfold listW; omega)
    rw [f]
    repeat' (first | refine T_seq ?_ | refine N_then ?_ | refine N_thenR ?_ | refine T_regX tyOk ?_ | refine S_nil ?_ | refine T_ret ?_ | (apply E_tmp; (· exact rfl); (· (repeat' (first | exact pure_int _ _ | exact pure_bool _ | exact pure_str _); done))) | (apply T_ifT; (· exact rfl); (· (first | assumption | exact rfl))) | apply S_move | apply S_assign | apply S_lss | apply S_sub | (apply S_len_ls; (· exact rfl); (· exact gt_any rfl)) | exact gt_any rfl | assumption | exact rfl | fail)
  have d : decide (left - (l.length : Int) < 0) = false := decide_eq_false g
  repeat' (first | refine T_seq ?_ | refine N_then ?_ | refine T_regX tyOk ?_ | refine S_nil ?_ | refine T_skip ?_ | refine T_block ?_ | (apply T_ifF; (· exact rfl); (· (first | assumption | exact rfl))) | apply S_move | apply S_assign | apply S_lss | apply S_sub | (apply S_len_ls; (· exact rfl); (· exact gt_any rfl)) | exact gt_any rfl | assumption | exact rfl | fail)
  refine T_roundsS (α := Nat) (fun k => ⟨[(0, hdAS l), (1, .int .i64 (left - (l.length : Int) - (sumW HdW (l.take k) : Int))), (5, .int .i64 k)], [], 0⟩)
    (fun k => l.length - k) (fun k => k ≤ l.length ∧ 0 ≤ left - (l.length : Int) - (sumW HdW (l.take k) : Int)) 0 ?_ ⟨by omega, by simp [sumW]; omega⟩ ?_
  · have e : left - (l.length : Int) - (sumW HdW (l.take 0) : Int) = left - (l.length : Int) := by simp [sumW]
    rw [e]
    exact ((weak_of (by repeat' (first | exact keepE_nil | refine keepE_cons rfl ?_)) (by repeat' (first | exact keepB_nil | refine keepB_cons (by first | rfl | exact congrArg (fun l => some (Box.mk l _ _ _)) hset) ?_)) (Nat.le_refl _))).sub
  rintro k ⟨hk, hI⟩
  by_cases hkl : k < l.length
  · have hc : decide ((k : Int) < ((l.map hdA).length : Int)) = true := by simp only [decide_eq_true_eq]; omega
    have hget := map_getD hdA l Hd0 (k := k) (by omega)
    have hkw : IntKind.wrap .i64 ((k : Int) + 1) = ((k + 1 : Nat) : Int) := by rw [wrap_i64 (by omega) (by omega)]; omega
    have hs := sumW_take HdW l Hd0 hkl
    have hr := hall _ (getD_mem l Hd0 hkl)
    have hle := sumW_le HdW l (k + 1)
    generalize l.getD k Hd0 = x at *
    have c0 := szHead_cv x (left - (l.length : Int) - (sumW HdW (l.take k) : Int)) hr (by omega) (by omega)
    by_cases g2 : left - (l.length : Int) - (sumW HdW (l.take k) : Int) - ((HdW x : Nat) : Int) < 0
    · rw [szAfter_neg g2] at c0
      have d2 : decide ((-1 : Int) < 0) = true := rfl
      have f : szAfter left (listW HdW l : Nat) = -1 := szAfter_neg (by unfold listW; omega)
      rw [f]
      repeat' (first | refine T_seq ?_ | refine N_then ?_ | refine N_thenR ?_ | refine N_blockR ?_ | refine N_againSR ?_ | refine T_regX tyOk ?_ | refine S_nil ?_ | refine T_skip ?_ | refine T_ret ?_ | refine T_block ?_ | (apply E_tmp; (· exact rfl); (· (repeat' (first | exact pure_int _ _ | exact pure_bool _ | exact pure_str _); done))) | (apply T_ifT; (· exact rfl); (· (first | assumption | exact rfl))) | apply S_move | apply S_assign | (apply S_loadVA; (· exact rfl); (· exact gt_any rfl); (· exact rfl); (· exact rfl)) | apply S_lss | (apply S_len_ls; (· exact rfl); (· exact gt_any rfl)) | (apply S_idxLs; (· exact rfl); (· exact rfl); (· exact gt_any rfl); (· exact gt_any rfl)) | apply S_callQ (f := 83) | apply c0 | exact viewL_nil | apply viewL_cons | (apply View.pure; exact PureC.out) | exact FlatC.out | exact gt_any rfl | exact gts_nil | (apply gts_cons; (· exact gt_any rfl)) | assumption | (refine ⟨?_, ?_⟩ <;> omega) | exact rfl | fail)
    · rw [szAfter_pos g2] at c0
      have d2 : decide (left - (l.length : Int) - (sumW HdW (l.take k) : Int) - ((HdW x : Nat) : Int) < 0) = false := decide_eq_false g2
      have e : left - (l.length : Int) - (sumW HdW (l.take k) : Int) - ((HdW x : Nat) : Int) = left - (l.length : Int) - (sumW HdW (l.take (k + 1)) : Int) := by omega
      rw [e] at c0 d2
      repeat' (first | refine T_seq ?_ | refine N_then ?_ | refine N_block ?_ | refine T_regX tyOk ?_ | refine S_nil ?_ | refine T_skip ?_ | refine T_block ?_ | (apply T_ifT; (· exact rfl); (· (first | assumption | exact rfl))) | (apply T_ifF; (· exact rfl); (· (first | assumption | exact rfl))) | apply S_move | apply S_assign | (apply S_loadVA; (· exact rfl); (· exact gt_any rfl); (· exact rfl); (· exact rfl)) | apply S_lss | apply S_add | (apply S_len_ls; (· exact rfl); (· exact gt_any rfl)) | (apply S_idxLs; (· exact rfl); (· exact rfl); (· exact gt_any rfl); (· exact gt_any rfl)) | apply S_callQ (f := 83) | apply c0 | exact viewL_nil | apply viewL_cons | (apply View.pure; exact PureC.out) | exact FlatC.out | exact gt_any rfl | exact gts_nil | (apply gts_cons; (· exact gt_any rfl)) | assumption | (refine ⟨?_, ?_⟩ <;> omega) | exact rfl | fail)
      exact N_againS (k + 1) ((weak_of (by repeat' (first | exact keepE_nil | refine keepE_cons rfl ?_)) (by repeat' (first | exact keepB_nil | refine keepB_cons (by first | rfl | exact congrArg (fun l => some (Box.mk l _ _ _)) hset) ?_)) (Nat.le_refl _))).sub ⟨by omega, by omega⟩ (by omega)
  · have hc : decide ((k : Int) < ((l.map hdA).length : Int)) = false := by simp only [decide_eq_false_iff_not]; omega
    obtain rfl : k = l.length := by omega
    rw [List.take_length] at hI ⊢
    have f : szAfter left (listW HdW l : Nat) = left - (l.length : Int) - (sumW HdW l : Int) := by rw [szAfter_pos (by unfold listW; omega)]; unfold listW; omega
    rw [f]
    repeat' (first | refine T_seq ?_ | refine N_then ?_ | refine N_thenE ?_ | refine N_blockE ?_ | refine N_againSE ?_ | refine T_regX tyOk ?_ | refine S_nil ?_ | refine T_ret ?_ | refine T_exit ?_ | (apply E_tmp; (· exact rfl); (· (repeat' (first | exact pure_int _ _ | exact pure_bool _ | exact pure_str _); done))) | (apply T_ifF; (· exact rfl); (· (first | assumption | exact rfl))) | apply S_move | apply S_assign | apply S_lss | (apply S_len_ls; (· exact rfl); (· exact gt_any rfl)) | exact gt_any rfl | exact rfl | fail)

theorem toHeadS_cv (l : List Hd) (h : listW HdW l ≤ 1048576) : CV Try.prog 43 [hdAS l] (· = hdAS l) := by
  refine CV_intro tyOk Try.func43 (by kernel_rfl) rfl 23 rfl (by simp) [.tmp 2] rfl ?_
  intro w0 ok0
  have hl : (l.map hdA).length = l.length := by simp
  have hll : l.length ≤ 1048576 := by unfold listW at h; omega
  repeat' (first | refine T_seq ?_ | refine N_then ?_ | refine T_regX tyOk ?_ | refine S_nil ?_ | refine T_block ?_ | apply S_move | apply S_assign | (apply S_len_ls; (· exact rfl); (· exact gt_any rfl)) | (apply S_make; (· exact rfl); (· exact rfl); (· exact gt_any rfl); (· exact gt_any rfl); (· exact rfl); (· (first | assumption | omega)); (· (first | assumption | omega | (dsimp only; omega) | (simp; omega))); (· (first | assumption | omega | (dsimp only; omega) | (simp; omega))); (· (first | assumption | omega | (dsimp only; omega) | (simp; omega))); (· (first | exact okCells_of rfl rfl | assumption)); (· (first | exact Nat.le_of_ble_eq_true rfl | omega | decide))) | exact gt_any rfl | exact rfl | fail)
  refine T_roundsS (α := Nat) (fun k => ⟨[(0, hdAS l), (3, .sl 0 0 (l.map hdA).length (l.map hdA).length), (4, .int .i64 k)], [(0, some ⟨(l.map hdA).take k ++ List.replicate ((l.map hdA).length - k) (AV.agg [.ls 0 true true [], .int .i64 0, .int .i64 0, .int .i64 0, .ls 0 true true [], .int .i64 0]), 6, false, false⟩)], 1⟩)
    (fun k => (l.map hdA).length - k) (fun k => k ≤ (l.map hdA).length) 0 ((weak_of (by repeat' (first | exact keepE_nil | refine keepE_cons rfl ?_)) (by repeat' (first | exact keepB_nil | refine keepB_cons (by first | rfl | exact congrArg (fun l => some (Box.mk l _ _ _)) hset) ?_)) (Nat.le_refl _))).sub (by omega) ?_
  intro k hk
  by_cases hkl : k < (l.map hdA).length
  · have hc : decide ((k : Int) < ((l.map hdA).length : Int)) = true := by simp only [decide_eq_true_eq]; omega
    have hget := map_getD hdA l Hd0 (k := k) (by omega)
    have hat := map_at hdA l Hd0 (k := k) (by omega)
    have hset := copy_step (l.map hdA) (AV.agg [.ls 0 true true [], .int .i64 0, .int .i64 0, .int .i64 0, .ls 0 true true [], .int .i64 0]) hkl hat
    have hin : 0 + ((k : Int)).toNat < ((l.map hdA).take k ++ List.replicate ((l.map hdA).length - k) (AV.agg [.ls 0 true true [], .int .i64 0, .int .i64 0, .int .i64 0, .ls 0 true true [], .int .i64 0])).length := by
      simp only [List.length_append, List.length_take, List.length_replicate]; omega
    have hkw : IntKind.wrap .i64 ((k : Int) + 1) = ((k + 1 : Nat) : Int) := by rw [wrap_i64 (by omega) (by omega)]; omega
    have hle := listW_mem HdW l (getD_mem l Hd0 (by omega : k < l.length))
    have okk : okCells 6 (hdA (l.getD k Hd0)) := okCells_of rfl rfl
    have c0 := toHead_cv (l.getD k Hd0) (by omega)
    repeat' (first | refine T_seq ?_ | refine N_then ?_ | refine N_block ?_ | refine T_regX tyOk ?_ | refine S_nil ?_ | refine T_skip ?_ | refine T_block ?_ | (apply T_ifT; (· exact rfl); (· (first | assumption | exact rfl))) | apply S_move | apply S_assign | (apply S_loadVA; (· exact rfl); (· exact gt_any rfl); (· exact rfl); (· exact rfl)) | apply S_lss | apply S_add | (apply S_len_ls; (· exact rfl); (· exact gt_any rfl)) | (apply S_idxLs; (· exact rfl); (· exact rfl); (· exact gt_any rfl); (· exact gt_any rfl)) | (apply S_idxSl; (· exact rfl); (· exact rfl); (· exact gt_any rfl); (· exact rfl); (· exact gt_any rfl)) | (apply S_storeE; (· exact rfl); (· exact gt_any rfl); (· exact rfl); (· exact rfl); (· exact rfl)) | apply S_call (f := 87) | apply c0 | exact PureLC.out | exact gt_any rfl | exact gts_nil | (apply gts_cons; (· exact gt_any rfl)) | exact okCells_of rfl rfl | assumption | (refine ⟨?_, ?_⟩ <;> omega) | exact rfl | fail)
    exact N_againS (k + 1) ((weak_of (by repeat' (first | exact keepE_nil | refine keepE_cons rfl ?_)) (by repeat' (first | exact keepB_nil | refine keepB_cons (by first | rfl | exact congrArg (fun l => some (Box.mk l _ _ _)) hset) ?_)) (Nat.le_refl _))).sub (by omega) (by omega)
  · have hc : decide ((k : Int) < ((l.map hdA).length : Int)) = false := by simp only [decide_eq_false_iff_not]; omega
    obtain rfl : k = (l.map hdA).length := by omega
    have he : (l.map hdA).take (l.map hdA).length ++ List.replicate ((l.map hdA).length - (l.map hdA).length) (AV.agg [.ls 0 true true [], .int .i64 0, .int .i64 0, .int .i64 0, .ls 0 true true [], .int .i64 0]) = l.map hdA := by
      rw [Nat.sub_self, List.replicate_zero, List.append_nil, List.take_length]
    repeat' (first | refine T_seq ?_ | refine N_then ?_ | refine N_thenE ?_ | refine N_blockE ?_ | refine N_againSE ?_ | refine T_regX tyOk ?_ | refine S_nil ?_ | refine T_ret ?_ | refine T_exit ?_ | (apply T_ifF; (· exact rfl); (· (first | assumption | exact rfl))) | apply S_move | apply S_assign | apply S_lss | (apply S_len_ls; (· exact rfl); (· exact gt_any rfl)) | exact gt_any rfl | exact rfl | fail)
    rw [he]
    (apply E_X <;> repeat' (first | exact resL_nil | (apply resL_tmp; (· exact rfl)) | (apply resL_cell; (· exact rfl); (· exact rfl); (· exact rfl); (· exact rfl); (· exact rfl); (· exact rfl)) | (apply resL_arr; (· exact rfl); (· exact rfl); (· exact rfl); (· exact rfl); (· (first | assumption | exact rfl))) | exact viewL_nil | apply viewL_cons | apply view_nothingE | (apply view_slE; (· exact rfl); (· first | exact rfl | assumption | (simp [bA_length]; done) | (simp [bA_length]; omega) | omega); (· exact PureEC.out)) | (apply view_loose; (· exact PureEC.out)) | apply view_agg | apply view_tup | (apply View.ofEq; (· exact PureC.out)) | exact rfl))

theorem eqHeadS_cv (l : List Hd) (h : listW HdW l ≤ 1048576) : CV Try.prog 48 [hdAS l, hdAS l] (· = .bool true) := by
  refine CV_intro tyOk Try.func48 (by kernel_rfl) rfl 27 rfl (by simp) [.tmp 4] rfl ?_
  intro w0 ok0
  have hl : (l.map hdA).length = l.length := by simp
  have hll : l.length ≤ 1048576 := by unfold listW at h; omega
  have hc0 : (!decide (((l.map hdA).length : Int) = ((l.map hdA).length : Int))) = false := by simp
  repeat' (first | refine T_seq ?_ | refine N_then ?_ | refine T_regX tyOk ?_ | refine S_nil ?_ | refine T_skip ?_ | refine T_block ?_ | (apply T_ifF; (· exact rfl); (· (first | assumption | exact rfl))) | apply S_move | apply S_assign | (apply S_neq; (· exact gt_any rfl); (· exact gt_any rfl)) | (apply S_len_ls; (· exact rfl); (· exact gt_any rfl)) | exact gt_any rfl | exact rfl | fail)
  refine T_roundsS (α := Nat) (fun k => ⟨[(0, hdAS l), (1, hdAS l), (5, .int .i64 k)], [], 0⟩)
    (fun k => l.length - k) (fun k => k ≤ l.length) 0 ((weak_of (by repeat' (first | exact keepE_nil | refine keepE_cons rfl ?_)) (by repeat' (first | exact keepB_nil | refine keepB_cons (by first | rfl | exact congrArg (fun l => some (Box.mk l _ _ _)) hset) ?_)) (Nat.le_refl _))).sub (by omega) ?_
  intro k hk
  by_cases hkl : k < l.length
  · have hc : decide ((k : Int) < ((l.map hdA).length : Int)) = true := by simp only [decide_eq_true_eq]; omega
    have hget := map_getD hdA l Hd0 (k := k) (by omega)
    have hkw : IntKind.wrap .i64 ((k : Int) + 1) = ((k + 1 : Nat) : Int) := by rw [wrap_i64 (by omega) (by omega)]; omega
    have hle := listW_mem HdW l (getD_mem l Hd0 hkl)
    have c0 := eqHead_cv (l.getD k Hd0) (by omega)
    repeat' (first | refine T_seq ?_ | refine N_then ?_ | refine N_block ?_ | refine T_regX tyOk ?_ | (apply T_drawM (id := 6) 8 tyOk mixed; (· exact rfl); (· exact rfl); (· kernel_rfl); (· exact Nat.le_of_ble_eq_true rfl)) | refine S_nil ?_ | refine T_skip ?_ | refine T_block ?_ | (apply T_ifT; (· exact rfl); (· (first | assumption | exact rfl))) | (apply T_ifF; (· exact rfl); (· (first | assumption | exact rfl))) | apply S_move | apply S_assign | (apply S_loadVA; (· exact rfl); (· exact gt_any rfl); (· exact rfl); (· exact rfl)) | apply S_lss | apply S_add | apply S_not | (apply S_len_ls; (· exact rfl); (· exact gt_any rfl)) | (apply S_idxLs; (· exact rfl); (· exact rfl); (· exact gt_any rfl); (· exact gt_any rfl)) | apply S_callQ (f := 94) | apply c0 | exact viewL_nil | apply viewL_cons | (apply View.pure; exact PureC.out) | exact FlatC.out | exact gt_any rfl | exact gts_nil | (apply gts_cons; (· exact gt_any rfl)) | assumption | (refine ⟨?_, ?_⟩ <;> omega) | exact rfl | fail)
    exact N_againS (k + 1) ((weak_of (by repeat' (first | exact keepE_nil | refine keepE_cons rfl ?_)) (by repeat' (first | exact keepB_nil | refine keepB_cons (by first | rfl | exact congrArg (fun l => some (Box.mk l _ _ _)) hset) ?_)) (Nat.le_refl _))).sub (by omega) (by omega)
  · have hc : decide ((k : Int) < ((l.map hdA).length : Int)) = false := by simp only [decide_eq_false_iff_not]; omega
    repeat' (first | refine T_seq ?_ | refine N_then ?_ | refine N_thenE ?_ | refine N_blockE ?_ | refine N_againSE ?_ | refine T_regX tyOk ?_ | refine S_nil ?_ | refine T_ret ?_ | refine T_exit ?_ | (apply E_tmp; (· exact rfl); (· (repeat' (first | exact pure_int _ _ | exact pure_bool _ | exact pure_str _); done))) | (apply T_ifF; (· exact rfl); (· (first | assumption | exact rfl))) | apply S_move | apply S_assign | apply S_lss | (apply S_len_ls; (· exact rfl); (· exact gt_any rfl)) | exact gt_any rfl | exact rfl | fail)

structure Cli where
  heads : List Hd
  depth : Int
  deriving DecidableEq

abbrev Cli0 : Cli := ⟨[], 0⟩

abbrev cliA (x : Cli) : AV := .agg [hdAS x.heads, .int .i64 x.depth]

abbrev cliAC (x : Cli) : List AV := [hdAS x.heads, .int .i64 x.depth]

instance : ElemF cliA := ⟨fun a y hy => by
  have h := (inferInstance : CellsC (cliAC a)).out y hy
  exact h⟩

abbrev cliAS (l : List Cli) : AV := .ls 2 true false (l.map cliA)

def CliW (x : Cli) : Nat := listW HdW x.heads

def CliR (x : Cli) : Prop := listR HdR x.heads

theorem szClient_cv (x : Cli) (left : Int) (hx : CliR x) (h0 : 0 ≤ left) (h1 : left ≤ 9223372036854775807) :
    CV Try.prog 10 [cliA x, .int .i64 left] (· = .int .i64 (szAfter left (CliW x))) := by
  refine CV_intro tyOk Try.func10 (by kernel_rfl) rfl 12 rfl (by simp) [.tmp 4] rfl ?_
  intro w0 ok0
  have hx0 : listR HdR x.heads := hx
  have c0 := szHeadS_cv x.heads (left) hx0 (by omega) (by omega)
  by_cases g0 : left - (listW HdW x.heads : Nat) < 0
  · have e0 : szAfter (left) (listW HdW x.heads : Nat) = -1 := szAfter_neg g0
    rw [e0] at c0
    have f : szAfter left (CliW x : Nat) = -1 := szAfter_neg (by unfold CliW; omega)
    rw [f]
    have d : decide ((-1 : Int) < 0) = true := rfl
    repeat' (first | refine T_seq ?_ | refine N_then ?_ | refine N_thenR ?_ | refine T_regX tyOk ?_ | refine S_nil ?_ | refine T_ret ?_ | (apply E_tmp; (· exact rfl); (· (repeat' (first | exact pure_int _ _ | exact pure_bool _ | exact pure_str _); done))) | (apply T_ifT; (· exact rfl); (· (first | assumption | exact rfl))) | apply S_move | apply S_assign | (apply S_loadP; (· exact rfl); (· exact gt_any rfl); (· exact rfl); (· exact rfl); (· exact rfl); (· (first | exact ⟨rfl, rfl⟩ | exact ⟨rfl, trivial⟩ | assumption))) | (apply S_fieldP; (· exact rfl); (· exact rfl); (· exact rfl); (· exact rfl); (· exact gt_any rfl)) | apply S_lss | apply S_box | apply S_callQ (f := 37) | apply c0 | exact viewL_nil | apply viewL_cons | (apply View.pure; exact PureC.out) | exact FlatC.out | exact gt_any rfl | exact gts_nil | (apply gts_cons; (· exact gt_any rfl)) | exact okCells_of rfl rfl | assumption | exact rfl | fail)
  have e0 : szAfter (left) (listW HdW x.heads : Nat) = left - (listW HdW x.heads : Nat) := by rw [szAfter_pos g0]; try omega
  rw [e0] at c0
  have d0 : decide (left - ((listW HdW x.heads : Nat) : Int) < 0) = false := decide_eq_false (by omega)
  have f : szAfter left (CliW x : Nat) = left - (listW HdW x.heads : Nat) := szAfter_pos (by unfold CliW; omega)
  rw [f]
  repeat' (first | refine T_seq ?_ | refine N_then ?_ | refine T_regX tyOk ?_ | refine S_nil ?_ | refine T_skip ?_ | refine T_ret ?_ | (apply E_tmp; (· exact rfl); (· (repeat' (first | exact pure_int _ _ | exact pure_bool _ | exact pure_str _); done))) | (apply T_ifF; (· exact rfl); (· (first | assumption | exact rfl))) | apply S_move | apply S_assign | (apply S_loadP; (· exact rfl); (· exact gt_any rfl); (· exact rfl); (· exact rfl); (· exact rfl); (· (first | exact ⟨rfl, rfl⟩ | exact ⟨rfl, trivial⟩ | assumption))) | (apply S_fieldP; (· exact rfl); (· exact rfl); (· exact rfl); (· exact rfl); (· exact gt_any rfl)) | apply S_lss | apply S_box | apply S_callQ (f := 37) | apply c0 | exact viewL_nil | apply viewL_cons | (apply View.pure; exact PureC.out) | exact FlatC.out | exact gt_any rfl | exact gts_nil | (apply gts_cons; (· exact gt_any rfl)) | exact okCells_of rfl rfl | exact rfl | fail)

theorem toClient_cv (x : Cli) (h : CliW x ≤ 1048576) : CV Try.prog 12 [cliA x] (· = cliA x) := by
  refine CV_intro tyOk Try.func12 (by kernel_rfl) rfl 12 rfl (by simp) [.cell 2 29] rfl ?_
  intro w0 ok0
  unfold CliW at h
  have c0 := toHeadS_cv x.heads (by omega)
  repeat' (first | refine T_seq ?_ | refine N_then ?_ | refine T_regX tyOk ?_ | refine S_nil ?_ | refine T_ret ?_ | (apply E_X <;> repeat' (first | exact resL_nil | (apply resL_tmp; (· exact rfl)) | (apply resL_cell; (· exact rfl); (· exact rfl); (· exact rfl); (· exact rfl); (· exact rfl); (· exact rfl)) | (apply resL_arr; (· exact rfl); (· exact rfl); (· exact rfl); (· exact rfl); (· (first | assumption | exact rfl))) | exact viewL_nil | apply viewL_cons | apply view_nothingE | (apply view_slE; (· exact rfl); (· first | exact rfl | assumption | (simp [bA_length]; done) | (simp [bA_length]; omega) | omega); (· exact PureEC.out)) | (apply view_loose; (· exact PureEC.out)) | apply view_agg | apply view_tup | (apply View.ofEq; (· exact PureC.out)) | exact rfl)) | (apply S_loadP; (· exact rfl); (· exact gt_any rfl); (· exact rfl); (· exact rfl); (· exact rfl); (· (first | exact ⟨rfl, rfl⟩ | exact ⟨rfl, trivial⟩ | assumption))) | (apply S_loadW; (· exact rfl); (· exact gt_any rfl); (· exact rfl); (· exact rfl); (· exact rfl); (· exact rfl); (· exact rfl); (· exact rfl)) | (apply S_fieldP; (· exact rfl); (· exact rfl); (· exact rfl); (· exact rfl); (· exact gt_any rfl)) | apply S_alloc | apply S_box | (apply S_store1; (· exact rfl); (· exact gt_any rfl); (· exact rfl); (· exact rfl); (· exact rfl); (· exact rfl)) | (apply S_storeF; (· exact rfl); (· exact gt_any rfl); (· exact rfl); (· exact rfl); (· exact rfl); (· exact rfl); (· exact gt_any rfl); (· exact rfl); (· exact rfl); (· (repeat' constructor))) | apply S_call (f := 43) | apply c0 | exact PureLC.out | exact gt_any rfl | exact gts_nil | (apply gts_cons; (· exact gt_any rfl)) | exact okCells_of rfl rfl | exact rfl | fail)

theorem eqClient_cv (x : Cli) (h : CliW x ≤ 1048576) : CV Try.prog 14 [cliA x, cliA x] (· = .bool true) := by
  refine CV_intro tyOk Try.func14 (by kernel_rfl) rfl 16 rfl (by simp) [.tmp 4] rfl ?_
  intro w0 ok0
  unfold CliW at h
  have c0 := eqHeadS_cv x.heads (by omega)
  have i1 : (!decide (x.depth = x.depth)) = false := by simp
  repeat' (first | refine T_seq ?_ | refine N_then ?_ | refine T_regX tyOk ?_ | refine S_nil ?_ | refine T_skip ?_ | refine T_ret ?_ | (apply E_tmp; (· exact rfl); (· (repeat' (first | exact pure_int _ _ | exact pure_bool _ | exact pure_str _); done))) | (apply T_ifF; (· exact rfl); (· (first | assumption | exact rfl))) | apply S_assign | (apply S_loadP; (· exact rfl); (· exact gt_any rfl); (· exact rfl); (· exact rfl); (· exact rfl); (· (first | exact ⟨rfl, rfl⟩ | exact ⟨rfl, trivial⟩ | assumption))) | (apply S_fieldP; (· exact rfl); (· exact rfl); (· exact rfl); (· exact rfl); (· exact gt_any rfl)) | (apply S_neq; (· exact gt_any rfl); (· exact gt_any rfl)) | apply S_not | apply S_box | apply S_callQ (f := 48) | apply c0 | exact viewL_nil | apply viewL_cons | (apply View.pure; exact PureC.out) | exact FlatC.out | exact gt_any rfl | exact gts_nil | (apply gts_cons; (· exact gt_any rfl)) | exact okCells_of rfl rfl | exact rfl | fail)

theorem elemClient {x : AV} {ei : TI} {n : Nat} (hk : isAggK ei.k = true) (h : TyN ty (n + 3) 24 x.cells ∧ x = (if isAggK ei.k then .agg x.cells else x.cells.getD 0 .undef)) : ∃ a : Cli, x = cliA a ∧ CliR a := by
  obtain ⟨⟨ls, h1, h2, h3⟩, h4⟩ := h
  have hl : leafs ty 8 24 = some [22, 2] := rfl
  rw [hl] at h1
  obtain rfl := Option.some.inj h1
  rw [if_pos hk] at h4
  generalize x.cells = cs at h2 h3 h4
  subst h4
  match cs, h2 with
  | [a0, a1], _ =>
    obtain ⟨e0, xs0, u0, rfl, v0, w0⟩ := h3 0 _ _ rfl rfl
    obtain rfl := Option.some.inj u0
    obtain ⟨q0, rfl, z0⟩ := list_ofP hdA (fun x hx => elemHead rfl hx) xs0 w0
    rw [List.length_map] at v0
    obtain ⟨i1, rfl, _⟩ := h3 1 _ _ rfl rfl
    exact ⟨⟨q0, i1⟩, rfl, ⟨v0, z0⟩⟩

theorem isClient {x : AV} (h : TyV ty 24 x) : ∃ a : Cli, x = cliA a ∧ CliR a := by
  have h3 := h.2.2.1 ⟨_, rfl, rfl⟩
  have hk : ∃ ei, ty 24 = some ei ∧ isAggK ei.k = true := ⟨_, rfl, rfl⟩
  obtain ⟨ei, _, hk⟩ := hk
  exact elemClient (n := 1) hk ⟨h.1, by rw [if_pos hk]; exact h3⟩

end Go.Proofs.Ytaolmfgpebncjaa
