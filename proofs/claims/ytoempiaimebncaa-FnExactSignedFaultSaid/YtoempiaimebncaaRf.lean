/- Signed heads, as the helpers of the laws take them. -/
import Derived.Test.YtoempiaimebncaaRb
import Derived.Test.YtoempiaimebncaaRe
set_option maxRecDepth 100000
set_option maxHeartbeats 3200000
set_option linter.unusedSimpArgs false
set_option linter.unusedVariables false
namespace Go.Proofs.Ytoempiaimebncaa
open Go.Av
attribute [local irreducible] T thenQ blockQ againQ againS WX retV retR Gt Gts GtsP okCells CV CR Av.Pure

structure Vot where
  place : Int
  sign : Sig
  deriving DecidableEq

abbrev Vot0 : Vot := ⟨0, ⟨0, [], ⟨0, 0, []⟩⟩⟩

abbrev votA (x : Vot) : AV := .agg [.int .i64 x.place, .int .i64 x.sign.leaf, rowsA x.sign.parts, .int .i64 x.sign.prf.place, .int .i64 x.sign.prf.count, rowsA x.sign.prf.path]

abbrev votAC (x : Vot) : List AV := [.int .i64 x.place, .int .i64 x.sign.leaf, rowsA x.sign.parts, .int .i64 x.sign.prf.place, .int .i64 x.sign.prf.count, rowsA x.sign.prf.path]

instance : ElemF votA := ⟨fun a y hy => by
  have h := (inferInstance : CellsC (votAC a)).out y hy
  exact h⟩

abbrev votAS (l : List Vot) : AV := .ls 6 true false (l.map votA)

def VotW (x : Vot) : Nat := SigW x.sign

def VotR (x : Vot) : Prop := SigR x.sign

theorem szVote_cv (x : Vot) (left : Int) (hx : VotR x) (h0 : 0 ≤ left) (h1 : left ≤ 9223372036854775807) :
    CV Try.prog 36 [votA x, .int .i64 left] (· = .int .i64 (szAfter left (VotW x))) := by
  refine CV_intro tyOk Try.func36 (by kernel_rfl) rfl 12 rfl (by simp) [.tmp 4] rfl ?_
  intro w0 ok0
  have hx0 : SigR x.sign := hx
  have c0 := szSignature_cv x.sign (left) hx0 (by omega) (by omega)
  by_cases g0 : left - (SigW x.sign : Nat) < 0
  · have e0 : szAfter (left) (SigW x.sign : Nat) = -1 := szAfter_neg g0
    rw [e0] at c0
    have f : szAfter left (VotW x : Nat) = -1 := szAfter_neg (by unfold VotW; omega)
    rw [f]
    have d : decide ((-1 : Int) < 0) = true := rfl
    repeat' (first | refine T_seq ?_ | refine N_then ?_ | refine N_thenR ?_ | refine T_regX tyOk ?_ | refine S_nil ?_ | refine T_ret ?_ | (apply E_tmp; (· exact rfl); (· (repeat' (first | exact pure_int _ _ | exact pure_bool _ | exact pure_str _); done))) | (apply T_ifT; (· exact rfl); (· (first | assumption | exact rfl))) | apply S_move | apply S_assign | (apply M_loadA; (· exact rfl); (· exact rfl); (· exact gt_any rfl); (· exact rfl); (· exact rfl); (· (repeat' constructor))) | (apply S_fieldP; (· exact rfl); (· exact rfl); (· exact rfl); (· exact rfl); (· exact gt_any rfl)) | apply S_lss | apply S_box | apply S_callQ (f := 59) | apply c0 | exact viewL_nil | apply viewL_cons | (apply View.pure; exact PureC.out) | exact FlatC.out | exact gt_any rfl | exact gts_nil | (apply gts_cons; (· exact gt_any rfl)) | exact okCells_of rfl rfl | assumption | exact rfl | fail)
  have e0 : szAfter (left) (SigW x.sign : Nat) = left - (SigW x.sign : Nat) := by rw [szAfter_pos g0]; try omega
  rw [e0] at c0
  have d0 : decide (left - ((SigW x.sign : Nat) : Int) < 0) = false := decide_eq_false (by omega)
  have f : szAfter left (VotW x : Nat) = left - (SigW x.sign : Nat) := szAfter_pos (by unfold VotW; omega)
  rw [f]
  repeat' (first | refine T_seq ?_ | refine N_then ?_ | refine T_regX tyOk ?_ | refine S_nil ?_ | refine T_skip ?_ | refine T_ret ?_ | (apply E_tmp; (· exact rfl); (· (repeat' (first | exact pure_int _ _ | exact pure_bool _ | exact pure_str _); done))) | (apply T_ifF; (· exact rfl); (· (first | assumption | exact rfl))) | apply S_move | apply S_assign | (apply M_loadA; (· exact rfl); (· exact rfl); (· exact gt_any rfl); (· exact rfl); (· exact rfl); (· (repeat' constructor))) | (apply S_fieldP; (· exact rfl); (· exact rfl); (· exact rfl); (· exact rfl); (· exact gt_any rfl)) | apply S_lss | apply S_box | apply S_callQ (f := 59) | apply c0 | exact viewL_nil | apply viewL_cons | (apply View.pure; exact PureC.out) | exact FlatC.out | exact gt_any rfl | exact gts_nil | (apply gts_cons; (· exact gt_any rfl)) | exact okCells_of rfl rfl | exact rfl | fail)

theorem toVote_cv (x : Vot) (h : VotW x ≤ 1048576) : CV Try.prog 46 [votA x] (· = votA x) := by
  refine CV_intro tyOk Try.func46 (by kernel_rfl) rfl 12 rfl (by simp) [.cell 2 58] rfl ?_
  intro w0 ok0
  unfold VotW at h
  have c0 := toSignature_cv x.sign (by omega)
  repeat' (first | refine T_seq ?_ | refine N_then ?_ | refine T_regX tyOk ?_ | refine S_nil ?_ | refine T_ret ?_ | (apply E_X <;> repeat' (first | exact resL_nil | (apply resL_tmp; (· exact rfl)) | (apply resL_cell; (· exact rfl); (· exact rfl); (· exact rfl); (· exact rfl); (· exact rfl); (· exact rfl)) | (apply resL_arr; (· exact rfl); (· exact rfl); (· exact rfl); (· exact rfl); (· (first | assumption | exact rfl))) | exact viewL_nil | apply viewL_cons | apply view_nothingE | (apply view_slE; (· exact rfl); (· first | exact rfl | assumption | (simp [bA_length]; done) | (simp [bA_length]; omega) | omega); (· exact PureEC.out)) | (apply view_loose; (· exact PureEC.out)) | apply view_agg | apply view_tup | (apply View.ofEq; (· exact PureC.out)) | exact rfl)) | (apply S_loadP; (· exact rfl); (· exact gt_any rfl); (· exact rfl); (· exact rfl); (· exact rfl); (· (first | exact ⟨rfl, rfl⟩ | exact ⟨rfl, trivial⟩ | assumption))) | (apply S_loadW; (· exact rfl); (· exact gt_any rfl); (· exact rfl); (· exact rfl); (· exact rfl); (· exact rfl); (· exact rfl); (· exact rfl)) | (apply M_loadA; (· exact rfl); (· exact rfl); (· exact gt_any rfl); (· exact rfl); (· exact rfl); (· (repeat' constructor))) | (apply S_fieldP; (· exact rfl); (· exact rfl); (· exact rfl); (· exact rfl); (· exact gt_any rfl)) | apply S_alloc | apply S_box | (apply S_store1; (· exact rfl); (· exact gt_any rfl); (· exact rfl); (· exact rfl); (· exact rfl); (· exact rfl)) | (apply S_storeF; (· exact rfl); (· exact gt_any rfl); (· exact rfl); (· exact rfl); (· exact rfl); (· exact rfl); (· exact gt_any rfl); (· exact rfl); (· exact rfl); (· (repeat' constructor))) | (apply S_storeG; (· exact rfl); (· exact gt_any rfl); (· exact rfl); (· exact rfl); (· exact rfl); (· exact gt_any rfl); (· (first | exact okCells_of rfl rfl | assumption)); (· (first | exact Nat.le_of_ble_eq_true rfl | omega | decide)); (· exact rfl)) | apply S_call (f := 65) | apply c0 | exact PureLC.out | exact gt_any rfl | exact gts_nil | (apply gts_cons; (· exact gt_any rfl)) | exact okCells_of rfl rfl | exact rfl | fail)

theorem eqVote_cv (x : Vot) (h : VotW x ≤ 1048576) : CV Try.prog 58 [votA x, votA x] (· = .bool true) := by
  refine CV_intro tyOk Try.func58 (by kernel_rfl) rfl 16 rfl (by simp) [.tmp 4] rfl ?_
  intro w0 ok0
  unfold VotW at h
  have c0 := eqSignature_cv x.sign (by omega)
  have i0 : (!decide (x.place = x.place)) = false := by simp
  repeat' (first | refine T_seq ?_ | refine N_then ?_ | refine T_regX tyOk ?_ | refine S_nil ?_ | refine T_skip ?_ | refine T_ret ?_ | (apply E_tmp; (· exact rfl); (· (repeat' (first | exact pure_int _ _ | exact pure_bool _ | exact pure_str _); done))) | (apply T_ifF; (· exact rfl); (· (first | assumption | exact rfl))) | apply S_assign | (apply S_loadP; (· exact rfl); (· exact gt_any rfl); (· exact rfl); (· exact rfl); (· exact rfl); (· (first | exact ⟨rfl, rfl⟩ | exact ⟨rfl, trivial⟩ | assumption))) | (apply M_loadA; (· exact rfl); (· exact rfl); (· exact gt_any rfl); (· exact rfl); (· exact rfl); (· (repeat' constructor))) | (apply S_fieldP; (· exact rfl); (· exact rfl); (· exact rfl); (· exact rfl); (· exact gt_any rfl)) | (apply S_neq; (· exact gt_any rfl); (· exact gt_any rfl)) | apply S_not | apply S_box | apply S_callQ (f := 78) | apply c0 | exact viewL_nil | apply viewL_cons | (apply View.pure; exact PureC.out) | exact FlatC.out | exact gt_any rfl | exact gts_nil | (apply gts_cons; (· exact gt_any rfl)) | exact okCells_of rfl rfl | exact rfl | fail)

theorem elemVote {x : AV} {ei : TI} {n : Nat} (hk : isAggK ei.k = true) (h : TyN ty (n + 3) 75 x.cells ∧ x = (if isAggK ei.k then .agg x.cells else x.cells.getD 0 .undef)) : ∃ a : Vot, x = votA a ∧ VotR a := by
  obtain ⟨⟨ls, h1, h2, h3⟩, h4⟩ := h
  have hl : leafs ty 8 75 = some [2, 2, 52, 2, 2, 52] := rfl
  rw [hl] at h1
  obtain rfl := Option.some.inj h1
  rw [if_pos hk] at h4
  generalize x.cells = cs at h2 h3 h4
  subst h4
  match cs, h2 with
  | [a0, a1, a2, a3, a4, a5], _ =>
    obtain ⟨i0, rfl, _⟩ := h3 0 _ _ rfl rfl
    obtain ⟨i1, rfl, _⟩ := h3 1 _ _ rfl rfl
    obtain ⟨e2, xs2, u2, rfl, v2, w2⟩ := h3 2 _ _ rfl rfl
    obtain rfl := Option.some.inj u2
    obtain ⟨q2, rfl, z2⟩ := rows_of xs2 w2
    rw [List.length_map] at v2
    obtain ⟨i3, rfl, _⟩ := h3 3 _ _ rfl rfl
    obtain ⟨i4, rfl, _⟩ := h3 4 _ _ rfl rfl
    obtain ⟨e5, xs5, u5, rfl, v5, w5⟩ := h3 5 _ _ rfl rfl
    obtain rfl := Option.some.inj u5
    obtain ⟨q5, rfl, z5⟩ := rows_of xs5 w5
    rw [List.length_map] at v5
    exact ⟨⟨i0, ⟨i1, q2, ⟨i3, i4, q5⟩⟩⟩, rfl, ⟨⟨v2, z2⟩, ⟨v5, z5⟩⟩⟩

theorem isVote {x : AV} (h : TyV ty 75 x) : ∃ a : Vot, x = votA a ∧ VotR a := by
  have h3 := h.2.2.1 ⟨_, rfl, rfl⟩
  have hk : ∃ ei, ty 75 = some ei ∧ isAggK ei.k = true := ⟨_, rfl, rfl⟩
  obtain ⟨ei, _, hk⟩ := hk
  exact elemVote (n := 1) hk ⟨h.1, by rw [if_pos hk]; exact h3⟩

theorem szVoteS_cv (l : List Vot) (left : Int) (hx : listR VotR l) (h0 : 0 ≤ left) (h1 : left ≤ 9223372036854775807) :
    CV Try.prog 14 [votAS l, .int .i64 left] (· = .int .i64 (szAfter left (listW VotW l))) := by
  refine CV_intro tyOk Try.func14 (by kernel_rfl) rfl 27 rfl (by simp) [.tmp 4] rfl ?_
  intro w0 ok0
  have hl : (l.map votA).length = l.length := by simp
  obtain ⟨hn, hall⟩ := hx
  have hw0 : IntKind.wrap .i64 (left - ((l.map votA).length : Int)) = left - (l.length : Int) := by rw [wrap_i64 (by omega) (by omega)]; omega
  by_cases g : left - (l.length : Int) < 0
  · have d : decide (left - (l.length : Int) < 0) = true := decide_eq_true g
    have f : szAfter left (listW VotW l : Nat) = -1 := szAfter_neg (by unfold listW; omega)
    rw [f]
    repeat' (first | refine T_seq ?_ | refine N_then ?_ | refine N_thenR ?_ | refine T_regX tyOk ?_ | refine S_nil ?_ | refine T_ret ?_ | (apply E_tmp; (· exact rfl); (· (repeat' (first | exact pure_int _ _ | exact pure_bool _ | exact pure_str _); done))) | (apply T_ifT; (· exact rfl); (· (first | assumption | exact rfl))) | apply S_move | apply S_assign | apply S_lss | apply S_sub | (apply S_len_ls; (· exact rfl); (· exact gt_any rfl)) | exact gt_any rfl | assumption | exact rfl | fail)
  have d : decide (left - (l.length : Int) < 0) = false := decide_eq_false g
  repeat' (first | refine T_seq ?_ | refine N_then ?_ | refine T_regX tyOk ?_ | refine S_nil ?_ | refine T_skip ?_ | refine T_block ?_ | (apply T_ifF; (· exact rfl); (· (first | assumption | exact rfl))) | apply S_move | apply S_assign | apply S_lss | apply S_sub | (apply S_len_ls; (· exact rfl); (· exact gt_any rfl)) | exact gt_any rfl | assumption | exact rfl | fail)
  refine T_roundsS (α := Nat) (fun k => ⟨[(0, votAS l), (1, .int .i64 (left - (l.length : Int) - (sumW VotW (l.take k) : Int))), (5, .int .i64 k)], [], 0⟩)
    (fun k => l.length - k) (fun k => k ≤ l.length ∧ 0 ≤ left - (l.length : Int) - (sumW VotW (l.take k) : Int)) 0 ?_ ⟨by omega, by simp [sumW]; omega⟩ ?_
  · have e : left - (l.length : Int) - (sumW VotW (l.take 0) : Int) = left - (l.length : Int) := by simp [sumW]
    rw [e]
    exact ((weak_of (by repeat' (first | exact keepE_nil | refine keepE_cons rfl ?_)) (by repeat' (first | exact keepB_nil | refine keepB_cons (by first | rfl | exact congrArg (fun l => some (Box.mk l _ _ _)) hset) ?_)) (Nat.le_refl _))).sub
  rintro k ⟨hk, hI⟩
  by_cases hkl : k < l.length
  · have hc : decide ((k : Int) < ((l.map votA).length : Int)) = true := by simp only [decide_eq_true_eq]; omega
    have hget := map_getD votA l Vot0 (k := k) (by omega)
    have hkw : IntKind.wrap .i64 ((k : Int) + 1) = ((k + 1 : Nat) : Int) := by rw [wrap_i64 (by omega) (by omega)]; omega
    have hs := sumW_take VotW l Vot0 hkl
    have hr := hall _ (getD_mem l Vot0 hkl)
    have hle := sumW_le VotW l (k + 1)
    generalize l.getD k Vot0 = x at *
    have c0 := szVote_cv x (left - (l.length : Int) - (sumW VotW (l.take k) : Int)) hr (by omega) (by omega)
    by_cases g2 : left - (l.length : Int) - (sumW VotW (l.take k) : Int) - ((VotW x : Nat) : Int) < 0
    · rw [szAfter_neg g2] at c0
      have d2 : decide ((-1 : Int) < 0) = true := rfl
      have f : szAfter left (listW VotW l : Nat) = -1 := szAfter_neg (by unfold listW; omega)
      rw [f]
      repeat' (first | refine T_seq ?_ | refine N_then ?_ | refine N_thenR ?_ | refine N_blockR ?_ | refine N_againSR ?_ | refine T_regX tyOk ?_ | refine S_nil ?_ | refine T_skip ?_ | refine T_ret ?_ | refine T_block ?_ | (apply E_tmp; (· exact rfl); (· (repeat' (first | exact pure_int _ _ | exact pure_bool _ | exact pure_str _); done))) | (apply T_ifT; (· exact rfl); (· (first | assumption | exact rfl))) | apply S_move | apply S_assign | (apply S_loadVA; (· exact rfl); (· exact gt_any rfl); (· exact rfl); (· exact rfl)) | apply S_lss | (apply S_len_ls; (· exact rfl); (· exact gt_any rfl)) | (apply S_idxLs; (· exact rfl); (· exact rfl); (· exact gt_any rfl); (· exact gt_any rfl)) | apply S_callQ (f := 36) | apply c0 | exact viewL_nil | apply viewL_cons | (apply View.pure; exact PureC.out) | exact FlatC.out | exact gt_any rfl | exact gts_nil | (apply gts_cons; (· exact gt_any rfl)) | assumption | (refine ⟨?_, ?_⟩ <;> omega) | exact rfl | fail)
    · rw [szAfter_pos g2] at c0
      have d2 : decide (left - (l.length : Int) - (sumW VotW (l.take k) : Int) - ((VotW x : Nat) : Int) < 0) = false := decide_eq_false g2
      have e : left - (l.length : Int) - (sumW VotW (l.take k) : Int) - ((VotW x : Nat) : Int) = left - (l.length : Int) - (sumW VotW (l.take (k + 1)) : Int) := by omega
      rw [e] at c0 d2
      repeat' (first | refine T_seq ?_ | refine N_then ?_ | refine N_block ?_ | refine T_regX tyOk ?_ | refine S_nil ?_ | refine T_skip ?_ | refine T_block ?_ | (apply T_ifT; (· exact rfl); (· (first | assumption | exact rfl))) | (apply T_ifF; (· exact rfl); (· (first | assumption | exact rfl))) | apply S_move | apply S_assign | (apply S_loadVA; (· exact rfl); (· exact gt_any rfl); (· exact rfl); (· exact rfl)) | apply S_lss | apply S_add | (apply S_len_ls; (· exact rfl); (· exact gt_any rfl)) | (apply S_idxLs; (· exact rfl); (· exact rfl); (· exact gt_any rfl); (· exact gt_any rfl)) | apply S_callQ (f := 36) | apply c0 | exact viewL_nil | apply viewL_cons | (apply View.pure; exact PureC.out) | exact FlatC.out | exact gt_any rfl | exact gts_nil | (apply gts_cons; (· exact gt_any rfl)) | assumption | (refine ⟨?_, ?_⟩ <;> omega) | exact rfl | fail)
      exact N_againS (k + 1) ((weak_of (by repeat' (first | exact keepE_nil | refine keepE_cons rfl ?_)) (by repeat' (first | exact keepB_nil | refine keepB_cons (by first | rfl | exact congrArg (fun l => some (Box.mk l _ _ _)) hset) ?_)) (Nat.le_refl _))).sub ⟨by omega, by omega⟩ (by omega)
  · have hc : decide ((k : Int) < ((l.map votA).length : Int)) = false := by simp only [decide_eq_false_iff_not]; omega
    obtain rfl : k = l.length := by omega
    rw [List.take_length] at hI ⊢
    have f : szAfter left (listW VotW l : Nat) = left - (l.length : Int) - (sumW VotW l : Int) := by rw [szAfter_pos (by unfold listW; omega)]; unfold listW; omega
    rw [f]
    repeat' (first | refine T_seq ?_ | refine N_then ?_ | refine N_thenE ?_ | refine N_blockE ?_ | refine N_againSE ?_ | refine T_regX tyOk ?_ | refine S_nil ?_ | refine T_ret ?_ | refine T_exit ?_ | (apply E_tmp; (· exact rfl); (· (repeat' (first | exact pure_int _ _ | exact pure_bool _ | exact pure_str _); done))) | (apply T_ifF; (· exact rfl); (· (first | assumption | exact rfl))) | apply S_move | apply S_assign | apply S_lss | (apply S_len_ls; (· exact rfl); (· exact gt_any rfl)) | exact gt_any rfl | exact rfl | fail)

theorem toVoteS_cv (l : List Vot) (h : listW VotW l ≤ 1048576) : CV Try.prog 24 [votAS l] (· = votAS l) := by
  refine CV_intro tyOk Try.func24 (by kernel_rfl) rfl 23 rfl (by simp) [.tmp 2] rfl ?_
  intro w0 ok0
  have hl : (l.map votA).length = l.length := by simp
  have hll : l.length ≤ 1048576 := by unfold listW at h; omega
  repeat' (first | refine T_seq ?_ | refine N_then ?_ | refine T_regX tyOk ?_ | refine S_nil ?_ | refine T_block ?_ | apply S_move | apply S_assign | (apply S_len_ls; (· exact rfl); (· exact gt_any rfl)) | (apply S_make; (· exact rfl); (· exact rfl); (· exact gt_any rfl); (· exact gt_any rfl); (· exact rfl); (· (first | assumption | omega)); (· (first | assumption | omega | (dsimp only; omega) | (simp; omega))); (· (first | assumption | omega | (dsimp only; omega) | (simp; omega))); (· (first | assumption | omega | (dsimp only; omega) | (simp; omega))); (· (first | exact okCells_of rfl rfl | assumption)); (· (first | exact Nat.le_of_ble_eq_true rfl | omega | decide))) | exact gt_any rfl | exact rfl | fail)
  refine T_roundsS (α := Nat) (fun k => ⟨[(0, votAS l), (3, .sl 0 0 (l.map votA).length (l.map votA).length), (4, .int .i64 k)], [(0, some ⟨(l.map votA).take k ++ List.replicate ((l.map votA).length - k) (AV.agg [.int .i64 0, .int .i64 0, .ls 0 true true [], .int .i64 0, .int .i64 0, .ls 0 true true []]), 6, false, false⟩)], 1⟩)
    (fun k => (l.map votA).length - k) (fun k => k ≤ (l.map votA).length) 0 ((weak_of (by repeat' (first | exact keepE_nil | refine keepE_cons rfl ?_)) (by repeat' (first | exact keepB_nil | refine keepB_cons (by first | rfl | exact congrArg (fun l => some (Box.mk l _ _ _)) hset) ?_)) (Nat.le_refl _))).sub (by omega) ?_
  intro k hk
  by_cases hkl : k < (l.map votA).length
  · have hc : decide ((k : Int) < ((l.map votA).length : Int)) = true := by simp only [decide_eq_true_eq]; omega
    have hget := map_getD votA l Vot0 (k := k) (by omega)
    have hat := map_at votA l Vot0 (k := k) (by omega)
    have hset := copy_step (l.map votA) (AV.agg [.int .i64 0, .int .i64 0, .ls 0 true true [], .int .i64 0, .int .i64 0, .ls 0 true true []]) hkl hat
    have hin : 0 + ((k : Int)).toNat < ((l.map votA).take k ++ List.replicate ((l.map votA).length - k) (AV.agg [.int .i64 0, .int .i64 0, .ls 0 true true [], .int .i64 0, .int .i64 0, .ls 0 true true []])).length := by
      simp only [List.length_append, List.length_take, List.length_replicate]; omega
    have hkw : IntKind.wrap .i64 ((k : Int) + 1) = ((k + 1 : Nat) : Int) := by rw [wrap_i64 (by omega) (by omega)]; omega
    have hle := listW_mem VotW l (getD_mem l Vot0 (by omega : k < l.length))
    have okk : okCells 6 (votA (l.getD k Vot0)) := okCells_of rfl rfl
    have c0 := toVote_cv (l.getD k Vot0) (by omega)
    repeat' (first | refine T_seq ?_ | refine N_then ?_ | refine N_block ?_ | refine T_regX tyOk ?_ | refine S_nil ?_ | refine T_skip ?_ | refine T_block ?_ | (apply T_ifT; (· exact rfl); (· (first | assumption | exact rfl))) | apply S_move | apply S_assign | (apply S_loadVA; (· exact rfl); (· exact gt_any rfl); (· exact rfl); (· exact rfl)) | apply S_lss | apply S_add | (apply S_len_ls; (· exact rfl); (· exact gt_any rfl)) | (apply S_idxLs; (· exact rfl); (· exact rfl); (· exact gt_any rfl); (· exact gt_any rfl)) | (apply S_idxSl; (· exact rfl); (· exact rfl); (· exact gt_any rfl); (· exact rfl); (· exact gt_any rfl)) | (apply S_storeE; (· exact rfl); (· exact gt_any rfl); (· exact rfl); (· exact rfl); (· exact rfl)) | apply S_call (f := 46) | apply c0 | exact PureLC.out | exact gt_any rfl | exact gts_nil | (apply gts_cons; (· exact gt_any rfl)) | exact okCells_of rfl rfl | assumption | (refine ⟨?_, ?_⟩ <;> omega) | exact rfl | fail)
    exact N_againS (k + 1) ((weak_of (by repeat' (first | exact keepE_nil | refine keepE_cons rfl ?_)) (by repeat' (first | exact keepB_nil | refine keepB_cons (by first | rfl | exact congrArg (fun l => some (Box.mk l _ _ _)) hset) ?_)) (Nat.le_refl _))).sub (by omega) (by omega)
  · have hc : decide ((k : Int) < ((l.map votA).length : Int)) = false := by simp only [decide_eq_false_iff_not]; omega
    obtain rfl : k = (l.map votA).length := by omega
    have he : (l.map votA).take (l.map votA).length ++ List.replicate ((l.map votA).length - (l.map votA).length) (AV.agg [.int .i64 0, .int .i64 0, .ls 0 true true [], .int .i64 0, .int .i64 0, .ls 0 true true []]) = l.map votA := by
      rw [Nat.sub_self, List.replicate_zero, List.append_nil, List.take_length]
    repeat' (first | refine T_seq ?_ | refine N_then ?_ | refine N_thenE ?_ | refine N_blockE ?_ | refine N_againSE ?_ | refine T_regX tyOk ?_ | refine S_nil ?_ | refine T_ret ?_ | refine T_exit ?_ | (apply T_ifF; (· exact rfl); (· (first | assumption | exact rfl))) | apply S_move | apply S_assign | apply S_lss | (apply S_len_ls; (· exact rfl); (· exact gt_any rfl)) | exact gt_any rfl | exact rfl | fail)
    rw [he]
    (apply E_X <;> repeat' (first | exact resL_nil | (apply resL_tmp; (· exact rfl)) | (apply resL_cell; (· exact rfl); (· exact rfl); (· exact rfl); (· exact rfl); (· exact rfl); (· exact rfl)) | (apply resL_arr; (· exact rfl); (· exact rfl); (· exact rfl); (· exact rfl); (· (first | assumption | exact rfl))) | exact viewL_nil | apply viewL_cons | apply view_nothingE | (apply view_slE; (· exact rfl); (· first | exact rfl | assumption | (simp [bA_length]; done) | (simp [bA_length]; omega) | omega); (· exact PureEC.out)) | (apply view_loose; (· exact PureEC.out)) | apply view_agg | apply view_tup | (apply View.ofEq; (· exact PureC.out)) | exact rfl))

theorem eqVoteS_cv (l : List Vot) (h : listW VotW l ≤ 1048576) : CV Try.prog 34 [votAS l, votAS l] (· = .bool true) := by
  refine CV_intro tyOk Try.func34 (by kernel_rfl) rfl 27 rfl (by simp) [.tmp 4] rfl ?_
  intro w0 ok0
  have hl : (l.map votA).length = l.length := by simp
  have hll : l.length ≤ 1048576 := by unfold listW at h; omega
  have hc0 : (!decide (((l.map votA).length : Int) = ((l.map votA).length : Int))) = false := by simp
  repeat' (first | refine T_seq ?_ | refine N_then ?_ | refine T_regX tyOk ?_ | refine S_nil ?_ | refine T_skip ?_ | refine T_block ?_ | (apply T_ifF; (· exact rfl); (· (first | assumption | exact rfl))) | apply S_move | apply S_assign | (apply S_neq; (· exact gt_any rfl); (· exact gt_any rfl)) | (apply S_len_ls; (· exact rfl); (· exact gt_any rfl)) | exact gt_any rfl | exact rfl | fail)
  refine T_roundsS (α := Nat) (fun k => ⟨[(0, votAS l), (1, votAS l), (5, .int .i64 k)], [], 0⟩)
    (fun k => l.length - k) (fun k => k ≤ l.length) 0 ((weak_of (by repeat' (first | exact keepE_nil | refine keepE_cons rfl ?_)) (by repeat' (first | exact keepB_nil | refine keepB_cons (by first | rfl | exact congrArg (fun l => some (Box.mk l _ _ _)) hset) ?_)) (Nat.le_refl _))).sub (by omega) ?_
  intro k hk
  by_cases hkl : k < l.length
  · have hc : decide ((k : Int) < ((l.map votA).length : Int)) = true := by simp only [decide_eq_true_eq]; omega
    have hget := map_getD votA l Vot0 (k := k) (by omega)
    have hkw : IntKind.wrap .i64 ((k : Int) + 1) = ((k + 1 : Nat) : Int) := by rw [wrap_i64 (by omega) (by omega)]; omega
    have hle := listW_mem VotW l (getD_mem l Vot0 hkl)
    have c0 := eqVote_cv (l.getD k Vot0) (by omega)
    repeat' (first | refine T_seq ?_ | refine N_then ?_ | refine N_block ?_ | refine T_regX tyOk ?_ | (apply T_drawM (id := 6) 8 tyOk mixed; (· exact rfl); (· exact rfl); (· kernel_rfl); (· exact Nat.le_of_ble_eq_true rfl)) | refine S_nil ?_ | refine T_skip ?_ | refine T_block ?_ | (apply T_ifT; (· exact rfl); (· (first | assumption | exact rfl))) | (apply T_ifF; (· exact rfl); (· (first | assumption | exact rfl))) | apply S_move | apply S_assign | (apply S_loadVA; (· exact rfl); (· exact gt_any rfl); (· exact rfl); (· exact rfl)) | apply S_lss | apply S_add | apply S_not | (apply S_len_ls; (· exact rfl); (· exact gt_any rfl)) | (apply S_idxLs; (· exact rfl); (· exact rfl); (· exact gt_any rfl); (· exact gt_any rfl)) | apply S_callQ (f := 58) | apply c0 | exact viewL_nil | apply viewL_cons | (apply View.pure; exact PureC.out) | exact FlatC.out | exact gt_any rfl | exact gts_nil | (apply gts_cons; (· exact gt_any rfl)) | assumption | (refine ⟨?_, ?_⟩ <;> omega) | exact rfl | fail)
    exact N_againS (k + 1) ((weak_of (by repeat' (first | exact keepE_nil | refine keepE_cons rfl ?_)) (by repeat' (first | exact keepB_nil | refine keepB_cons (by first | rfl | exact congrArg (fun l => some (Box.mk l _ _ _)) hset) ?_)) (Nat.le_refl _))).sub (by omega) (by omega)
  · have hc : decide ((k : Int) < ((l.map votA).length : Int)) = false := by simp only [decide_eq_false_iff_not]; omega
    repeat' (first | refine T_seq ?_ | refine N_then ?_ | refine N_thenE ?_ | refine N_blockE ?_ | refine N_againSE ?_ | refine T_regX tyOk ?_ | refine S_nil ?_ | refine T_ret ?_ | refine T_exit ?_ | (apply E_tmp; (· exact rfl); (· (repeat' (first | exact pure_int _ _ | exact pure_bool _ | exact pure_str _); done))) | (apply T_ifF; (· exact rfl); (· (first | assumption | exact rfl))) | apply S_move | apply S_assign | apply S_lss | (apply S_len_ls; (· exact rfl); (· exact gt_any rfl)) | exact gt_any rfl | exact rfl | fail)

structure Sgd where
  head : HdB
  votes : List Vot
  deriving DecidableEq

abbrev Sgd0 : Sgd := ⟨⟨0, 0, [], [], []⟩, []⟩

abbrev sgdA (x : Sgd) : AV := .agg [.int .i64 x.head.height, .int .i64 x.head.time, byA x.head.root, byA x.head.set, byA x.head.next, votAS x.votes]

abbrev sgdAC (x : Sgd) : List AV := [.int .i64 x.head.height, .int .i64 x.head.time, byA x.head.root, byA x.head.set, byA x.head.next, votAS x.votes]

instance : ElemF sgdA := ⟨fun a y hy => by
  have h := (inferInstance : CellsC (sgdAC a)).out y hy
  exact h⟩

abbrev sgdAS (l : List Sgd) : AV := .ls 6 true false (l.map sgdA)

def SgdW (x : Sgd) : Nat := HdBW x.head + listW VotW x.votes

def SgdR (x : Sgd) : Prop := HdBR x.head ∧ listR VotR x.votes

theorem szSigned_cv (x : Sgd) (left : Int) (hx : SgdR x) (h0 : 0 ≤ left) (h1 : left ≤ 9223372036854775807) :
    CV Try.prog 5 [sgdA x, .int .i64 left] (· = .int .i64 (szAfter left (SgdW x))) := by
  refine CV_intro tyOk Try.func5 (by kernel_rfl) rfl 18 rfl (by simp) [.tmp 4] rfl ?_
  intro w0 ok0
  obtain ⟨hx0, hx1⟩ := hx
  have c0 := szHeadB_cv x.head (left) hx0 (by omega) (by omega)
  by_cases g0 : left - (HdBW x.head : Nat) < 0
  · have e0 : szAfter (left) (HdBW x.head : Nat) = -1 := szAfter_neg g0
    rw [e0] at c0
    have f : szAfter left (SgdW x : Nat) = -1 := szAfter_neg (by unfold SgdW; omega)
    rw [f]
    have d : decide ((-1 : Int) < 0) = true := rfl
    repeat' (first | refine T_seq ?_ | refine N_then ?_ | refine N_thenR ?_ | refine T_regX tyOk ?_ | refine S_nil ?_ | refine T_ret ?_ | (apply E_tmp; (· exact rfl); (· (repeat' (first | exact pure_int _ _ | exact pure_bool _ | exact pure_str _); done))) | (apply T_ifT; (· exact rfl); (· (first | assumption | exact rfl))) | apply S_move | apply S_assign | (apply M_loadA; (· exact rfl); (· exact rfl); (· exact gt_any rfl); (· exact rfl); (· exact rfl); (· (repeat' constructor))) | (apply S_fieldP; (· exact rfl); (· exact rfl); (· exact rfl); (· exact rfl); (· exact gt_any rfl)) | apply S_lss | apply S_box | apply S_callQ (f := 13) | apply c0 | exact viewL_nil | apply viewL_cons | (apply View.pure; exact PureC.out) | exact FlatC.out | exact gt_any rfl | exact gts_nil | (apply gts_cons; (· exact gt_any rfl)) | exact okCells_of rfl rfl | assumption | exact rfl | fail)
  have e0 : szAfter (left) (HdBW x.head : Nat) = left - (HdBW x.head : Nat) := by rw [szAfter_pos g0]; try omega
  rw [e0] at c0
  have d0 : decide (left - ((HdBW x.head : Nat) : Int) < 0) = false := decide_eq_false (by omega)
  have c1 := szVoteS_cv x.votes (left - (HdBW x.head : Nat)) hx1 (by omega) (by omega)
  by_cases g1 : left - (HdBW x.head : Nat) - (listW VotW x.votes : Nat) < 0
  · have e1 : szAfter (left - (HdBW x.head : Nat)) (listW VotW x.votes : Nat) = -1 := szAfter_neg g1
    rw [e1] at c1
    have f : szAfter left (SgdW x : Nat) = -1 := szAfter_neg (by unfold SgdW; omega)
    rw [f]
    have d : decide ((-1 : Int) < 0) = true := rfl
    repeat' (first | refine T_seq ?_ | refine N_then ?_ | refine N_thenR ?_ | refine T_regX tyOk ?_ | refine S_nil ?_ | refine T_skip ?_ | refine T_ret ?_ | (apply E_tmp; (· exact rfl); (· (repeat' (first | exact pure_int _ _ | exact pure_bool _ | exact pure_str _); done))) | (apply T_ifT; (· exact rfl); (· (first | assumption | exact rfl))) | (apply T_ifF; (· exact rfl); (· (first | assumption | exact rfl))) | apply S_move | apply S_assign | (apply S_loadP; (· exact rfl); (· exact gt_any rfl); (· exact rfl); (· exact rfl); (· exact rfl); (· (first | exact ⟨rfl, rfl⟩ | exact ⟨rfl, trivial⟩ | assumption))) | (apply M_loadA; (· exact rfl); (· exact rfl); (· exact gt_any rfl); (· exact rfl); (· exact rfl); (· (repeat' constructor))) | (apply S_fieldP; (· exact rfl); (· exact rfl); (· exact rfl); (· exact rfl); (· exact gt_any rfl)) | apply S_lss | apply S_box | apply S_callQ (f := 13) | apply c0 | apply S_callQ (f := 14) | apply c1 | exact viewL_nil | apply viewL_cons | (apply View.pure; exact PureC.out) | exact FlatC.out | exact gt_any rfl | exact gts_nil | (apply gts_cons; (· exact gt_any rfl)) | exact okCells_of rfl rfl | assumption | exact rfl | fail)
  have e1 : szAfter (left - (HdBW x.head : Nat)) (listW VotW x.votes : Nat) = left - (HdBW x.head + listW VotW x.votes : Nat) := by rw [szAfter_pos g1]; try omega
  rw [e1] at c1
  have d1 : decide (left - ((HdBW x.head + listW VotW x.votes : Nat) : Int) < 0) = false := decide_eq_false (by omega)
  have f : szAfter left (SgdW x : Nat) = left - (HdBW x.head + listW VotW x.votes : Nat) := szAfter_pos (by unfold SgdW; omega)
  rw [f]
  repeat' (first | refine T_seq ?_ | refine N_then ?_ | refine T_regX tyOk ?_ | refine S_nil ?_ | refine T_skip ?_ | refine T_ret ?_ | (apply E_tmp; (· exact rfl); (· (repeat' (first | exact pure_int _ _ | exact pure_bool _ | exact pure_str _); done))) | (apply T_ifF; (· exact rfl); (· (first | assumption | exact rfl))) | apply S_move | apply S_assign | (apply S_loadP; (· exact rfl); (· exact gt_any rfl); (· exact rfl); (· exact rfl); (· exact rfl); (· (first | exact ⟨rfl, rfl⟩ | exact ⟨rfl, trivial⟩ | assumption))) | (apply M_loadA; (· exact rfl); (· exact rfl); (· exact gt_any rfl); (· exact rfl); (· exact rfl); (· (repeat' constructor))) | (apply S_fieldP; (· exact rfl); (· exact rfl); (· exact rfl); (· exact rfl); (· exact gt_any rfl)) | apply S_lss | apply S_box | apply S_callQ (f := 13) | apply c0 | apply S_callQ (f := 14) | apply c1 | exact viewL_nil | apply viewL_cons | (apply View.pure; exact PureC.out) | exact FlatC.out | exact gt_any rfl | exact gts_nil | (apply gts_cons; (· exact gt_any rfl)) | exact okCells_of rfl rfl | exact rfl | fail)

theorem toSigned_cv (x : Sgd) (h : SgdW x ≤ 1048576) : CV Try.prog 8 [sgdA x] (· = sgdA x) := by
  refine CV_intro tyOk Try.func8 (by kernel_rfl) rfl 13 rfl (by simp) [.cell 2 37] rfl ?_
  intro w0 ok0
  unfold SgdW at h
  have c0 := toHeadB_cv x.head (by omega)
  have c1 := toVoteS_cv x.votes (by omega)
  repeat' (first | refine T_seq ?_ | refine N_then ?_ | refine T_regX tyOk ?_ | refine S_nil ?_ | refine T_ret ?_ | (apply E_X <;> repeat' (first | exact resL_nil | (apply resL_tmp; (· exact rfl)) | (apply resL_cell; (· exact rfl); (· exact rfl); (· exact rfl); (· exact rfl); (· exact rfl); (· exact rfl)) | (apply resL_arr; (· exact rfl); (· exact rfl); (· exact rfl); (· exact rfl); (· (first | assumption | exact rfl))) | exact viewL_nil | apply viewL_cons | apply view_nothingE | (apply view_slE; (· exact rfl); (· first | exact rfl | assumption | (simp [bA_length]; done) | (simp [bA_length]; omega) | omega); (· exact PureEC.out)) | (apply view_loose; (· exact PureEC.out)) | apply view_agg | apply view_tup | (apply View.ofEq; (· exact PureC.out)) | exact rfl)) | (apply S_loadP; (· exact rfl); (· exact gt_any rfl); (· exact rfl); (· exact rfl); (· exact rfl); (· (first | exact ⟨rfl, rfl⟩ | exact ⟨rfl, trivial⟩ | assumption))) | (apply S_loadW; (· exact rfl); (· exact gt_any rfl); (· exact rfl); (· exact rfl); (· exact rfl); (· exact rfl); (· exact rfl); (· exact rfl)) | (apply M_loadA; (· exact rfl); (· exact rfl); (· exact gt_any rfl); (· exact rfl); (· exact rfl); (· (repeat' constructor))) | (apply S_fieldP; (· exact rfl); (· exact rfl); (· exact rfl); (· exact rfl); (· exact gt_any rfl)) | apply S_alloc | apply S_box | (apply S_store1; (· exact rfl); (· exact gt_any rfl); (· exact rfl); (· exact rfl); (· exact rfl); (· exact rfl)) | (apply S_storeF; (· exact rfl); (· exact gt_any rfl); (· exact rfl); (· exact rfl); (· exact rfl); (· exact rfl); (· exact gt_any rfl); (· exact rfl); (· exact rfl); (· (repeat' constructor))) | (apply S_storeG; (· exact rfl); (· exact gt_any rfl); (· exact rfl); (· exact rfl); (· exact rfl); (· exact gt_any rfl); (· (first | exact okCells_of rfl rfl | assumption)); (· (first | exact Nat.le_of_ble_eq_true rfl | omega | decide)); (· exact rfl)) | apply S_call (f := 23) | apply c0 | apply S_call (f := 24) | apply c1 | exact PureLC.out | exact gt_any rfl | exact gts_nil | (apply gts_cons; (· exact gt_any rfl)) | exact okCells_of rfl rfl | exact rfl | fail)

theorem eqSigned_cv (x : Sgd) (h : SgdW x ≤ 1048576) : CV Try.prog 11 [sgdA x, sgdA x] (· = .bool true) := by
  refine CV_intro tyOk Try.func11 (by kernel_rfl) rfl 17 rfl (by simp) [.tmp 4] rfl ?_
  intro w0 ok0
  unfold SgdW at h
  have c0 := eqHeadB_cv x.head (by omega)
  have c1 := eqVoteS_cv x.votes (by omega)
  repeat' (first | refine T_seq ?_ | refine N_then ?_ | refine T_regX tyOk ?_ | refine S_nil ?_ | refine T_skip ?_ | refine T_ret ?_ | (apply E_tmp; (· exact rfl); (· (repeat' (first | exact pure_int _ _ | exact pure_bool _ | exact pure_str _); done))) | (apply T_ifF; (· exact rfl); (· (first | assumption | exact rfl))) | apply S_assign | (apply S_loadP; (· exact rfl); (· exact gt_any rfl); (· exact rfl); (· exact rfl); (· exact rfl); (· (first | exact ⟨rfl, rfl⟩ | exact ⟨rfl, trivial⟩ | assumption))) | (apply M_loadA; (· exact rfl); (· exact rfl); (· exact gt_any rfl); (· exact rfl); (· exact rfl); (· (repeat' constructor))) | (apply S_fieldP; (· exact rfl); (· exact rfl); (· exact rfl); (· exact rfl); (· exact gt_any rfl)) | apply S_not | apply S_box | apply S_callQ (f := 33) | apply c0 | apply S_callQ (f := 34) | apply c1 | exact viewL_nil | apply viewL_cons | (apply View.pure; exact PureC.out) | exact FlatC.out | exact gt_any rfl | exact gts_nil | (apply gts_cons; (· exact gt_any rfl)) | exact okCells_of rfl rfl | exact rfl | fail)

theorem elemSigned {x : AV} {ei : TI} {n : Nat} (hk : isAggK ei.k = true) (h : TyN ty (n + 4) 28 x.cells ∧ x = (if isAggK ei.k then .agg x.cells else x.cells.getD 0 .undef)) : ∃ a : Sgd, x = sgdA a ∧ SgdR a := by
  obtain ⟨⟨ls, h1, h2, h3⟩, h4⟩ := h
  have hl : leafs ty 8 28 = some [2, 2, 23, 23, 23, 26] := rfl
  rw [hl] at h1
  obtain rfl := Option.some.inj h1
  rw [if_pos hk] at h4
  generalize x.cells = cs at h2 h3 h4
  subst h4
  match cs, h2 with
  | [a0, a1, a2, a3, a4, a5], _ =>
    obtain ⟨i0, rfl, _⟩ := h3 0 _ _ rfl rfl
    obtain ⟨i1, rfl, _⟩ := h3 1 _ _ rfl rfl
    obtain ⟨e2, xs2, u2, rfl, v2, w2⟩ := h3 2 _ _ rfl rfl
    obtain rfl := Option.some.inj u2
    obtain ⟨q2, rfl⟩ := bytes_of rfl rfl rfl xs2 w2
    rw [bA_length] at v2
    obtain ⟨e3, xs3, u3, rfl, v3, w3⟩ := h3 3 _ _ rfl rfl
    obtain rfl := Option.some.inj u3
    obtain ⟨q3, rfl⟩ := bytes_of rfl rfl rfl xs3 w3
    rw [bA_length] at v3
    obtain ⟨e4, xs4, u4, rfl, v4, w4⟩ := h3 4 _ _ rfl rfl
    obtain rfl := Option.some.inj u4
    obtain ⟨q4, rfl⟩ := bytes_of rfl rfl rfl xs4 w4
    rw [bA_length] at v4
    obtain ⟨e5, xs5, u5, rfl, v5, w5⟩ := h3 5 _ _ rfl rfl
    obtain rfl := Option.some.inj u5
    obtain ⟨q5, rfl, z5⟩ := list_ofP votA (fun x hx => elemVote rfl hx) xs5 w5
    rw [List.length_map] at v5
    exact ⟨⟨⟨i0, i1, q2, q3, q4⟩, q5⟩, rfl, ⟨⟨v2, v3, v4⟩, ⟨v5, z5⟩⟩⟩

theorem isSigned {x : AV} (h : TyV ty 28 x) : ∃ a : Sgd, x = sgdA a ∧ SgdR a := by
  have h3 := h.2.2.1 ⟨_, rfl, rfl⟩
  have hk : ∃ ei, ty 28 = some ei ∧ isAggK ei.k = true := ⟨_, rfl, rfl⟩
  obtain ⟨ei, _, hk⟩ := hk
  exact elemSigned (n := 0) hk ⟨h.1, by rw [if_pos hk]; exact h3⟩

end Go.Proofs.Ytoempiaimebncaa
