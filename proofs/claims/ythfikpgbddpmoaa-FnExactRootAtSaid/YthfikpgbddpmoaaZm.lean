/- Events checked against a trust. -/
import Derived.Test.YthfikpgbddpmoaaZl
import Derived.Test.YthfikpgbddpmoaaRb
set_option maxRecDepth 100000
set_option maxHeartbeats 3200000
set_option linter.unusedSimpArgs false
set_option linter.unusedVariables false
namespace Go.Proofs.Ythfikpgbddpmoaa
open Go.Av
attribute [local irreducible] T thenQ blockQ againQ againS WX retV retR Gt Gts GtsP okCells CV CR Av.Pure
attribute [local irreducible] sha putN setW packL setD

theorem tru_zero {t : Tru} (h : truFault t = 0) : (1 ≤ t.head.height ∧ t.head.height ≤ 1000000) ∧ 1 ≤ t.frm ∧ t.frm + t.roots.length - 1 = t.head.height ∧ 1 ≤ t.roots.length ∧ t.roots.length ≤ 24 ∧ t.roots.any badRoot = false := by
  unfold truFault at h
  split at h
  · rename_i a; exact absurd h a
  · rename_i a
    split at h
    · rename_i b; exact absurd h b
    · split at h
      · cases h
      · split at h
        · cases h
        · split at h
          · cases h
          · rename_i b
            split at h
            · rename_i c
              obtain ⟨c1, c2, c3, _, c5⟩ := c
              obtain ⟨_, hh, _⟩ := hb_zero (Classical.not_not.1 a)
              exact ⟨hh, c2, c3, by omega, by omega, c5⟩
            · cases h

def rootAtL (t : Tru) (h : Int) : List UInt8 := if t.frm ≤ h ∧ h ≤ t.head.height then t.roots.getD (h - t.frm).toNat [] else []
theorem good_roots {ws : List (List UInt8)} (h : ws.any badRoot = false) (k : Nat) : (ws.getD k []).length ≤ 32 := by
  by_cases hk : k < ws.length
  · have := List.any_eq_false.1 h _ (getD_mem ws [] hk)
    unfold badRoot at this
    generalize ws.getD k [] = q at *
    by_cases h1 : q.length = 32
    · omega
    · rw [decide_eq_false h1] at this
      simp at this
      simp [this]
  · rw [List.getD_eq_getElem?_getD, List.getElem?_eq_none (by omega)]; simp
theorem rootAtL_le {t : Tru} (h : truFault t = 0) (n : Int) : (rootAtL t n).length ≤ 32 := by
  unfold rootAtL
  split
  · exact good_roots (tru_zero h).2.2.2.2.2 _
  · simp

theorem rootAt_cv (t : Tru) (n : Int) (h : truFault t = 0) : CV Try.prog 149 [truA t, .int .i64 n] (· = .tup [sl1 (bA (rootAtL t n)), .bool (decide (0 < (rootAtL t n).length))]) := by
  refine CV_intro tyOk Try.func149 (by kernel_rfl) rfl 27 rfl (by simp) [.tmp 4, .tmp 5] rfl ?_
  intro w0 ok0
  obtain ⟨h1, h2, h3, h4, h5, _⟩ := tru_zero h
  have hml : (t.roots.map byA).length = t.roots.length := by simp
  by_cases g : t.frm ≤ n ∧ n ≤ t.head.height
  · have d0 := rng_t g
    have hR : rootAtL t n = t.roots.getD (n - t.frm).toNat [] := if_pos g
    rw [hR]
    have w1 : IntKind.wrap .i64 (n - t.frm) = (((n - t.frm).toNat : Nat) : Int) := by rw [wrap_i64 (by omega) (by omega)]; omega
    have hget := map_getD byA t.roots [] (k := (n - t.frm).toNat) (by omega)
    have hlt : (n - t.frm).toNat < t.roots.length := by omega
    have hbl := bA_length (t.roots.getD (n - t.frm).toNat [])
    have e : decide (0 < (t.roots.getD (n - t.frm).toNat []).length) = decide ((0 : Int) < ((bA (t.roots.getD (n - t.frm).toNat [])).length : Int)) := by
      by_cases k : 0 < (t.roots.getD (n - t.frm).toNat []).length
      · rw [decide_eq_true k, decide_eq_true (by omega)]
      · rw [decide_eq_false k, decide_eq_false (by omega)]
    rw [e]
    generalize t.roots.getD (n - t.frm).toNat [] = q at *
    generalize (n - t.frm).toNat = j at *
    repeat' (first | refine T_seq ?_ | refine N_then ?_ | refine T_regX tyOk ?_ | refine S_nil ?_ | refine T_skip ?_ | refine T_ret ?_ | (apply E_X <;> repeat' (first | exact resL_nil | (apply resL_tmp; (· exact rfl)) | (apply resL_cell; (· exact rfl); (· exact rfl); (· exact rfl); (· exact rfl); (· exact rfl); (· exact rfl)) | (apply resL_arr; (· exact rfl); (· exact rfl); (· exact rfl); (· exact rfl); (· (first | assumption | exact rfl))) | exact viewL_nil | apply viewL_cons | apply view_nothingE | (apply view_slE; (· exact rfl); (· first | exact rfl | assumption | (simp [bA_length]; done) | (simp [bA_length]; omega) | omega); (· exact PureEC.out)) | (apply view_loose; (· exact PureEC.out)) | apply view_agg | apply view_tup | (apply View.ofEq; (· exact PureC.out)) | exact rfl)) | (apply T_ifF; (· exact rfl); (· (first | assumption | exact rfl))) | apply S_move | apply S_assign | (apply S_loadP; (· exact rfl); (· exact gt_any rfl); (· exact rfl); (· exact rfl); (· exact rfl); (· (first | exact ⟨rfl, rfl⟩ | exact ⟨rfl, trivial⟩ | assumption))) | (apply S_loadV; (· exact rfl); (· exact gt_any rfl); (· exact rfl); (· (first | exact ⟨rfl, rfl⟩ | exact ⟨rfl, trivial⟩ | assumption))) | (apply S_fieldP; (· exact rfl); (· exact rfl); (· exact rfl); (· exact rfl); (· exact gt_any rfl)) | apply S_gtr | apply S_sub | apply S_not | (apply S_len_ls; (· exact rfl); (· exact gt_any rfl)) | apply S_box | (apply S_idxLs; (· exact rfl); (· exact rfl); (· exact gt_any rfl); (· exact gt_any rfl)) | apply S_callQ (f := 86) | apply in_cv | exact viewL_nil | apply viewL_cons | (apply View.pure; exact PureC.out) | exact FlatC.out | exact gt_any rfl | exact gts_nil | (apply gts_cons; (· exact gt_any rfl)) | exact okCells_of rfl rfl | assumption | (refine ⟨?_, ?_⟩ <;> omega) | exact rfl | fail)
  · have d0 := rng_f g
    have hR : rootAtL t n = [] := if_neg g
    rw [hR]
    repeat' (first | refine T_seq ?_ | refine N_then ?_ | refine N_thenR ?_ | refine T_regX tyOk ?_ | refine S_nil ?_ | refine T_ret ?_ | (apply E_X <;> repeat' (first | exact resL_nil | (apply resL_tmp; (· exact rfl)) | (apply resL_cell; (· exact rfl); (· exact rfl); (· exact rfl); (· exact rfl); (· exact rfl); (· exact rfl)) | (apply resL_arr; (· exact rfl); (· exact rfl); (· exact rfl); (· exact rfl); (· (first | assumption | exact rfl))) | exact viewL_nil | apply viewL_cons | apply view_nothingE | (apply view_slE; (· exact rfl); (· first | exact rfl | assumption | (simp [bA_length]; done) | (simp [bA_length]; omega) | omega); (· exact PureEC.out)) | (apply view_loose; (· exact PureEC.out)) | apply view_agg | apply view_tup | (apply View.ofEq; (· exact PureC.out)) | exact rfl)) | (apply T_ifT; (· exact rfl); (· (first | assumption | exact rfl))) | apply S_move | apply S_assign | (apply S_loadP; (· exact rfl); (· exact gt_any rfl); (· exact rfl); (· exact rfl); (· exact rfl); (· (first | exact ⟨rfl, rfl⟩ | exact ⟨rfl, trivial⟩ | assumption))) | (apply S_fieldP; (· exact rfl); (· exact rfl); (· exact rfl); (· exact rfl); (· exact gt_any rfl)) | apply S_not | apply S_box | apply S_callQ (f := 86) | apply in_cv | exact viewL_nil | apply viewL_cons | (apply View.pure; exact PureC.out) | exact FlatC.out | exact gt_any rfl | exact gts_nil | (apply gts_cons; (· exact gt_any rfl)) | exact okCells_of rfl rfl | exact rfl | fail)

theorem l8Root_cv (t : Tru) (n : Int) (h : truFault t = 0) : CV Try.prog 148 [.vp (truA t).cells, .int .i64 n] (· = sl1 (bA (rootAtL t n))) := by
  refine CV_intro tyOk Try.func148 (by kernel_rfl) rfl 29 rfl (by simp) [.tmp 4] rfl ?_
  intro w0 ok0
  obtain ⟨h1, h2, h3, h4, h5, _⟩ := tru_zero h
  have hml : (t.roots.map byA).length = t.roots.length := by simp
  by_cases g : t.frm ≤ n ∧ n ≤ t.head.height
  · have d0 := rng_t g
    have hR : rootAtL t n = t.roots.getD (n - t.frm).toNat [] := if_pos g
    rw [hR]
    have w1 : IntKind.wrap .i64 (n - t.frm) = (((n - t.frm).toNat : Nat) : Int) := by rw [wrap_i64 (by omega) (by omega)]; omega
    have hget := map_getD byA t.roots [] (k := (n - t.frm).toNat) (by omega)
    have hlt : (n - t.frm).toNat < t.roots.length := by omega
    generalize t.roots.getD (n - t.frm).toNat [] = q at *
    generalize (n - t.frm).toNat = j at *
    repeat' (first | refine T_seq ?_ | refine N_then ?_ | refine T_regX tyOk ?_ | (apply T_drawM (id := 1) 10 tyOk mixed; (· exact rfl); (· exact rfl); (· kernel_rfl); (· exact Nat.le_of_ble_eq_true rfl)) | (apply T_drawAll tyOk mixed; (· kernel_rfl)) | refine S_nil ?_ | refine T_skip ?_ | refine T_ret ?_ | (apply E_X <;> repeat' (first | exact resL_nil | (apply resL_tmp; (· exact rfl)) | (apply resL_cell; (· exact rfl); (· exact rfl); (· exact rfl); (· exact rfl); (· exact rfl); (· exact rfl)) | (apply resL_arr; (· exact rfl); (· exact rfl); (· exact rfl); (· exact rfl); (· (first | assumption | exact rfl))) | exact viewL_nil | apply viewL_cons | apply view_nothingE | (apply view_slE; (· exact rfl); (· first | exact rfl | assumption | (simp [bA_length]; done) | (simp [bA_length]; omega) | omega); (· exact PureEC.out)) | (apply view_loose; (· exact PureEC.out)) | apply view_agg | apply view_tup | (apply View.ofEq; (· exact PureC.out)) | exact rfl)) | (apply T_ifF; (· exact rfl); (· (first | assumption | exact rfl))) | apply S_move | apply S_assign | (apply S_loadV; (· exact rfl); (· exact gt_any rfl); (· exact rfl); (· (first | exact ⟨rfl, rfl⟩ | exact ⟨rfl, trivial⟩ | assumption))) | (apply S_fieldV; (· exact rfl); (· exact rfl); (· exact rfl); (· exact rfl); (· exact gt_any rfl)) | apply S_sub | apply S_not | (apply S_idxLs; (· exact rfl); (· exact rfl); (· exact gt_any rfl); (· exact gt_any rfl)) | (apply S_nilV; (· exact gt_any rfl)) | apply S_callQ (f := 88) | apply l1In_cv | exact viewL_nil | apply viewL_cons | (apply View.pure; exact PureC.out) | exact FlatC.out | exact gt_any rfl | exact gts_nil | (apply gts_cons; (· exact gt_any rfl)) | assumption | (refine ⟨?_, ?_⟩ <;> omega) | exact rfl | fail)
  · have d0 := rng_f g
    have hR : rootAtL t n = [] := if_neg g
    rw [hR]
    repeat' (first | refine T_seq ?_ | refine N_then ?_ | refine N_thenR ?_ | refine T_regX tyOk ?_ | (apply T_drawM (id := 1) 10 tyOk mixed; (· exact rfl); (· exact rfl); (· kernel_rfl); (· exact Nat.le_of_ble_eq_true rfl)) | refine S_nil ?_ | refine T_ret ?_ | (apply E_X <;> repeat' (first | exact resL_nil | (apply resL_tmp; (· exact rfl)) | (apply resL_cell; (· exact rfl); (· exact rfl); (· exact rfl); (· exact rfl); (· exact rfl); (· exact rfl)) | (apply resL_arr; (· exact rfl); (· exact rfl); (· exact rfl); (· exact rfl); (· (first | assumption | exact rfl))) | exact viewL_nil | apply viewL_cons | apply view_nothingE | (apply view_slE; (· exact rfl); (· first | exact rfl | assumption | (simp [bA_length]; done) | (simp [bA_length]; omega) | omega); (· exact PureEC.out)) | (apply view_loose; (· exact PureEC.out)) | apply view_agg | apply view_tup | (apply View.ofEq; (· exact PureC.out)) | exact rfl)) | (apply T_ifT; (· exact rfl); (· (first | assumption | exact rfl))) | apply S_move | apply S_assign | (apply S_loadV; (· exact rfl); (· exact gt_any rfl); (· exact rfl); (· (first | exact ⟨rfl, rfl⟩ | exact ⟨rfl, trivial⟩ | assumption))) | (apply S_fieldV; (· exact rfl); (· exact rfl); (· exact rfl); (· exact rfl); (· exact gt_any rfl)) | apply S_not | (apply S_nilV; (· exact gt_any rfl)) | apply S_callQ (f := 88) | apply l1In_cv | exact viewL_nil | apply viewL_cons | (apply View.pure; exact PureC.out) | exact FlatC.out | exact gt_any rfl | exact gts_nil | (apply gts_cons; (· exact gt_any rfl)) | exact rfl | fail)

def evB (t : Tru) (n : Int) (d : List UInt8) (p : Prf) : Int :=
  if t.paused = true then 9 else if (rootAtL t n).length = 0 then 4 else if checkL (rootAtL t n) d p = true then 0 else 6
def evFault (t : Tru) (n : Int) (d : List UInt8) (p : Prf) : Int := if truFault t = 0 then evB t n d p else truFault t

attribute [local irreducible] checkL rootAtL

end Go.Proofs.Ythfikpgbddpmoaa
