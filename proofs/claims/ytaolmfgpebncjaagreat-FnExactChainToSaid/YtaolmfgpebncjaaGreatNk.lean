/- Ways to a block. -/
import Derived.Test.YtaolmfgpebncjaaGreatNg
import Derived.Test.YtaolmfgpebncjaaGreatZzj
import Derived.Test.YtaolmfgpebncjaaGreatGj
import Derived.Test.YtaolmfgpebncjaaGreatGk
set_option maxRecDepth 100000
set_option maxHeartbeats 3200000
set_option linter.unusedSimpArgs false
set_option linter.unusedVariables false
namespace Go.Proofs.YtaolmfgpebncjaaGreat
open Go.Av
attribute [local irreducible] T thenQ blockQ againQ againS WX retV retR Gt Gts GtsP okCells CV CR Av.Pure
attribute [local irreducible] treeFault

def ctOk (tr : List Blk) (i : Int) : Prop := 0 ≤ i ∧ i < (tr.length : Int)
instance (tr : List Blk) (i : Int) : Decidable (ctOk tr i) := by unfold ctOk; infer_instance
def ctCode (tr : List Blk) (i : Int) : Int := if treeFault tr ≠ 0 then treeFault tr else if ctOk tr i then 0 else 3
def ctL (tr : List Blk) (i : Int) : List Nat := if ctCode tr i = 0 then (wayD (headsL tr) i.toNat).reverse else []
theorem ct_bad {tr : List Blk} {i : Int} (h : treeFault tr ≠ 0) : ctCode tr i = treeFault tr ∧ ctL tr i = [] := by
  have e : ctCode tr i = treeFault tr := if_pos h
  exact ⟨e, if_neg (by rw [e]; exact h)⟩
theorem ct_out {tr : List Blk} {i : Int} (h : treeFault tr = 0) (h2 : ¬ ctOk tr i) : ctCode tr i = 3 ∧ ctL tr i = [] := by
  have e : ctCode tr i = 3 := by unfold ctCode; rw [if_neg (fun k => k h), if_neg h2]
  exact ⟨e, if_neg (by rw [e]; decide)⟩
theorem ct_ok {tr : List Blk} {i : Int} (h : treeFault tr = 0) (h2 : ctOk tr i) : ctCode tr i = 0 ∧ ctL tr i = (wayD (headsL tr) i.toNat).reverse := by
  have e : ctCode tr i = 0 := by unfold ctCode; rw [if_neg (fun k => k h), if_pos h2]
  exact ⟨e, if_pos e⟩
theorem ctL_le (tr : List Blk) (i : Int) : (ctL tr i).length ≤ 24 := by
  by_cases h : treeFault tr = 0
  · by_cases h2 : ctOk tr i
    · rw [(ct_ok h h2).2, List.length_reverse]
      have := wayD_le (headsL tr) (i := i.toNat) (by rw [headsL_length]; unfold ctOk at h2; omega)
      have := (tree_zero h).2.1
      unfold ctOk at h2
      omega
    · rw [(ct_out h h2).2]; simp
  · rw [(ct_bad h).2]; simp

theorem implChainTo_cr0 (tr : List Blk) (i : Int) (hl : tr.length ≤ 1048576) (he : ∀ b ∈ tr, b.events.length ≤ 1048576) : CR Tryz.prog 11 [blkAS tr, .int .i64 i] [] 0 (Is (pathB 0 (ctCode tr i) (ctL tr i).length) [(0, some ⟨(ctL tr i).map natA, 1, true, false⟩)] (0 + 1)) := by
  refine CR_introU tyOk Tryz.func11 (by kernel_rfl) rfl 24 rfl (by simp) [.cell 4 26] rfl ?_
  intro w0 ok0 wr φ0
  have c0 := treeFault_cv tr hl he
  by_cases g : treeFault tr = 0
  case neg =>
    have d0 : (!decide (treeFault tr = 0)) = true := by rw [decide_eq_false g]; rfl
    rw [(ct_bad g).1, (ct_bad g).2]
    repeat' (first | refine T_seq ?_ | refine N_then ?_ | refine N_thenR ?_ | refine T_regX tyOk ?_ | refine S_nil ?_ | refine T_ret ?_ | (apply T_ifT; (· exact rfl); (· (first | assumption | exact rfl))) | apply S_move | apply S_assign | (apply S_neq; (· exact gt_any rfl); (· exact gt_any rfl)) | apply S_alloc | (apply S_store1; (· exact rfl); (· exact gt_any rfl); (· exact rfl); (· exact rfl); (· exact rfl); (· exact rfl)) | (apply S_build; (· exact rfl); (· exact rfl); (· exact rfl); (· (repeat' (first | exact gtsP_nil | exact gt_any rfl | apply gtsP_cons))); (· (repeat' (first | exact BuildR.nil _ | (apply BuildR.cons; (· exact rfl); (· exact rfl); (· exact rfl); (· exact rfl); (· (first | nofun | assumption)); (· (repeat' constructor))))))) | apply S_callQ (f := 39) | apply c0 | exact viewL_nil | apply viewL_cons | (apply View.pure; exact PureC.out) | exact FlatC.out | exact gt_any rfl | exact gts_nil | (apply gts_cons; (· exact gt_any rfl)) | exact okCells_of rfl rfl | exact rfl | fail)
    (apply E_U1 [(0, 1)] 1 <;> repeat' (first | exact resL_nil | (apply resL_tmp; (· exact rfl)) | (apply resL_cell; (· exact rfl); (· exact rfl); (· exact rfl); (· exact rfl); (· exact rfl); (· exact rfl)) | (apply resL_arr; (· exact rfl); (· exact rfl); (· exact rfl); (· exact rfl); (· (first | assumption | exact rfl))) | exact Ren.sl _ _ _ _ | (apply ren_slE; (· first | exact rfl | omega); (· first | exact rfl | assumption | (simp [bA_length]; done) | (simp [bA_length]; omega)); (· first | exact rfl | assumption | (simp [bA_length]; done) | (simp [bA_length]; omega))) | exact Ren.ptr _ _ _ | exact renL_nil | apply renL_cons | (apply Ren.pure; exact PureC.out) | apply ren_agg | apply ren_tup | exact Low.sl _ _ _ _ (by decide) | exact Low.ptr _ _ _ (by decide) | exact lowL_nil | apply lowL_cons | (apply Low.pure; exact PureC.out) | apply low_agg | apply low_tup | exact pullB_nil | (apply pullB_pureE; (· exact rfl); (· first | exact rfl | assumption | (simp [bA]; done)); (· exact PureEC.out)) | (apply pullB_one; (· exact rfl)) | exact lowBs_nil | apply lowBs_cons | (apply PureB.low; exact PureEC.out) | apply lowX_one | exact lowX_nil | (apply pullB_list; (· exact rfl)) | exact renEL_nil | apply renEL_cons | apply lowX_cons | exact outsN_ren _ _ _ _ | exact outsN_low _ _ _ (by decide) | exact rfl))
  rw [g] at c0
  obtain ⟨g1, g2, _, hJ⟩ := tree_zero g
  have d0 : (!decide ((0 : Int) = 0)) = false := rfl
  have hml : (tr.map blkA).length = tr.length := by simp
  have hw : IntKind.wrap .i64 (((tr.map blkA).length : Int) - 1) = ((tr.map blkA).length : Int) - 1 := wrap_i64 (by omega) (by omega)
  by_cases g3 : ctOk tr i
  · rw [(ct_ok g g3).1, (ct_ok g g3).2]
    have g4 := g3
    unfold ctOk at g4
    have d1 : (!(decide ((0 : Int) ≤ i) && decide (i ≤ ((tr.map blkA).length : Int) - 1))) = false := by rw [decide_eq_true (by omega), decide_eq_true (by omega)]; rfl
    have c1 := headsOf_cv tr hl
    have hhl := headsL_length tr
    have c2 := fun N => chainTo_cr (headsL tr) i.toNat hJ (by omega) (by omega) N
    have ei : ((i.toNat : Nat) : Int) = i := by omega
    rw [ei] at c2
    rw [List.length_reverse]
    repeat' (first | refine T_seq ?_ | refine N_then ?_ | refine T_regX tyOk ?_ | refine S_nil ?_ | refine T_skip ?_ | refine T_ret ?_ | (apply T_ifF; (· exact rfl); (· (first | assumption | exact rfl))) | apply S_move | apply S_assign | (apply S_neq; (· exact gt_any rfl); (· exact gt_any rfl)) | apply S_sub | apply S_not | (apply S_len_ls; (· exact rfl); (· exact gt_any rfl)) | apply S_alloc | (apply S_store1; (· exact rfl); (· exact gt_any rfl); (· exact rfl); (· exact rfl); (· exact rfl); (· exact rfl)) | (apply S_build; (· exact rfl); (· exact rfl); (· exact rfl); (· (repeat' (first | exact gtsP_nil | exact gt_any rfl | apply gtsP_cons))); (· (repeat' (first | exact BuildR.nil _ | (apply BuildR.cons; (· exact rfl); (· exact rfl); (· exact rfl); (· exact rfl); (· (first | nofun | assumption)); (· (repeat' constructor))))))) | apply S_callQ (f := 39) | apply c0 | apply S_call (f := 59) | apply c1 | apply S_callI (f := 58) | apply c2 | apply S_callQ (f := 57) | apply in_cv | exact viewL_nil | apply viewL_cons | (apply View.pure; exact PureC.out) | exact FlatC.out | exact OwnC.out | exact ownB_nil | (apply ownB_boxM; (· (apply mlen; first | exact rfl | assumption | exact Nat.le_of_ble_eq_true rfl | omega | (simp [bA_length]; done) | (simp [bA_length]; omega))); (· exact OwnEC.out)) | exact PureLC.out | exact gt_any rfl | exact gts_nil | (apply gts_cons; (· exact gt_any rfl)) | exact okCells_of rfl rfl | assumption | exact rfl | fail)
    (apply E_U0 [(0, 1)] <;> repeat' (first | exact resL_nil | (apply resL_tmp; (· exact rfl)) | (apply resL_cell; (· exact rfl); (· exact rfl); (· exact rfl); (· exact rfl); (· exact rfl); (· exact rfl)) | (apply resL_arr; (· exact rfl); (· exact rfl); (· exact rfl); (· exact rfl); (· (first | assumption | exact rfl))) | exact Ren.sl _ _ _ _ | (apply ren_slE; (· first | exact rfl | omega); (· first | exact rfl | assumption | (simp [bA_length]; done) | (simp [bA_length]; omega)); (· first | exact rfl | assumption | (simp [bA_length]; done) | (simp [bA_length]; omega))) | exact Ren.ptr _ _ _ | exact renL_nil | apply renL_cons | (apply Ren.pure; exact PureC.out) | apply ren_agg | apply ren_tup | exact Low.sl _ _ _ _ (by decide) | exact Low.ptr _ _ _ (by decide) | exact lowL_nil | apply lowL_cons | (apply Low.pure; exact PureC.out) | apply low_agg | apply low_tup | exact pullB_nil | (apply pullB_pureE; (· exact rfl); (· first | exact rfl | assumption | (simp [bA]; done)); (· exact PureEC.out)) | (apply pullB_one; (· exact rfl)) | exact lowBs_nil | apply lowBs_cons | (apply PureB.low; exact PureEC.out) | apply lowX_one | exact lowX_nil | (apply pullB_list; (· exact rfl)) | exact renEL_nil | apply renEL_cons | apply lowX_cons | exact outsN_ren _ _ _ _ | exact outsN_low _ _ _ (by decide) | exact rfl))
  · rw [(ct_out g g3).1, (ct_out g g3).2]
    have d1 : (!(decide ((0 : Int) ≤ i) && decide (i ≤ ((tr.map blkA).length : Int) - 1))) = true := by
      unfold ctOk at g3
      by_cases x : 0 ≤ i
      · rw [decide_eq_false (show ¬ i ≤ ((tr.map blkA).length : Int) - 1 by omega), Bool.and_false]; rfl
      · rw [decide_eq_false (show ¬ (0 : Int) ≤ i by omega)]; rfl
    repeat' (first | refine T_seq ?_ | refine N_then ?_ | refine N_thenR ?_ | refine T_regX tyOk ?_ | refine S_nil ?_ | refine T_skip ?_ | refine T_ret ?_ | (apply T_ifT; (· exact rfl); (· (first | assumption | exact rfl))) | (apply T_ifF; (· exact rfl); (· (first | assumption | exact rfl))) | apply S_move | apply S_assign | (apply S_neq; (· exact gt_any rfl); (· exact gt_any rfl)) | apply S_sub | apply S_not | (apply S_len_ls; (· exact rfl); (· exact gt_any rfl)) | apply S_alloc | (apply S_store1; (· exact rfl); (· exact gt_any rfl); (· exact rfl); (· exact rfl); (· exact rfl); (· exact rfl)) | (apply S_build; (· exact rfl); (· exact rfl); (· exact rfl); (· (repeat' (first | exact gtsP_nil | exact gt_any rfl | apply gtsP_cons))); (· (repeat' (first | exact BuildR.nil _ | (apply BuildR.cons; (· exact rfl); (· exact rfl); (· exact rfl); (· exact rfl); (· (first | nofun | assumption)); (· (repeat' constructor))))))) | apply S_callQ (f := 39) | apply c0 | apply S_callQ (f := 57) | apply in_cv | exact viewL_nil | apply viewL_cons | (apply View.pure; exact PureC.out) | exact FlatC.out | exact gt_any rfl | exact gts_nil | (apply gts_cons; (· exact gt_any rfl)) | exact okCells_of rfl rfl | assumption | exact rfl | fail)
    (apply E_U1 [(0, 1)] 1 <;> repeat' (first | exact resL_nil | (apply resL_tmp; (· exact rfl)) | (apply resL_cell; (· exact rfl); (· exact rfl); (· exact rfl); (· exact rfl); (· exact rfl); (· exact rfl)) | (apply resL_arr; (· exact rfl); (· exact rfl); (· exact rfl); (· exact rfl); (· (first | assumption | exact rfl))) | exact Ren.sl _ _ _ _ | (apply ren_slE; (· first | exact rfl | omega); (· first | exact rfl | assumption | (simp [bA_length]; done) | (simp [bA_length]; omega)); (· first | exact rfl | assumption | (simp [bA_length]; done) | (simp [bA_length]; omega))) | exact Ren.ptr _ _ _ | exact renL_nil | apply renL_cons | (apply Ren.pure; exact PureC.out) | apply ren_agg | apply ren_tup | exact Low.sl _ _ _ _ (by decide) | exact Low.ptr _ _ _ (by decide) | exact lowL_nil | apply lowL_cons | (apply Low.pure; exact PureC.out) | apply low_agg | apply low_tup | exact pullB_nil | (apply pullB_pureE; (· exact rfl); (· first | exact rfl | assumption | (simp [bA]; done)); (· exact PureEC.out)) | (apply pullB_one; (· exact rfl)) | exact lowBs_nil | apply lowBs_cons | (apply PureB.low; exact PureEC.out) | apply lowX_one | exact lowX_nil | (apply pullB_list; (· exact rfl)) | exact renEL_nil | apply renEL_cons | apply lowX_cons | exact outsN_ren _ _ _ _ | exact outsN_low _ _ _ (by decide) | exact rfl))

theorem implChainTo_cr (tr : List Blk) (i : Int) (hl : tr.length ≤ 1048576) (he : ∀ b ∈ tr, b.events.length ≤ 1048576) (N : Nat) : CR Tryz.prog 11 [blkAS tr, .int .i64 i] [] N (Is (pathB N (ctCode tr i) (ctL tr i).length) [(N, some ⟨(ctL tr i).map natA, 1, true, false⟩)] (N + 1)) :=
  CR.allN (implChainTo_cr0 tr i hl he) N (by first | exact PureC.out | exact PureLC.out | assumption) (by repeat' (first | exact Ren.sl _ _ _ _ | exact Ren.ptr _ _ _ | exact renL_nil | apply renL_cons | (apply Ren.pure; (first | exact PureC.out | exact PureLC.out | assumption)) | apply ren_agg | apply ren_tup)) (by repeat' (first | exact renBs_nil | (apply renBs_pure; (· exact rfl); (· (exact PureEC.out))) | (apply renBs_one; (· exact rfl)) | exact renL_nil | apply renL_cons | exact Ren.sl _ _ _ _ | exact Ren.ptr _ _ _ | (apply Ren.pure; (first | exact PureC.out | exact PureLC.out | assumption)) | apply ren_agg | (apply renBs_list; (· exact rfl)) | exact outsN_ren _ _ _ _))

theorem implChainTo_cv (tr : List Blk) (i : Int) (hl : tr.length ≤ 1048576) (he : ∀ b ∈ tr, b.events.length ≤ 1048576) : CV Tryz.prog 11 [blkAS tr, .int .i64 i] (· = pathA (ctCode tr i) (ctL tr i)) :=
  (implChainTo_cr tr i hl he 0).toCV fun r bs n ⟨e1, e2, e3⟩ => by subst e1 e2; exact view_agg ⟨.pure (pure_int _ _), view_slA rfl (by simp) PureEC.out, trivial⟩

theorem specChainTo_cv (tr : List Blk) (i : Int) (hl : tr.length ≤ 1048576) (he : ∀ b ∈ tr, b.events.length ≤ 1048576) : CV Tryz.prog 9 [blkAS tr, .int .i64 i] (· = pathA (ctCode tr i) (ctL tr i)) := by
  refine CV_intro tyOk Tryz.func9 (by kernel_rfl) rfl 31 rfl (by simp) [.cell 4 26] rfl ?_
  intro w0 ok0
  have c0 := specTreeFault_cv tr hl he
  by_cases g : treeFault tr = 0
  case neg =>
    have d0 : (!decide (treeFault tr = 0)) = true := by rw [decide_eq_false g]; rfl
    rw [(ct_bad g).1, (ct_bad g).2]
    repeat' (first | refine T_seq ?_ | refine N_then ?_ | refine N_thenR ?_ | refine T_regX tyOk ?_ | refine S_nil ?_ | refine T_ret ?_ | (apply E_X <;> repeat' (first | exact resL_nil | (apply resL_tmp; (· exact rfl)) | (apply resL_cell; (· exact rfl); (· exact rfl); (· exact rfl); (· exact rfl); (· exact rfl); (· exact rfl)) | (apply resL_arr; (· exact rfl); (· exact rfl); (· exact rfl); (· exact rfl); (· (first | assumption | exact rfl))) | exact viewL_nil | apply viewL_cons | apply view_nothingE | (apply view_slE; (· exact rfl); (· first | exact rfl | assumption | (simp [bA_length]; done) | (simp [bA_length]; omega) | omega); (· exact PureEC.out)) | (apply view_loose; (· exact PureEC.out)) | apply view_agg | apply view_tup | (apply View.ofEq; (· exact PureC.out)) | exact rfl)) | (apply T_ifT; (· exact rfl); (· (first | assumption | exact rfl))) | apply S_move | apply S_assign | (apply S_neq; (· exact gt_any rfl); (· exact gt_any rfl)) | apply S_alloc | (apply S_store1; (· exact rfl); (· exact gt_any rfl); (· exact rfl); (· exact rfl); (· exact rfl); (· exact rfl)) | (apply S_build; (· exact rfl); (· exact rfl); (· exact rfl); (· (repeat' (first | exact gtsP_nil | exact gt_any rfl | apply gtsP_cons))); (· (repeat' (first | exact BuildR.nil _ | (apply BuildR.cons; (· exact rfl); (· exact rfl); (· exact rfl); (· exact rfl); (· (first | nofun | assumption)); (· (repeat' constructor))))))) | apply S_callQ (f := 52) | apply c0 | exact viewL_nil | apply viewL_cons | (apply View.pure; exact PureC.out) | exact FlatC.out | exact gt_any rfl | exact gts_nil | (apply gts_cons; (· exact gt_any rfl)) | exact okCells_of rfl rfl | exact rfl | fail)
  rw [g] at c0
  obtain ⟨g1, g2, _, hJ⟩ := tree_zero g
  have d0 : (!decide ((0 : Int) = 0)) = false := rfl
  have hml : (tr.map blkA).length = tr.length := by simp
  have hw : IntKind.wrap .i64 (((tr.map blkA).length : Int) - 1) = ((tr.map blkA).length : Int) - 1 := wrap_i64 (by omega) (by omega)
  by_cases g3 : ctOk tr i
  · rw [(ct_ok g g3).1, (ct_ok g g3).2]
    have g4 := g3
    unfold ctOk at g4
    have d1 : (!(decide ((0 : Int) ≤ i) && decide (i ≤ ((tr.map blkA).length : Int) - 1))) = false := by rw [decide_eq_true (by omega), decide_eq_true (by omega)]; rfl
    have hhl := headsL_length tr
    have hps : ∀ y ∈ headsL tr, y.parent.length ≤ 1000000 := fun y hy => by have := (hd_zero (hJ.1 y hy)).1; omega
    have c1 := l5Heads_cv tr hl
    rw [digOrs hJ.1] at c1
    have c2 := l5Way_cv (headsL tr) i.toNat hJ (by omega) (by omega) hps
    have ei : ((i.toNat : Nat) : Int) = i := by omega
    rw [ei] at c2
    repeat' (first | refine T_seq ?_ | refine N_then ?_ | refine T_regX tyOk ?_ | refine S_nil ?_ | refine T_skip ?_ | refine T_ret ?_ | (apply E_X <;> repeat' (first | exact resL_nil | (apply resL_tmp; (· exact rfl)) | (apply resL_cell; (· exact rfl); (· exact rfl); (· exact rfl); (· exact rfl); (· exact rfl); (· exact rfl)) | (apply resL_arr; (· exact rfl); (· exact rfl); (· exact rfl); (· exact rfl); (· (first | assumption | exact rfl))) | exact viewL_nil | apply viewL_cons | apply view_nothingE | (apply view_slE; (· exact rfl); (· first | exact rfl | assumption | (simp [bA_length]; done) | (simp [bA_length]; omega) | omega); (· exact PureEC.out)) | (apply view_loose; (· exact PureEC.out)) | apply view_agg | apply view_tup | (apply View.ofEq; (· exact PureC.out)) | exact rfl)) | (apply T_ifF; (· exact rfl); (· (first | assumption | exact rfl))) | apply S_move | apply S_assign | (apply S_neq; (· exact gt_any rfl); (· exact gt_any rfl)) | apply S_sub | apply S_not | (apply S_len_ls; (· exact rfl); (· exact gt_any rfl)) | apply S_extract | apply S_alloc | (apply S_store1; (· exact rfl); (· exact gt_any rfl); (· exact rfl); (· exact rfl); (· exact rfl); (· exact rfl)) | (apply S_build; (· exact rfl); (· exact rfl); (· exact rfl); (· (repeat' (first | exact gtsP_nil | exact gt_any rfl | apply gtsP_cons))); (· (repeat' (first | exact BuildR.nil _ | (apply BuildR.cons; (· exact rfl); (· exact rfl); (· exact rfl); (· exact rfl); (· (first | nofun | assumption)); (· (repeat' constructor))))))) | apply S_callQ (f := 52) | apply c0 | apply S_call (f := 54) | apply c1 | apply S_call (f := 55) | apply c2 | apply S_callQ (f := 53) | apply l1In_cv | exact viewL_nil | apply viewL_cons | (apply View.pure; exact PureC.out) | exact FlatC.out | exact PureLC.out | exact gt_any rfl | exact gts_nil | (apply gts_cons; (· exact gt_any rfl)) | exact okCells_of rfl rfl | assumption | exact rfl | fail)
  · rw [(ct_out g g3).1, (ct_out g g3).2]
    have d1 : (!(decide ((0 : Int) ≤ i) && decide (i ≤ ((tr.map blkA).length : Int) - 1))) = true := by
      unfold ctOk at g3
      by_cases x : 0 ≤ i
      · rw [decide_eq_false (show ¬ i ≤ ((tr.map blkA).length : Int) - 1 by omega), Bool.and_false]; rfl
      · rw [decide_eq_false (show ¬ (0 : Int) ≤ i by omega)]; rfl
    repeat' (first | refine T_seq ?_ | refine N_then ?_ | refine N_thenR ?_ | refine T_regX tyOk ?_ | refine S_nil ?_ | refine T_skip ?_ | refine T_ret ?_ | (apply E_X <;> repeat' (first | exact resL_nil | (apply resL_tmp; (· exact rfl)) | (apply resL_cell; (· exact rfl); (· exact rfl); (· exact rfl); (· exact rfl); (· exact rfl); (· exact rfl)) | (apply resL_arr; (· exact rfl); (· exact rfl); (· exact rfl); (· exact rfl); (· (first | assumption | exact rfl))) | exact viewL_nil | apply viewL_cons | apply view_nothingE | (apply view_slE; (· exact rfl); (· first | exact rfl | assumption | (simp [bA_length]; done) | (simp [bA_length]; omega) | omega); (· exact PureEC.out)) | (apply view_loose; (· exact PureEC.out)) | apply view_agg | apply view_tup | (apply View.ofEq; (· exact PureC.out)) | exact rfl)) | (apply T_ifT; (· exact rfl); (· (first | assumption | exact rfl))) | (apply T_ifF; (· exact rfl); (· (first | assumption | exact rfl))) | apply S_move | apply S_assign | (apply S_neq; (· exact gt_any rfl); (· exact gt_any rfl)) | apply S_sub | apply S_not | (apply S_len_ls; (· exact rfl); (· exact gt_any rfl)) | apply S_alloc | (apply S_store1; (· exact rfl); (· exact gt_any rfl); (· exact rfl); (· exact rfl); (· exact rfl); (· exact rfl)) | (apply S_build; (· exact rfl); (· exact rfl); (· exact rfl); (· (repeat' (first | exact gtsP_nil | exact gt_any rfl | apply gtsP_cons))); (· (repeat' (first | exact BuildR.nil _ | (apply BuildR.cons; (· exact rfl); (· exact rfl); (· exact rfl); (· exact rfl); (· (first | nofun | assumption)); (· (repeat' constructor))))))) | apply S_callQ (f := 52) | apply c0 | apply S_callQ (f := 53) | apply l1In_cv | exact viewL_nil | apply viewL_cons | (apply View.pure; exact PureC.out) | exact FlatC.out | exact gt_any rfl | exact gts_nil | (apply gts_cons; (· exact gt_any rfl)) | exact okCells_of rfl rfl | assumption | exact rfl | fail)

end Go.Proofs.YtaolmfgpebncjaaGreat
