/- The item that is due. -/
import Derived.Test.YtgakkecaflppfaaWg
set_option maxRecDepth 100000
set_option maxHeartbeats 3200000
set_option linter.unusedSimpArgs false
set_option linter.unusedVariables false
namespace Go.Proofs.Ytgakkecaflppfaa
open Go.Av
attribute [local irreducible] T thenQ blockQ againQ againS WX retV retR Gt Gts GtsP okCells CV CR Av.Pure

theorem relGo_all {c : Int} {q : List Itm} : ∀ (n i : Nat), relGo c q n i = 0 → ∀ j, i ≤ j → j < i + n → relStep c q j = 0
  | 0, i, _, j, h1, h2 => by omega
  | n + 1, i, h, j, h1, h2 => by
    simp only [relGo] at h
    split at h
    · rename_i hs
      by_cases e : j = i
      · subst e; exact hs
      · exact relGo_all n (i + 1) h j (by omega) (by omega)
    · rename_i hs; exact absurd h hs

theorem relFault_all {c : Int} {q : List Itm} (h : relFault c q = 0) : (0 ≤ c ∧ c ≤ 1000000) ∧ q.length ≤ 12 ∧ ∀ j, j < q.length → itemOk c (q.getD j it0) ∧ (0 < j → (q.getD (j - 1) it0).nonce < (q.getD j it0).nonce) := by
  unfold relFault at h
  split at h
  · cases h
  · split at h
    · cases h
    · refine ⟨by omega, by omega, fun j hj => ?_⟩
      have := relGo_all q.length 0 h j (by omega) (by omega)
      unfold relStep at this
      split at this
      · cases this
      · rename_i h3
        split at this
        · cases this
        · rename_i h4
          exact ⟨Decidable.not_not.1 h3, fun h0 => by omega⟩

def best (q : List Itm) (now : Int) : Nat → Option Nat
  | 0 => none
  | k + 1 => if (q.getD k it0).after ≤ now ∧ (∀ j, best q now k = some j → (q.getD k it0).after < (q.getD j it0).after) then some k else best q now k

def bestI (q : List Itm) (now : Int) (k : Nat) : Int := match best q now k with
  | some j => j
  | none => -1

theorem best_lt {q : List Itm} {now : Int} : ∀ {k j : Nat}, best q now k = some j → j < k ∧ (q.getD j it0).after ≤ now
  | 0, j, h => by cases h
  | k + 1, j, h => by
    simp only [best] at h
    split at h
    · rename_i h'; cases h; exact ⟨by omega, h'.1⟩
    · have := best_lt h; exact ⟨by omega, this.2⟩

theorem best_step {q : List Itm} {now : Int} {k : Nat} (h : (q.getD k it0).after ≤ now ∧ (∀ j, best q now k = some j → (q.getD k it0).after < (q.getD j it0).after)) : best q now (k + 1) = some k := if_pos h
theorem best_stay {q : List Itm} {now : Int} {k : Nat} (h : ¬ ((q.getD k it0).after ≤ now ∧ (∀ j, best q now k = some j → (q.getD k it0).after < (q.getD j it0).after))) : best q now (k + 1) = best q now k := if_neg h

theorem l11Due_cv (c : Int) (q : List Itm) (now : Int) (hq : q.length ≤ 1048576) : CV Try.prog 93 [.vp (relA c q).cells, .int .i64 now] (· = .int .i64 (bestI q now q.length)) := by
  refine CV_intro tyOk Try.func93 (by kernel_rfl) rfl 51 rfl (by simp) [.tmp 4] rfl ?_
  intro w0 ok0
  have hl : (q.map itemA).length = q.length := by simp
  repeat' (first | refine T_seq ?_ | refine N_then ?_ | refine T_regX tyOk ?_ | refine S_nil ?_ | refine T_block ?_ | apply S_assign | exact gt_any rfl | exact rfl | fail)
  refine T_roundsS (α := Nat) (fun k => ⟨[(0, .vp (relA c q).cells), (1, .int .i64 now), (5, .int .i64 (bestI q now k)), (6, .int .i64 k)], [], 0⟩)
    (fun k => q.length - k) (fun k => k ≤ q.length) 0 ((weak_of (by repeat' (first | exact keepE_nil | refine keepE_cons rfl ?_)) (by repeat' (first | exact keepB_nil | refine keepB_cons (by first | rfl | exact congrArg (fun l => some (Box.mk l _ _ _)) hset) ?_)) (Nat.le_refl _))).sub (by omega) ?_
  intro k hk
  by_cases hkl : k < q.length
  · have hc : decide ((k : Int) < ((q.map itemA).length : Int)) = true := by simp only [decide_eq_true_eq]; omega
    have hget := map_getD itemA q it0 (k := k) (by omega)
    by_cases h1 : (q.getD k it0).after ≤ now
    · have c1 : decide ((q.getD k it0).after ≤ now) = true := by simpa using h1
      cases hb : best q now k with
      | none =>
        have e0 : bestI q now k = -1 := by simp [bestI, hb]
        have e1 : bestI q now (k + 1) = k := by rw [bestI, best_step ⟨h1, fun j hj => by rw [hb] at hj; cases hj⟩]
        rw [e0]
        repeat' (first | refine T_seq ?_ | refine N_then ?_ | refine N_block ?_ | refine T_regX tyOk ?_ | (apply T_drawAll tyOk mixed; (· kernel_rfl)) | refine S_nil ?_ | refine T_skip ?_ | refine T_block ?_ | (apply T_ifT; (· exact rfl); (· (first | assumption | exact rfl))) | (apply S_gt; (· exact rfl); (· exact rfl); (· (first | assumption | exact rfl))) | (apply S_gfT'; (· exact rfl); (· exact rfl); (· exact rfl); (· (first | assumption | exact rfl))) | apply S_move | apply S_assign | (apply S_pickT; (· exact gt_any rfl); (· (first | assumption | exact rfl))) | (apply S_loadV; (· exact rfl); (· exact gt_any rfl); (· exact rfl); (· (first | exact ⟨rfl, rfl⟩ | exact ⟨rfl, trivial⟩ | assumption))) | (apply S_fieldV; (· exact rfl); (· exact rfl); (· exact rfl); (· exact rfl); (· exact gt_any rfl)) | apply S_lss | apply S_leq | apply S_add | (apply S_len_ls; (· exact rfl); (· exact gt_any rfl)) | (apply S_idxLs; (· exact rfl); (· exact rfl); (· exact gt_any rfl); (· exact gt_any rfl)) | (apply S_nilV; (· exact gt_any rfl)) | exact gt_any rfl | assumption | (apply wrap_i64; (· omega); (· omega)) | (refine ⟨?_, ?_⟩ <;> omega) | exact rfl | fail)
        refine N_againS (k + 1) (weak_of (keepE_cons rfl (keepE_cons rfl (keepE_cons (by rw [e1]; rfl) (keepE_cons rfl keepE_nil)))) keepB_nil (Nat.le_refl _)).sub (by omega) (by omega)
      | some j =>
        have hj := best_lt hb
        have e0 : bestI q now k = j := by simp [bestI, hb]
        have c2 : decide ((j : Int) < 0) = false := by simp
        have hget' := map_getD itemA q it0 (k := j) (by omega)
        rw [e0]
        by_cases h2 : (q.getD k it0).after < (q.getD j it0).after
        · have c3 : decide ((q.getD k it0).after < (q.getD j it0).after) = true := by simpa using h2
          have e1 : bestI q now (k + 1) = k := by rw [bestI, best_step ⟨h1, fun j' hj' => by rw [hb] at hj'; cases hj'; exact h2⟩]
          repeat' (first | refine T_seq ?_ | refine N_then ?_ | refine N_block ?_ | refine T_regX tyOk ?_ | (apply T_drawAll tyOk mixed; (· kernel_rfl)) | refine S_nil ?_ | refine T_skip ?_ | refine T_block ?_ | (apply T_ifT; (· exact rfl); (· (first | assumption | exact rfl))) | (apply S_gt; (· exact rfl); (· exact rfl); (· (first | assumption | exact rfl))) | (apply S_gf; (· exact rfl); (· exact rfl); (· (first | assumption | exact rfl))) | apply S_move | apply S_assign | (apply S_pickT; (· exact gt_any rfl); (· (first | assumption | exact rfl))) | (apply S_pickF; (· exact gt_any rfl); (· (first | assumption | exact rfl))) | (apply S_loadV; (· exact rfl); (· exact gt_any rfl); (· exact rfl); (· (first | exact ⟨rfl, rfl⟩ | exact ⟨rfl, trivial⟩ | assumption))) | (apply S_fieldV; (· exact rfl); (· exact rfl); (· exact rfl); (· exact rfl); (· exact gt_any rfl)) | apply S_lss | apply S_leq | apply S_add | (apply S_len_ls; (· exact rfl); (· exact gt_any rfl)) | (apply S_idxLs; (· exact rfl); (· exact rfl); (· exact gt_any rfl); (· exact gt_any rfl)) | (apply S_nilV; (· exact gt_any rfl)) | exact gt_any rfl | assumption | (apply wrap_i64; (· omega); (· omega)) | (refine ⟨?_, ?_⟩ <;> omega) | exact rfl | fail)
          refine N_againS (k + 1) (weak_of (keepE_cons rfl (keepE_cons rfl (keepE_cons (by rw [e1]; rfl) (keepE_cons rfl keepE_nil)))) keepB_nil (Nat.le_refl _)).sub (by omega) (by omega)
        · have c3 : decide ((q.getD k it0).after < (q.getD j it0).after) = false := by simpa using h2
          have e1 : bestI q now (k + 1) = j := by rw [bestI, best_stay (fun h => h2 (h.2 j hb)), hb]
          repeat' (first | refine T_seq ?_ | refine N_then ?_ | refine N_block ?_ | refine T_regX tyOk ?_ | (apply T_drawAll tyOk mixed; (· kernel_rfl)) | refine S_nil ?_ | refine T_skip ?_ | refine T_block ?_ | (apply T_ifT; (· exact rfl); (· (first | assumption | exact rfl))) | (apply T_ifF; (· exact rfl); (· (first | assumption | exact rfl))) | (apply S_gt; (· exact rfl); (· exact rfl); (· (first | assumption | exact rfl))) | (apply S_gf; (· exact rfl); (· exact rfl); (· (first | assumption | exact rfl))) | apply S_move | apply S_assign | (apply S_pickT; (· exact gt_any rfl); (· (first | assumption | exact rfl))) | (apply S_pickF; (· exact gt_any rfl); (· (first | assumption | exact rfl))) | (apply S_loadV; (· exact rfl); (· exact gt_any rfl); (· exact rfl); (· (first | exact ⟨rfl, rfl⟩ | exact ⟨rfl, trivial⟩ | assumption))) | (apply S_fieldV; (· exact rfl); (· exact rfl); (· exact rfl); (· exact rfl); (· exact gt_any rfl)) | apply S_lss | apply S_leq | apply S_add | (apply S_len_ls; (· exact rfl); (· exact gt_any rfl)) | (apply S_idxLs; (· exact rfl); (· exact rfl); (· exact gt_any rfl); (· exact gt_any rfl)) | (apply S_nilV; (· exact gt_any rfl)) | exact gt_any rfl | assumption | (apply wrap_i64; (· omega); (· omega)) | (refine ⟨?_, ?_⟩ <;> omega) | exact rfl | fail)
          refine N_againS (k + 1) (weak_of (keepE_cons rfl (keepE_cons rfl (keepE_cons (by rw [e1]; rfl) (keepE_cons rfl keepE_nil)))) keepB_nil (Nat.le_refl _)).sub (by omega) (by omega)
    · have c1 : decide ((q.getD k it0).after ≤ now) = false := by simpa using h1
      have e1 : bestI q now (k + 1) = bestI q now k := by unfold bestI; rw [best_stay (fun h => h1 h.1)]
      repeat' (first | refine T_seq ?_ | refine N_then ?_ | refine N_block ?_ | refine T_regX tyOk ?_ | (apply T_drawAll tyOk mixed; (· kernel_rfl)) | refine S_nil ?_ | refine T_skip ?_ | refine T_block ?_ | (apply T_ifT; (· exact rfl); (· (first | assumption | exact rfl))) | (apply T_ifF; (· exact rfl); (· (first | assumption | exact rfl))) | (apply S_gtF'; (· exact rfl); (· exact rfl); (· exact rfl); (· (first | assumption | exact rfl))) | (apply S_gskip'; (· exact rfl); (· exact rfl); (· exact rfl)) | apply S_move | apply S_assign | (apply S_pickF; (· exact gt_any rfl); (· (first | assumption | exact rfl))) | (apply S_loadV; (· exact rfl); (· exact gt_any rfl); (· exact rfl); (· (first | exact ⟨rfl, rfl⟩ | exact ⟨rfl, trivial⟩ | assumption))) | (apply S_fieldV; (· exact rfl); (· exact rfl); (· exact rfl); (· exact rfl); (· exact gt_any rfl)) | apply S_lss | apply S_leq | apply S_add | (apply S_len_ls; (· exact rfl); (· exact gt_any rfl)) | (apply S_idxLs; (· exact rfl); (· exact rfl); (· exact gt_any rfl); (· exact gt_any rfl)) | (apply S_nilV; (· exact gt_any rfl)) | exact gt_any rfl | assumption | (apply wrap_i64; (· omega); (· omega)) | (refine ⟨?_, ?_⟩ <;> omega) | exact rfl | fail)
      refine N_againS (k + 1) (weak_of (keepE_cons rfl (keepE_cons rfl (keepE_cons (by rw [e1]; rfl) (keepE_cons rfl keepE_nil)))) keepB_nil (Nat.le_refl _)).sub (by omega) (by omega)
  · have hc : decide ((k : Int) < ((q.map itemA).length : Int)) = false := by simp only [decide_eq_false_iff_not]; omega
    obtain rfl : k = q.length := by omega
    repeat' (first | refine T_seq ?_ | refine N_then ?_ | refine N_thenE ?_ | refine N_blockE ?_ | refine N_againSE ?_ | refine T_regX tyOk ?_ | refine S_nil ?_ | refine T_ret ?_ | refine T_exit ?_ | (apply E_tmp; (· exact rfl); (· (repeat' (first | exact pure_int _ _ | exact pure_bool _ | exact pure_str _); done))) | (apply T_ifF; (· exact rfl); (· (first | assumption | exact rfl))) | apply S_move | apply S_assign | (apply S_loadV; (· exact rfl); (· exact gt_any rfl); (· exact rfl); (· (first | exact ⟨rfl, rfl⟩ | exact ⟨rfl, trivial⟩ | assumption))) | (apply S_fieldV; (· exact rfl); (· exact rfl); (· exact rfl); (· exact rfl); (· exact gt_any rfl)) | apply S_lss | (apply S_len_ls; (· exact rfl); (· exact gt_any rfl)) | (apply S_nilV; (· exact gt_any rfl)) | exact gt_any rfl | exact rfl | fail)

def outI (q : List Itm) (m : Int) (k : Nat) : Itm := match best q m k with
  | some j => q.getD j it0
  | none => ⟨0, 0, m + 1⟩

theorem outI_zero (q : List Itm) (m : Int) : outI q m 0 = ⟨0, 0, m + 1⟩ := rfl

theorem outI_step {q : List Itm} {m : Int} {k : Nat} (h : (q.getD k it0).after < (outI q m k).after) : outI q m (k + 1) = q.getD k it0 := by
  have : best q m (k + 1) = some k := by
    refine best_step ⟨?_, fun j hj => by simp only [outI, hj] at h; exact h⟩
    cases hb : best q m k with
    | none => simp only [outI, hb] at h; omega
    | some j => have := (best_lt hb).2; simp only [outI, hb] at h; omega
  simp [outI, this]
theorem outI_stay {q : List Itm} {m : Int} {k : Nat} (h : ¬ (q.getD k it0).after < (outI q m k).after) : outI q m (k + 1) = outI q m k := by
  have : best q m (k + 1) = best q m k := by
    refine best_stay fun h2 => h ?_
    cases hb : best q m k with
    | none => simp only [outI, hb]; omega
    | some j => simp only [outI, hb]; exact h2.2 j hb
  simp [outI, this]

theorem due_cv (c : Int) (q : List Itm) (m : Int) (hq : q.length ≤ 1048576) (h0 : -9223372036854775808 ≤ m) (h1 : m ≤ 4398046511104) : CV Try.prog 94 [relA c q, .int .i64 m] (· = /-flat-/ .tup [.int .i64 (outI q m q.length).nonce, .bool (decide (0 < (outI q m q.length).nonce))]) := by
  refine CV_intro tyOk Try.func94 (by kernel_rfl) rfl 31 rfl (by simp) [.tmp 4, .tmp 5] rfl ?_
  intro w0 ok0
  have hl : (q.map itemA).length = q.length := by simp
  repeat' (first | refine T_seq ?_ | refine N_then ?_ | refine T_regX tyOk ?_ | refine S_nil ?_ | refine T_block ?_ | apply S_move | apply S_assign | (apply S_loadP; (· exact rfl); (· exact gt_any rfl); (· exact rfl); (· exact rfl); (· exact rfl); (· (first | exact ⟨rfl, rfl⟩ | exact ⟨rfl, trivial⟩ | assumption))) | (apply S_fieldP; (· exact rfl); (· exact rfl); (· exact rfl); (· exact rfl); (· exact gt_any rfl)) | apply S_add | (apply S_len_ls; (· exact rfl); (· exact gt_any rfl)) | apply S_alloc | apply S_box | (apply S_store1; (· exact rfl); (· exact gt_any rfl); (· exact rfl); (· exact rfl); (· exact rfl); (· exact rfl)) | (apply S_build; (· exact rfl); (· exact rfl); (· exact rfl); (· (repeat' (first | exact gtsP_nil | exact gt_any rfl | apply gtsP_cons))); (· (repeat' (first | exact BuildR.nil _ | (apply BuildR.cons; (· exact rfl); (· exact rfl); (· exact rfl); (· exact rfl); (· (first | nofun | assumption)); (· (repeat' constructor))))))) | exact gt_any rfl | exact okCells_of rfl rfl | (apply wrap_i64; (· omega); (· omega)) | exact rfl | fail)
  refine T_roundsS (α := Nat) (fun k => ⟨[(6, .ptr 1 0 0), (13, sl3 (q.map itemA)), (14, .int .i64 (q.map itemA).length), (15, .int .i64 k)], [(1, some ⟨[itemA (outI q m k)], 3, false, false⟩)], 2⟩)
    (fun k => q.length - k) (fun k => k ≤ q.length) 0 (by simp only [outI_zero]; exact ((weak_of (by repeat' (first | exact keepE_nil | refine keepE_cons rfl ?_)) (by repeat' (first | exact keepB_nil | refine keepB_cons (by first | rfl | exact congrArg (fun l => some (Box.mk l _ _ _)) hset) ?_)) (Nat.le_refl _))).sub) (by omega) ?_
  intro k hk
  by_cases hkl : k < q.length
  · have hc : decide ((k : Int) < ((q.map itemA).length : Int)) = true := by simp only [decide_eq_true_eq]; omega
    have hget := map_getD itemA q it0 (k := k) (by omega)
    by_cases h2 : (q.getD k it0).after < (outI q m k).after
    · have c1 : decide ((q.getD k it0).after < (outI q m k).after) = true := by simpa using h2
      have e1 := outI_step h2
      repeat' (first | refine T_seq ?_ | refine N_then ?_ | refine N_block ?_ | refine T_regX tyOk ?_ | refine S_nil ?_ | refine T_skip ?_ | refine T_block ?_ | (apply T_ifT; (· exact rfl); (· (first | assumption | exact rfl))) | apply S_move | (apply S_loadP; (· exact rfl); (· exact gt_any rfl); (· exact rfl); (· exact rfl); (· exact rfl); (· (first | exact ⟨rfl, rfl⟩ | exact ⟨rfl, trivial⟩ | assumption))) | (apply S_loadW; (· exact rfl); (· exact gt_any rfl); (· exact rfl); (· exact rfl); (· exact rfl); (· exact rfl); (· exact rfl); (· exact rfl)) | (apply S_loadVA; (· exact rfl); (· exact gt_any rfl); (· exact rfl); (· exact rfl)) | (apply S_fieldP; (· exact rfl); (· exact rfl); (· exact rfl); (· exact rfl); (· exact gt_any rfl)) | apply S_lss | apply S_add | apply S_alloc | (apply S_store1; (· exact rfl); (· exact gt_any rfl); (· exact rfl); (· exact rfl); (· exact rfl); (· exact rfl)) | (apply S_idxLs; (· exact rfl); (· exact rfl); (· exact gt_any rfl); (· exact gt_any rfl)) | exact gt_any rfl | exact okCells_of rfl rfl | assumption | (apply wrap_i64; (· omega); (· omega)) | (refine ⟨?_, ?_⟩ <;> omega) | exact rfl | fail)
      exact N_againS (k + 1) (by simp only [e1]; exact (sub_drop (by repeat' (first | exact keepE_nil | refine keepE_cons rfl ?_)) (by repeat' (first | exact keepB_nil | refine keepB_cons rfl ?_)) (by repeat' (first | exact lowE_nil | apply lowE_cons | exact Low.sl _ _ _ _ (by decide) | exact Low.ptr _ _ _ (by decide) | (apply Low.pure; (first | exact PureC.out | exact PureLC.out | assumption)) | exact lowL_nil | apply lowL_cons | apply low_agg | apply low_tup)) (by repeat' (first | exact lowB_nil | refine lowB_cons (by decide) (by (apply PureB.low; exact PureEC.out)) ?_)) (Nat.zero_le _))) (by omega) (by omega)
    · have c1 : decide ((q.getD k it0).after < (outI q m k).after) = false := by simpa using h2
      have e1 := outI_stay h2
      repeat' (first | refine T_seq ?_ | refine N_then ?_ | refine N_block ?_ | refine T_regX tyOk ?_ | refine S_nil ?_ | refine T_skip ?_ | refine T_block ?_ | (apply T_ifT; (· exact rfl); (· (first | assumption | exact rfl))) | (apply T_ifF; (· exact rfl); (· (first | assumption | exact rfl))) | apply S_move | (apply S_loadP; (· exact rfl); (· exact gt_any rfl); (· exact rfl); (· exact rfl); (· exact rfl); (· (first | exact ⟨rfl, rfl⟩ | exact ⟨rfl, trivial⟩ | assumption))) | (apply S_loadVA; (· exact rfl); (· exact gt_any rfl); (· exact rfl); (· exact rfl)) | (apply S_fieldP; (· exact rfl); (· exact rfl); (· exact rfl); (· exact rfl); (· exact gt_any rfl)) | apply S_lss | apply S_add | apply S_alloc | (apply S_store1; (· exact rfl); (· exact gt_any rfl); (· exact rfl); (· exact rfl); (· exact rfl); (· exact rfl)) | (apply S_idxLs; (· exact rfl); (· exact rfl); (· exact gt_any rfl); (· exact gt_any rfl)) | exact gt_any rfl | exact okCells_of rfl rfl | assumption | (apply wrap_i64; (· omega); (· omega)) | (refine ⟨?_, ?_⟩ <;> omega) | exact rfl | fail)
      exact N_againS (k + 1) (by simp only [e1]; exact (sub_drop (by repeat' (first | exact keepE_nil | refine keepE_cons rfl ?_)) (by repeat' (first | exact keepB_nil | refine keepB_cons rfl ?_)) (by repeat' (first | exact lowE_nil | apply lowE_cons | exact Low.sl _ _ _ _ (by decide) | exact Low.ptr _ _ _ (by decide) | (apply Low.pure; (first | exact PureC.out | exact PureLC.out | assumption)) | exact lowL_nil | apply lowL_cons | apply low_agg | apply low_tup)) (by repeat' (first | exact lowB_nil | refine lowB_cons (by decide) (by (apply PureB.low; exact PureEC.out)) ?_)) (Nat.zero_le _))) (by omega) (by omega)
  · have hc : decide ((k : Int) < ((q.map itemA).length : Int)) = false := by simp only [decide_eq_false_iff_not]; omega
    obtain rfl : k = q.length := by omega
    repeat' (first | refine T_seq ?_ | refine N_then ?_ | refine N_thenE ?_ | refine N_blockE ?_ | refine N_againSE ?_ | refine T_regX tyOk ?_ | (apply T_drawAll tyOk mixed; (· kernel_rfl)) | refine S_nil ?_ | refine T_ret ?_ | refine T_exit ?_ | (apply E_X <;> repeat' (first | exact resL_nil | (apply resL_tmp; (· exact rfl)) | (apply resL_cell; (· exact rfl); (· exact rfl); (· exact rfl); (· exact rfl); (· exact rfl); (· exact rfl)) | (apply resL_arr; (· exact rfl); (· exact rfl); (· exact rfl); (· exact rfl); (· (first | assumption | exact rfl))) | exact viewL_nil | apply viewL_cons | apply view_nothingE | (apply view_slE; (· exact rfl); (· first | exact rfl | assumption | (simp [bA_length]; done) | (simp [bA_length]; omega) | omega); (· exact PureEC.out)) | (apply view_loose; (· exact PureEC.out)) | apply view_agg | apply view_tup | (apply View.ofEq; (· exact PureC.out)) | exact rfl)) | (apply T_ifF; (· exact rfl); (· (first | assumption | exact rfl))) | apply S_assign | (apply S_loadP; (· exact rfl); (· exact gt_any rfl); (· exact rfl); (· exact rfl); (· exact rfl); (· (first | exact ⟨rfl, rfl⟩ | exact ⟨rfl, trivial⟩ | assumption))) | (apply S_fieldP; (· exact rfl); (· exact rfl); (· exact rfl); (· exact rfl); (· exact gt_any rfl)) | apply S_lss | apply S_gtr | exact gt_any rfl | exact rfl | fail)

theorem best_min {q : List Itm} {now m : Int} (hm : ∀ j, j < q.length → ((q.getD j it0).after ≤ m ↔ (q.getD j it0).after ≤ now)) : ∀ k, k ≤ q.length → best q m k = best q now k
  | 0, _ => rfl
  | k + 1, h => by
    simp only [best, best_min hm k (by omega), hm k (by omega)]

def dueCode (c : Int) (q : List Itm) (now : Int) : Int := if relFault c q = 0 then (match best q now q.length with | some _ => 0 | none => 4) else relFault c q
def dueVal (c : Int) (q : List Itm) (now : Int) : Int := if relFault c q = 0 then (match best q now q.length with | some j => (q.getD j it0).nonce | none => 0) else 0

theorem specDueItem_cv (c : Int) (q : List Itm) (now : Int) (hq : q.length ≤ 1048576) : CV Try.prog 49 [relA c q, .int .i64 now] (· = /-flat-/ intRes (dueCode c q now) (dueVal c q now)) := by
  refine CV_intro tyOk Try.func49 (by kernel_rfl) rfl 25 rfl (by simp) [.cell 4 23] rfl ?_
  intro w0 ok0
  by_cases h : relFault c q = 0
  · have hc : (!decide (relFault c q = 0)) = false := by simp [h]
    cases hb : best q now q.length with
    | none =>
      have e0 : bestI q now q.length = -1 := by simp [bestI, hb]
      have c0 := l11Due_cv c q now hq
      rw [e0] at c0
      repeat' (first | refine T_seq ?_ | refine N_then ?_ | refine N_thenR ?_ | refine T_regX tyOk ?_ | refine S_nil ?_ | refine T_skip ?_ | refine T_ret ?_ | (apply E_X <;> repeat' (first | exact resL_nil | (apply resL_tmp; (· exact rfl)) | (apply resL_cell; (· exact rfl); (· exact rfl); (· exact rfl); (· exact rfl); (· exact rfl); (· exact rfl)) | (apply resL_arr; (· exact rfl); (· exact rfl); (· exact rfl); (· exact rfl); (· (first | assumption | exact rfl))) | exact viewL_nil | apply viewL_cons | apply view_nothingE | (apply view_slE; (· exact rfl); (· first | exact rfl | assumption | (simp [bA_length]; done) | (simp [bA_length]; omega) | omega); (· exact PureEC.out)) | (apply view_loose; (· exact PureEC.out)) | apply view_agg | apply view_tup | (apply View.ofEq; (· exact PureC.out)) | exact rfl)) | (apply T_ifT; (· exact rfl); (· (first | assumption | exact rfl))) | (apply T_ifF; (· exact rfl); (· (first | assumption | exact rfl))) | apply S_move | apply S_assign | (apply S_loadW; (· exact rfl); (· exact gt_any rfl); (· exact rfl); (· exact rfl); (· exact rfl); (· exact rfl); (· exact rfl); (· exact rfl)) | apply S_lss | (apply S_neq; (· exact gt_any rfl); (· exact gt_any rfl)) | apply S_alloc | apply S_box | (apply S_store1; (· exact rfl); (· exact gt_any rfl); (· exact rfl); (· exact rfl); (· exact rfl); (· exact rfl)) | (apply S_build; (· exact rfl); (· exact rfl); (· exact rfl); (· (repeat' (first | exact gtsP_nil | exact gt_any rfl | apply gtsP_cons))); (· (repeat' (first | exact BuildR.nil _ | (apply BuildR.cons; (· exact rfl); (· exact rfl); (· exact rfl); (· exact rfl); (· (first | nofun | assumption)); (· (repeat' constructor))))))) | apply S_callQ (f := 93) | apply c0 | apply S_callQ (f := 29) | apply specRelayerFault_cv | exact viewL_nil | apply viewL_cons | (apply View.pure; exact PureC.out) | (apply view_ptr; (· exact rfl); (· exact rfl)) | exact FlatC.out | exact gt_any rfl | exact gts_nil | (apply gts_cons; (· exact gt_any rfl)) | exact okCells_of rfl rfl | assumption | exact rfl | fail)
      all_goals simp [dueCode, dueVal, h, hb]
    | some j =>
      have hj := (best_lt hb).1
      have e0 : bestI q now q.length = j := by simp [bestI, hb]
      have c0 := l11Due_cv c q now hq
      rw [e0] at c0
      have c2 : decide ((j : Int) < 0) = false := by simp
      have hget := map_getD itemA q it0 (k := j) (by omega)
      have hrg : 0 ≤ (j : Int) ∧ (j : Int) < ((q.map itemA).length : Int) := ⟨by omega, by simp; omega⟩
      repeat' (first | refine T_seq ?_ | refine N_then ?_ | refine T_regX tyOk ?_ | refine S_nil ?_ | refine T_skip ?_ | refine T_ret ?_ | (apply E_X <;> repeat' (first | exact resL_nil | (apply resL_tmp; (· exact rfl)) | (apply resL_cell; (· exact rfl); (· exact rfl); (· exact rfl); (· exact rfl); (· exact rfl); (· exact rfl)) | (apply resL_arr; (· exact rfl); (· exact rfl); (· exact rfl); (· exact rfl); (· (first | assumption | exact rfl))) | exact viewL_nil | apply viewL_cons | apply view_nothingE | (apply view_slE; (· exact rfl); (· first | exact rfl | assumption | (simp [bA_length]; done) | (simp [bA_length]; omega) | omega); (· exact PureEC.out)) | (apply view_loose; (· exact PureEC.out)) | apply view_agg | apply view_tup | (apply View.ofEq; (· exact PureC.out)) | exact rfl)) | (apply T_ifF; (· exact rfl); (· (first | assumption | exact rfl))) | apply S_move | apply S_assign | (apply S_loadP; (· exact rfl); (· exact gt_any rfl); (· exact rfl); (· exact rfl); (· exact rfl); (· (first | exact ⟨rfl, rfl⟩ | exact ⟨rfl, trivial⟩ | assumption))) | (apply S_loadW; (· exact rfl); (· exact gt_any rfl); (· exact rfl); (· exact rfl); (· exact rfl); (· exact rfl); (· exact rfl); (· exact rfl)) | (apply S_loadV; (· exact rfl); (· exact gt_any rfl); (· exact rfl); (· (first | exact ⟨rfl, rfl⟩ | exact ⟨rfl, trivial⟩ | assumption))) | (apply S_fieldP; (· exact rfl); (· exact rfl); (· exact rfl); (· exact rfl); (· exact gt_any rfl)) | (apply S_fieldV; (· exact rfl); (· exact rfl); (· exact rfl); (· exact rfl); (· exact gt_any rfl)) | apply S_lss | (apply S_neq; (· exact gt_any rfl); (· exact gt_any rfl)) | apply S_alloc | apply S_box | (apply S_store1; (· exact rfl); (· exact gt_any rfl); (· exact rfl); (· exact rfl); (· exact rfl); (· exact rfl)) | (apply S_build; (· exact rfl); (· exact rfl); (· exact rfl); (· (repeat' (first | exact gtsP_nil | exact gt_any rfl | apply gtsP_cons))); (· (repeat' (first | exact BuildR.nil _ | (apply BuildR.cons; (· exact rfl); (· exact rfl); (· exact rfl); (· exact rfl); (· (first | nofun | assumption)); (· (repeat' constructor))))))) | (apply S_idxLs; (· exact rfl); (· exact rfl); (· exact gt_any rfl); (· exact gt_any rfl)) | apply S_callQ (f := 93) | apply c0 | apply S_callQ (f := 29) | apply specRelayerFault_cv | exact viewL_nil | apply viewL_cons | (apply View.pure; exact PureC.out) | (apply view_ptr; (· exact rfl); (· exact rfl)) | exact FlatC.out | exact gt_any rfl | exact gts_nil | (apply gts_cons; (· exact gt_any rfl)) | exact okCells_of rfl rfl | assumption | exact rfl | fail)
      all_goals simp only [dueCode, dueVal, h, hb, if_true]
  · have hc : (!decide (relFault c q = 0)) = true := by simp [h]
    repeat' (first | refine T_seq ?_ | refine N_then ?_ | refine N_thenR ?_ | refine T_regX tyOk ?_ | refine S_nil ?_ | refine T_ret ?_ | (apply E_X <;> repeat' (first | exact resL_nil | (apply resL_tmp; (· exact rfl)) | (apply resL_cell; (· exact rfl); (· exact rfl); (· exact rfl); (· exact rfl); (· exact rfl); (· exact rfl)) | (apply resL_arr; (· exact rfl); (· exact rfl); (· exact rfl); (· exact rfl); (· (first | assumption | exact rfl))) | exact viewL_nil | apply viewL_cons | apply view_nothingE | (apply view_slE; (· exact rfl); (· first | exact rfl | assumption | (simp [bA_length]; done) | (simp [bA_length]; omega) | omega); (· exact PureEC.out)) | (apply view_loose; (· exact PureEC.out)) | apply view_agg | apply view_tup | (apply View.ofEq; (· exact PureC.out)) | exact rfl)) | (apply T_ifT; (· exact rfl); (· (first | assumption | exact rfl))) | apply S_move | apply S_assign | (apply S_loadW; (· exact rfl); (· exact gt_any rfl); (· exact rfl); (· exact rfl); (· exact rfl); (· exact rfl); (· exact rfl); (· exact rfl)) | (apply S_neq; (· exact gt_any rfl); (· exact gt_any rfl)) | apply S_alloc | apply S_box | (apply S_store1; (· exact rfl); (· exact gt_any rfl); (· exact rfl); (· exact rfl); (· exact rfl); (· exact rfl)) | (apply S_build; (· exact rfl); (· exact rfl); (· exact rfl); (· (repeat' (first | exact gtsP_nil | exact gt_any rfl | apply gtsP_cons))); (· (repeat' (first | exact BuildR.nil _ | (apply BuildR.cons; (· exact rfl); (· exact rfl); (· exact rfl); (· exact rfl); (· (first | nofun | assumption)); (· (repeat' constructor))))))) | apply S_callQ (f := 29) | apply specRelayerFault_cv | exact viewL_nil | apply viewL_cons | (apply View.pure; exact PureC.out) | exact FlatC.out | exact gt_any rfl | exact gts_nil | (apply gts_cons; (· exact gt_any rfl)) | exact okCells_of rfl rfl | assumption | exact rfl | fail)
    all_goals simp [dueCode, dueVal, h]

theorem implDueItem_cv (c : Int) (q : List Itm) (now : Int) (hq : q.length ≤ 1048576) (h0 : -9223372036854775808 ≤ now) : CV Try.prog 50 [relA c q, .int .i64 now] (· = /-flat-/ intRes (dueCode c q now) (dueVal c q now)) := by
  refine CV_intro tyOk Try.func50 (by kernel_rfl) rfl 26 rfl (by simp) [.cell 4 23] rfl ?_
  intro w0 ok0
  by_cases h : relFault c q = 0
  · have hc : (!decide (relFault c q = 0)) = false := by simp [h]
    obtain ⟨_, hlen, hok⟩ := relFault_all h
    have hm : ∀ j, j < q.length → ((q.getD j it0).after ≤ (if 4398046511104 < now then 4398046511104 else now) ↔ (q.getD j it0).after ≤ now) := fun j hj => by
      have := (hok j hj).1.2.2
      split <;> omega
    have hb' := best_min hm q.length (Nat.le_refl _)
    have c0 := due_cv c q (if 4398046511104 < now then 4398046511104 else now) hq (by split <;> omega) (by split <;> omega)
    cases hb : best q now q.length with
    | none =>
      have e0 : (outI q (if 4398046511104 < now then 4398046511104 else now) q.length).nonce = 0 := by simp [outI, hb', hb]
      rw [e0] at c0
      repeat' (first | refine T_seq ?_ | refine N_then ?_ | refine N_thenR ?_ | refine T_regX tyOk ?_ | refine S_nil ?_ | refine T_skip ?_ | refine T_ret ?_ | (apply E_X <;> repeat' (first | exact resL_nil | (apply resL_tmp; (· exact rfl)) | (apply resL_cell; (· exact rfl); (· exact rfl); (· exact rfl); (· exact rfl); (· exact rfl); (· exact rfl)) | (apply resL_arr; (· exact rfl); (· exact rfl); (· exact rfl); (· exact rfl); (· (first | assumption | exact rfl))) | exact viewL_nil | apply viewL_cons | apply view_nothingE | (apply view_slE; (· exact rfl); (· first | exact rfl | assumption | (simp [bA_length]; done) | (simp [bA_length]; omega) | omega); (· exact PureEC.out)) | (apply view_loose; (· exact PureEC.out)) | apply view_agg | apply view_tup | (apply View.ofEq; (· exact PureC.out)) | exact rfl)) | (apply T_ifT; (· exact rfl); (· (first | assumption | exact rfl))) | (apply T_ifF; (· exact rfl); (· (first | assumption | exact rfl))) | apply S_move | apply S_assign | (apply S_loadW; (· exact rfl); (· exact gt_any rfl); (· exact rfl); (· exact rfl); (· exact rfl); (· exact rfl); (· exact rfl); (· exact rfl)) | (apply S_neq; (· exact gt_any rfl); (· exact gt_any rfl)) | apply S_not | apply S_min | apply S_extract | apply S_alloc | apply S_box | (apply S_store1; (· exact rfl); (· exact gt_any rfl); (· exact rfl); (· exact rfl); (· exact rfl); (· exact rfl)) | (apply S_build; (· exact rfl); (· exact rfl); (· exact rfl); (· (repeat' (first | exact gtsP_nil | exact gt_any rfl | apply gtsP_cons))); (· (repeat' (first | exact BuildR.nil _ | (apply BuildR.cons; (· exact rfl); (· exact rfl); (· exact rfl); (· exact rfl); (· (first | nofun | assumption)); (· (repeat' constructor))))))) | apply S_callQ (f := 94) | apply c0 | apply S_callQ (f := 31) | apply implRelayerFault_cv | exact viewL_nil | apply viewL_cons | (apply View.pure; exact PureC.out) | exact FlatC.out | exact gt_any rfl | exact gts_nil | (apply gts_cons; (· exact gt_any rfl)) | exact okCells_of rfl rfl | assumption | exact rfl | fail)
      all_goals simp [dueCode, dueVal, h, hb]
    | some j =>
      have hj := (best_lt hb).1
      have e0 : (outI q (if 4398046511104 < now then 4398046511104 else now) q.length).nonce = (q.getD j it0).nonce := by simp [outI, hb', hb]
      rw [e0] at c0
      have c2 : (!decide (0 < (q.getD j it0).nonce)) = false := by have := (hok j hj).1.1.1; simp only [Bool.not_eq_false', decide_eq_true_eq]; omega
      repeat' (first | refine T_seq ?_ | refine N_then ?_ | refine T_regX tyOk ?_ | refine S_nil ?_ | refine T_skip ?_ | refine T_ret ?_ | (apply E_X <;> repeat' (first | exact resL_nil | (apply resL_tmp; (· exact rfl)) | (apply resL_cell; (· exact rfl); (· exact rfl); (· exact rfl); (· exact rfl); (· exact rfl); (· exact rfl)) | (apply resL_arr; (· exact rfl); (· exact rfl); (· exact rfl); (· exact rfl); (· (first | assumption | exact rfl))) | exact viewL_nil | apply viewL_cons | apply view_nothingE | (apply view_slE; (· exact rfl); (· first | exact rfl | assumption | (simp [bA_length]; done) | (simp [bA_length]; omega) | omega); (· exact PureEC.out)) | (apply view_loose; (· exact PureEC.out)) | apply view_agg | apply view_tup | (apply View.ofEq; (· exact PureC.out)) | exact rfl)) | (apply T_ifF; (· exact rfl); (· (first | assumption | exact rfl))) | apply S_move | apply S_assign | (apply S_loadW; (· exact rfl); (· exact gt_any rfl); (· exact rfl); (· exact rfl); (· exact rfl); (· exact rfl); (· exact rfl); (· exact rfl)) | (apply S_neq; (· exact gt_any rfl); (· exact gt_any rfl)) | apply S_not | apply S_min | apply S_extract | apply S_alloc | apply S_box | (apply S_store1; (· exact rfl); (· exact gt_any rfl); (· exact rfl); (· exact rfl); (· exact rfl); (· exact rfl)) | (apply S_build; (· exact rfl); (· exact rfl); (· exact rfl); (· (repeat' (first | exact gtsP_nil | exact gt_any rfl | apply gtsP_cons))); (· (repeat' (first | exact BuildR.nil _ | (apply BuildR.cons; (· exact rfl); (· exact rfl); (· exact rfl); (· exact rfl); (· (first | nofun | assumption)); (· (repeat' constructor))))))) | apply S_callQ (f := 94) | apply c0 | apply S_callQ (f := 31) | apply implRelayerFault_cv | exact viewL_nil | apply viewL_cons | (apply View.pure; exact PureC.out) | exact FlatC.out | exact gt_any rfl | exact gts_nil | (apply gts_cons; (· exact gt_any rfl)) | exact okCells_of rfl rfl | assumption | exact rfl | fail)
      all_goals simp only [dueCode, dueVal, h, hb, if_true]
  · have hc : (!decide (relFault c q = 0)) = true := by simp [h]
    repeat' (first | refine T_seq ?_ | refine N_then ?_ | refine N_thenR ?_ | refine T_regX tyOk ?_ | refine S_nil ?_ | refine T_ret ?_ | (apply E_X <;> repeat' (first | exact resL_nil | (apply resL_tmp; (· exact rfl)) | (apply resL_cell; (· exact rfl); (· exact rfl); (· exact rfl); (· exact rfl); (· exact rfl); (· exact rfl)) | (apply resL_arr; (· exact rfl); (· exact rfl); (· exact rfl); (· exact rfl); (· (first | assumption | exact rfl))) | exact viewL_nil | apply viewL_cons | apply view_nothingE | (apply view_slE; (· exact rfl); (· first | exact rfl | assumption | (simp [bA_length]; done) | (simp [bA_length]; omega) | omega); (· exact PureEC.out)) | (apply view_loose; (· exact PureEC.out)) | apply view_agg | apply view_tup | (apply View.ofEq; (· exact PureC.out)) | exact rfl)) | (apply T_ifT; (· exact rfl); (· (first | assumption | exact rfl))) | apply S_move | apply S_assign | (apply S_loadW; (· exact rfl); (· exact gt_any rfl); (· exact rfl); (· exact rfl); (· exact rfl); (· exact rfl); (· exact rfl); (· exact rfl)) | (apply S_neq; (· exact gt_any rfl); (· exact gt_any rfl)) | apply S_alloc | apply S_box | (apply S_store1; (· exact rfl); (· exact gt_any rfl); (· exact rfl); (· exact rfl); (· exact rfl); (· exact rfl)) | (apply S_build; (· exact rfl); (· exact rfl); (· exact rfl); (· (repeat' (first | exact gtsP_nil | exact gt_any rfl | apply gtsP_cons))); (· (repeat' (first | exact BuildR.nil _ | (apply BuildR.cons; (· exact rfl); (· exact rfl); (· exact rfl); (· exact rfl); (· (first | nofun | assumption)); (· (repeat' constructor))))))) | apply S_callQ (f := 31) | apply implRelayerFault_cv | exact viewL_nil | apply viewL_cons | (apply View.pure; exact PureC.out) | exact FlatC.out | exact gt_any rfl | exact gts_nil | (apply gts_cons; (· exact gt_any rfl)) | exact okCells_of rfl rfl | assumption | exact rfl | fail)
    all_goals simp [dueCode, dueVal, h]

end Go.Proofs.Ytgakkecaflppfaa
