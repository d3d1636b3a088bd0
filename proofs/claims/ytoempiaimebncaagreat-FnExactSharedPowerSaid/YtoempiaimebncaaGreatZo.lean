/- Powers of those who voted. -/
import Derived.Test.YtoempiaimebncaaGreatZn
set_option maxRecDepth 100000
set_option maxHeartbeats 3200000
set_option linter.unusedSimpArgs false
set_option linter.unusedVariables false
namespace Go.Proofs.YtoempiaimebncaaGreat
open Go.Av
attribute [local irreducible] T thenQ blockQ againQ againS WX retV retR Gt Gts GtsP okCells CV CR Av.Pure
attribute [local irreducible] sha putN packL setD signL hbD

theorem votGo_ok (vs : List Vld) (m : List UInt8) (l : List Vot) : ∀ (n i : Nat), votGo vs m l n i = 0 → ∀ j, i ≤ j → j < i + n → votStep vs m l j = 0
  | 0, i, _, j, h1, h2 => by omega
  | n + 1, i, h, j, h1, h2 => by
    rw [votGo] at h
    by_cases h0 : votStep vs m l i = 0
    · rw [if_pos h0] at h
      by_cases e : j = i
      · rw [e]; exact h0
      · exact votGo_ok vs m l n (i + 1) h j (by omega) (by omega)
    · rw [if_neg h0] at h; exact absurd h h0
theorem votStep_zero {vs : List Vld} {m : List UInt8} {l : List Vot} {i : Nat} (h : votStep vs m l i = 0) : prevP l i + 1 ≤ (l.getD i Vot0).place ∧ (l.getD i Vot0).place ≤ (vs.length : Int) - 1 := by
  unfold votStep at h
  split at h
  · cases h
  · rename_i a; exact Classical.not_not.1 a
/-- What a signed head without a fault is. -/
theorem sgd_places {vs : List Vld} {s : Sgd} (h : sgdFault vs s = 0) : setFault vs = 0 ∧ s.votes.length ≤ 5 ∧ ∀ k, k < s.votes.length → 0 ≤ (s.votes.getD k Vot0).place ∧ (s.votes.getD k Vot0).place ≤ (vs.length : Int) - 1 := by
  unfold sgdFault at h
  split at h
  · rename_i a; exact absurd h a
  · rename_i a
    split at h
    · rename_i b; exact absurd h b
    · split at h
      · cases h
      · split at h
        · cases h
        · rename_i b
          have h0 := votGo_ok vs _ s.votes _ 0 h
          have hp : ∀ k, k ≤ s.votes.length → -1 ≤ prevP s.votes k := by
            intro k
            induction k with
            | zero => intro _; exact Int.le_refl _
            | succ k ih =>
              intro hk
              have := votStep_zero (h0 k (by omega) (by omega))
              have := ih (by omega)
              rw [prevP_succ]
              omega
          refine ⟨Classical.not_not.1 a, by omega, fun k hk => ?_⟩
          have h1 := votStep_zero (h0 k (by omega) (by omega))
          have h2 := hp k (by omega)
          omega

def totL (l : List Vld) : Nat → Int
  | 0 => 0
  | k + 1 => totL l k + (l.getD k Vld0).power
def votL (vs : List Vld) (l : List Vot) : Nat → Int
  | 0 => 0
  | k + 1 => votL vs l k + (vs.getD (l.getD k Vot0).place.toNat Vld0).power
theorem totL_succ (l : List Vld) (k : Nat) : totL l (k + 1) = totL l k + (l.getD k Vld0).power := rfl
theorem votL_succ (vs : List Vld) (l : List Vot) (k : Nat) : votL vs l (k + 1) = votL vs l k + (vs.getD (l.getD k Vot0).place.toNat Vld0).power := rfl
theorem power_range {vs : List Vld} (h : setFault vs = 0) {i : Nat} (hi : i < vs.length) : 1 ≤ (vs.getD i Vld0).power ∧ (vs.getD i Vld0).power ≤ 1000 := ((setFault_zero h).2.2 i hi).2.1

theorem totalPower_cv (vs : List Vld) (h : setFault vs = 0) : CV Tryz.prog 45 [vldAS vs] (· = .int .i64 (totL vs vs.length)) := by
  refine CV_intro tyOk Tryz.func45 (by kernel_rfl) rfl 18 rfl (by simp) [.tmp 2] rfl ?_
  intro w0 ok0
  have hml : (vs.map vldA).length = vs.length := by simp
  obtain ⟨h1, h5, _⟩ := setFault_zero h
  repeat' (first | refine T_seq ?_ | refine N_then ?_ | refine T_regX tyOk ?_ | refine S_nil ?_ | refine T_block ?_ | apply S_move | apply S_assign | (apply S_len_ls; (· exact rfl); (· exact gt_any rfl)) | exact gt_any rfl | exact rfl | fail)
  refine T_roundsS (α := Nat) (fun k => ⟨[(3, .int .i64 (totL vs k)), (6, vldAS vs), (7, .int .i64 (vs.map vldA).length), (8, .int .i64 k)], [], 0⟩)
    (fun k => vs.length - k) (fun k => k ≤ vs.length ∧ 0 ≤ totL vs k ∧ totL vs k ≤ 1000 * (k : Int)) 0 ((weak_of (by repeat' (first | exact keepE_nil | refine keepE_cons rfl ?_)) (by repeat' (first | exact keepB_nil | refine keepB_cons (by first | rfl | exact congrArg (fun l => some (Box.mk l _ _ _)) hset) ?_)) (Nat.le_refl _))).sub ⟨by omega, by simp [totL, votL], by simp [totL, votL]⟩ ?_
  rintro k ⟨hk, hb0, hb1⟩
  by_cases hkl : k < vs.length
  · have d4 : decide ((k : Int) < ((vs.map vldA).length : Int)) = true := decide_eq_true (by omega)
    have hget := map_getD vldA vs Vld0 (k := k) (by omega)
    have hw : IntKind.wrap .i64 ((k : Int) + 1) = ((k + 1 : Nat) : Int) := by rw [wrap_i64 (by omega) (by omega)]; omega
    have hp := power_range h hkl
    have hs := totL_succ vs k
    generalize vs.getD k Vld0 = v at *
    have w1 : IntKind.wrap .i64 (totL vs k + v.power) = totL vs (k + 1) := by rw [hs]; exact wrap_i64 (by omega) (by omega)
    repeat' (first | refine T_seq ?_ | refine N_then ?_ | refine N_block ?_ | refine T_regX tyOk ?_ | refine S_nil ?_ | refine T_skip ?_ | refine T_block ?_ | (apply T_ifT; (· exact rfl); (· (first | assumption | exact rfl))) | apply S_move | apply S_assign | (apply S_loadP; (· exact rfl); (· exact gt_any rfl); (· exact rfl); (· exact rfl); (· exact rfl); (· (first | exact ⟨rfl, rfl⟩ | exact ⟨rfl, trivial⟩ | assumption))) | (apply S_loadVA; (· exact rfl); (· exact gt_any rfl); (· exact rfl); (· exact rfl)) | (apply S_fieldP; (· exact rfl); (· exact rfl); (· exact rfl); (· exact rfl); (· exact gt_any rfl)) | apply S_lss | apply S_add | apply S_alloc | (apply S_store1; (· exact rfl); (· exact gt_any rfl); (· exact rfl); (· exact rfl); (· exact rfl); (· exact rfl)) | (apply S_idxLs; (· exact rfl); (· exact rfl); (· exact gt_any rfl); (· exact gt_any rfl)) | exact gt_any rfl | exact okCells_of rfl rfl | assumption | (refine ⟨?_, ?_⟩ <;> omega) | exact rfl | fail)
    exact N_againS (k + 1) (sub_drop (by repeat' (first | exact keepE_nil | refine keepE_cons rfl ?_)) (by repeat' (first | exact keepB_nil | refine keepB_cons rfl ?_)) (by repeat' (first | exact lowE_nil | apply lowE_cons | exact Low.sl _ _ _ _ (by decide) | exact Low.ptr _ _ _ (by decide) | (apply Low.pure; (first | exact PureC.out | exact PureLC.out | assumption)) | exact lowL_nil | apply lowL_cons | apply low_agg | apply low_tup)) (by repeat' (first | exact lowB_nil | refine lowB_cons (by decide) (by (apply PureB.low; exact PureEC.out)) ?_)) (Nat.zero_le _)) ⟨by omega, by omega, by omega⟩ (by omega)
  · have d4 : decide ((k : Int) < ((vs.map vldA).length : Int)) = false := decide_eq_false (by omega)
    obtain rfl : k = vs.length := by omega
    repeat' (first | refine T_seq ?_ | refine N_then ?_ | refine N_thenE ?_ | refine N_blockE ?_ | refine N_againSE ?_ | refine T_regX tyOk ?_ | refine S_nil ?_ | refine T_ret ?_ | refine T_exit ?_ | (apply E_tmp; (· exact rfl); (· (repeat' (first | exact pure_int _ _ | exact pure_bool _ | exact pure_str _); done))) | (apply T_ifF; (· exact rfl); (· (first | assumption | exact rfl))) | apply S_move | apply S_assign | apply S_lss | exact gt_any rfl | exact rfl | fail)

theorem l7Total_cv (vs : List Vld) (h : setFault vs = 0) : CV Tryz.prog 41 [vldAS vs] (· = .int .i64 (totL vs vs.length)) := by
  refine CV_intro tyOk Tryz.func41 (by kernel_rfl) rfl 19 rfl (by simp) [.tmp 2] rfl ?_
  intro w0 ok0
  have hml : (vs.map vldA).length = vs.length := by simp
  obtain ⟨h1, h5, _⟩ := setFault_zero h
  repeat' (first | refine T_seq ?_ | refine N_then ?_ | refine T_regX tyOk ?_ | refine S_nil ?_ | refine T_block ?_ | apply S_assign | exact gt_any rfl | exact rfl | fail)
  refine T_roundsS (α := Nat) (fun k => ⟨[(0, vldAS vs), (3, .int .i64 (totL vs k)), (4, .int .i64 k)], [], 0⟩)
    (fun k => vs.length - k) (fun k => k ≤ vs.length ∧ 0 ≤ totL vs k ∧ totL vs k ≤ 1000 * (k : Int)) 0 ((weak_of (by repeat' (first | exact keepE_nil | refine keepE_cons rfl ?_)) (by repeat' (first | exact keepB_nil | refine keepB_cons (by first | rfl | exact congrArg (fun l => some (Box.mk l _ _ _)) hset) ?_)) (Nat.le_refl _))).sub ⟨by omega, by simp [totL, votL], by simp [totL, votL]⟩ ?_
  rintro k ⟨hk, hb0, hb1⟩
  by_cases hkl : k < vs.length
  · have d4 : decide ((k : Int) < ((vs.map vldA).length : Int)) = true := decide_eq_true (by omega)
    have hget := map_getD vldA vs Vld0 (k := k) (by omega)
    have hw : IntKind.wrap .i64 ((k : Int) + 1) = ((k + 1 : Nat) : Int) := by rw [wrap_i64 (by omega) (by omega)]; omega
    have hp := power_range h hkl
    have hs := totL_succ vs k
    generalize vs.getD k Vld0 = v at *
    have w1 : IntKind.wrap .i64 (totL vs k + v.power) = totL vs (k + 1) := by rw [hs]; exact wrap_i64 (by omega) (by omega)
    repeat' (first | refine T_seq ?_ | refine N_then ?_ | refine N_block ?_ | refine T_regX tyOk ?_ | refine S_nil ?_ | refine T_skip ?_ | refine T_block ?_ | (apply T_ifT; (· exact rfl); (· (first | assumption | exact rfl))) | apply S_move | apply S_assign | (apply S_loadV; (· exact rfl); (· exact gt_any rfl); (· exact rfl); (· (first | exact ⟨rfl, rfl⟩ | exact ⟨rfl, trivial⟩ | assumption))) | (apply S_fieldV; (· exact rfl); (· exact rfl); (· exact rfl); (· exact rfl); (· exact gt_any rfl)) | apply S_lss | apply S_add | (apply S_len_ls; (· exact rfl); (· exact gt_any rfl)) | (apply S_idxLs; (· exact rfl); (· exact rfl); (· exact gt_any rfl); (· exact gt_any rfl)) | exact gt_any rfl | assumption | (refine ⟨?_, ?_⟩ <;> omega) | exact rfl | fail)
    exact N_againS (k + 1) ((weak_of (by repeat' (first | exact keepE_nil | refine keepE_cons rfl ?_)) (by repeat' (first | exact keepB_nil | refine keepB_cons (by first | rfl | exact congrArg (fun l => some (Box.mk l _ _ _)) hset) ?_)) (Nat.le_refl _))).sub ⟨by omega, by omega, by omega⟩ (by omega)
  · have d4 : decide ((k : Int) < ((vs.map vldA).length : Int)) = false := decide_eq_false (by omega)
    obtain rfl : k = vs.length := by omega
    repeat' (first | refine T_seq ?_ | refine N_then ?_ | refine N_thenE ?_ | refine N_blockE ?_ | refine N_againSE ?_ | refine T_regX tyOk ?_ | refine S_nil ?_ | refine T_ret ?_ | refine T_exit ?_ | (apply E_tmp; (· exact rfl); (· (repeat' (first | exact pure_int _ _ | exact pure_bool _ | exact pure_str _); done))) | (apply T_ifF; (· exact rfl); (· (first | assumption | exact rfl))) | apply S_move | apply S_assign | apply S_lss | (apply S_len_ls; (· exact rfl); (· exact gt_any rfl)) | exact gt_any rfl | exact rfl | fail)

theorem votedPower_cv (vs : List Vld) (s : Sgd) (h : sgdFault vs s = 0) : CV Tryz.prog 40 [vldAS vs, sgdA s] (· = .int .i64 (votL vs s.votes s.votes.length)) := by
  refine CV_intro tyOk Tryz.func40 (by kernel_rfl) rfl 25 rfl (by simp) [.tmp 4] rfl ?_
  intro w0 ok0
  have hvl : (vs.map vldA).length = vs.length := by simp
  have hml : (s.votes.map votA).length = s.votes.length := by simp
  obtain ⟨h1, h5, hpl⟩ := sgd_places h
  repeat' (first | refine T_seq ?_ | refine N_then ?_ | refine T_regX tyOk ?_ | refine S_nil ?_ | refine T_block ?_ | apply S_move | apply S_assign | (apply S_loadP; (· exact rfl); (· exact gt_any rfl); (· exact rfl); (· exact rfl); (· exact rfl); (· (first | exact ⟨rfl, rfl⟩ | exact ⟨rfl, trivial⟩ | assumption))) | (apply S_fieldP; (· exact rfl); (· exact rfl); (· exact rfl); (· exact rfl); (· exact gt_any rfl)) | (apply S_len_ls; (· exact rfl); (· exact gt_any rfl)) | apply S_box | exact gt_any rfl | exact okCells_of rfl rfl | exact rfl | fail)
  refine T_roundsS (α := Nat) (fun k => ⟨[(0, vldAS vs), (5, .int .i64 (votL vs s.votes k)), (9, votAS s.votes), (10, .int .i64 (s.votes.map votA).length), (11, .int .i64 k)], [], 0⟩)
    (fun k => s.votes.length - k) (fun k => k ≤ s.votes.length ∧ 0 ≤ votL vs s.votes k ∧ votL vs s.votes k ≤ 1000 * (k : Int)) 0 (sub_drop (by repeat' (first | exact keepE_nil | refine keepE_cons rfl ?_)) (by repeat' (first | exact keepB_nil | refine keepB_cons rfl ?_)) (by repeat' (first | exact lowE_nil | apply lowE_cons | exact Low.sl _ _ _ _ (by decide) | exact Low.ptr _ _ _ (by decide) | (apply Low.pure; (first | exact PureC.out | exact PureLC.out | assumption)) | exact lowL_nil | apply lowL_cons | apply low_agg | apply low_tup)) (by repeat' (first | exact lowB_nil | refine lowB_cons (by decide) (by (apply PureB.low; exact PureEC.out)) ?_)) (Nat.zero_le _)) ⟨by omega, by simp [totL, votL], by simp [totL, votL]⟩ ?_
  rintro k ⟨hk, hb0, hb1⟩
  by_cases hkl : k < s.votes.length
  · have d4 : decide ((k : Int) < ((s.votes.map votA).length : Int)) = true := decide_eq_true (by omega)
    have hget := map_getD votA s.votes Vot0 (k := k) (by omega)
    have hw : IntKind.wrap .i64 ((k : Int) + 1) = ((k + 1 : Nat) : Int) := by rw [wrap_i64 (by omega) (by omega)]; omega
    have hs := votL_succ vs s.votes k
    obtain ⟨g1, g2⟩ := hpl k hkl
    generalize s.votes.getD k Vot0 = v at *
    have hlt : v.place.toNat < vs.length := by omega
    have hpe : ((v.place.toNat : Nat) : Int) = v.place := by omega
    have hget2 := map_getD vldA vs Vld0 (k := v.place.toNat) (by omega)
    rw [hpe] at hget2
    have hp := power_range h1 hlt
    generalize vs.getD v.place.toNat Vld0 = u at *
    have w1 : IntKind.wrap .i64 (votL vs s.votes k + u.power) = votL vs s.votes (k + 1) := by rw [hs]; exact wrap_i64 (by omega) (by omega)
    repeat' (first | refine T_seq ?_ | refine N_then ?_ | refine N_block ?_ | refine T_regX tyOk ?_ | refine S_nil ?_ | refine T_skip ?_ | refine T_block ?_ | (apply T_ifT; (· exact rfl); (· (first | assumption | exact rfl))) | apply S_move | apply S_assign | (apply S_loadP; (· exact rfl); (· exact gt_any rfl); (· exact rfl); (· exact rfl); (· exact rfl); (· (first | exact ⟨rfl, rfl⟩ | exact ⟨rfl, trivial⟩ | assumption))) | (apply S_loadV; (· exact rfl); (· exact gt_any rfl); (· exact rfl); (· (first | exact ⟨rfl, rfl⟩ | exact ⟨rfl, trivial⟩ | assumption))) | (apply S_loadVA; (· exact rfl); (· exact gt_any rfl); (· exact rfl); (· exact rfl)) | (apply S_fieldP; (· exact rfl); (· exact rfl); (· exact rfl); (· exact rfl); (· exact gt_any rfl)) | (apply S_fieldV; (· exact rfl); (· exact rfl); (· exact rfl); (· exact rfl); (· exact gt_any rfl)) | apply S_lss | apply S_add | apply S_alloc | (apply S_store1; (· exact rfl); (· exact gt_any rfl); (· exact rfl); (· exact rfl); (· exact rfl); (· exact rfl)) | (apply S_idxLs; (· exact rfl); (· exact rfl); (· exact gt_any rfl); (· exact gt_any rfl)) | exact gt_any rfl | exact okCells_of rfl rfl | assumption | (refine ⟨?_, ?_⟩ <;> omega) | exact rfl | fail)
    exact N_againS (k + 1) (sub_drop (by repeat' (first | exact keepE_nil | refine keepE_cons rfl ?_)) (by repeat' (first | exact keepB_nil | refine keepB_cons rfl ?_)) (by repeat' (first | exact lowE_nil | apply lowE_cons | exact Low.sl _ _ _ _ (by decide) | exact Low.ptr _ _ _ (by decide) | (apply Low.pure; (first | exact PureC.out | exact PureLC.out | assumption)) | exact lowL_nil | apply lowL_cons | apply low_agg | apply low_tup)) (by repeat' (first | exact lowB_nil | refine lowB_cons (by decide) (by (apply PureB.low; exact PureEC.out)) ?_)) (Nat.zero_le _)) ⟨by omega, by omega, by omega⟩ (by omega)
  · have d4 : decide ((k : Int) < ((s.votes.map votA).length : Int)) = false := decide_eq_false (by omega)
    obtain rfl : k = s.votes.length := by omega
    repeat' (first | refine T_seq ?_ | refine N_then ?_ | refine N_thenE ?_ | refine N_blockE ?_ | refine N_againSE ?_ | refine T_regX tyOk ?_ | refine S_nil ?_ | refine T_ret ?_ | refine T_exit ?_ | (apply E_tmp; (· exact rfl); (· (repeat' (first | exact pure_int _ _ | exact pure_bool _ | exact pure_str _); done))) | (apply T_ifF; (· exact rfl); (· (first | assumption | exact rfl))) | apply S_move | apply S_assign | apply S_lss | exact gt_any rfl | exact rfl | fail)

theorem l7Voted_cv (vs : List Vld) (s : Sgd) (h : sgdFault vs s = 0) : CV Tryz.prog 39 [vldAS vs, sgdA s] (· = .int .i64 (votL vs s.votes s.votes.length)) := by
  refine CV_intro tyOk Tryz.func39 (by kernel_rfl) rfl 27 rfl (by simp) [.tmp 4] rfl ?_
  intro w0 ok0
  have hvl : (vs.map vldA).length = vs.length := by simp
  have hml : (s.votes.map votA).length = s.votes.length := by simp
  obtain ⟨h1, h5, hpl⟩ := sgd_places h
  repeat' (first | refine T_seq ?_ | refine N_then ?_ | refine T_regX tyOk ?_ | refine S_nil ?_ | refine T_block ?_ | apply S_assign | apply S_box | exact gt_any rfl | exact okCells_of rfl rfl | exact rfl | fail)
  refine T_roundsS (α := Nat) (fun k => ⟨[(0, vldAS vs), (3, .ptr 0 0 0), (5, .int .i64 (votL vs s.votes k)), (6, .int .i64 k)], [(0, some ⟨[sgdA s], 6, false, false⟩)], 1⟩)
    (fun k => s.votes.length - k) (fun k => k ≤ s.votes.length ∧ 0 ≤ votL vs s.votes k ∧ votL vs s.votes k ≤ 1000 * (k : Int)) 0 ((weak_of (by repeat' (first | exact keepE_nil | refine keepE_cons rfl ?_)) (by repeat' (first | exact keepB_nil | refine keepB_cons (by first | rfl | exact congrArg (fun l => some (Box.mk l _ _ _)) hset) ?_)) (Nat.le_refl _))).sub ⟨by omega, by simp [totL, votL], by simp [totL, votL]⟩ ?_
  rintro k ⟨hk, hb0, hb1⟩
  by_cases hkl : k < s.votes.length
  · have d4 : decide ((k : Int) < ((s.votes.map votA).length : Int)) = true := decide_eq_true (by omega)
    have hget := map_getD votA s.votes Vot0 (k := k) (by omega)
    have hw : IntKind.wrap .i64 ((k : Int) + 1) = ((k + 1 : Nat) : Int) := by rw [wrap_i64 (by omega) (by omega)]; omega
    have hs := votL_succ vs s.votes k
    obtain ⟨g1, g2⟩ := hpl k hkl
    generalize s.votes.getD k Vot0 = v at *
    have hlt : v.place.toNat < vs.length := by omega
    have hpe : ((v.place.toNat : Nat) : Int) = v.place := by omega
    have hget2 := map_getD vldA vs Vld0 (k := v.place.toNat) (by omega)
    rw [hpe] at hget2
    have hp := power_range h1 hlt
    generalize vs.getD v.place.toNat Vld0 = u at *
    have w1 : IntKind.wrap .i64 (votL vs s.votes k + u.power) = votL vs s.votes (k + 1) := by rw [hs]; exact wrap_i64 (by omega) (by omega)
    repeat' (first | refine T_seq ?_ | refine N_then ?_ | refine N_block ?_ | refine T_regX tyOk ?_ | refine S_nil ?_ | refine T_skip ?_ | refine T_block ?_ | (apply T_ifT; (· exact rfl); (· (first | assumption | exact rfl))) | apply S_move | apply S_assign | (apply S_loadP; (· exact rfl); (· exact gt_any rfl); (· exact rfl); (· exact rfl); (· exact rfl); (· (first | exact ⟨rfl, rfl⟩ | exact ⟨rfl, trivial⟩ | assumption))) | (apply S_loadV; (· exact rfl); (· exact gt_any rfl); (· exact rfl); (· (first | exact ⟨rfl, rfl⟩ | exact ⟨rfl, trivial⟩ | assumption))) | (apply S_fieldP; (· exact rfl); (· exact rfl); (· exact rfl); (· exact rfl); (· exact gt_any rfl)) | (apply S_fieldV; (· exact rfl); (· exact rfl); (· exact rfl); (· exact rfl); (· exact gt_any rfl)) | apply S_lss | apply S_add | (apply S_len_ls; (· exact rfl); (· exact gt_any rfl)) | (apply S_idxLs; (· exact rfl); (· exact rfl); (· exact gt_any rfl); (· exact gt_any rfl)) | exact gt_any rfl | assumption | (refine ⟨?_, ?_⟩ <;> omega) | exact rfl | fail)
    exact N_againS (k + 1) ((weak_of (by repeat' (first | exact keepE_nil | refine keepE_cons rfl ?_)) (by repeat' (first | exact keepB_nil | refine keepB_cons (by first | rfl | exact congrArg (fun l => some (Box.mk l _ _ _)) hset) ?_)) (Nat.le_refl _))).sub ⟨by omega, by omega, by omega⟩ (by omega)
  · have d4 : decide ((k : Int) < ((s.votes.map votA).length : Int)) = false := decide_eq_false (by omega)
    obtain rfl : k = s.votes.length := by omega
    repeat' (first | refine T_seq ?_ | refine N_then ?_ | refine N_thenE ?_ | refine N_blockE ?_ | refine N_againSE ?_ | refine T_regX tyOk ?_ | refine S_nil ?_ | refine T_ret ?_ | refine T_exit ?_ | (apply E_tmp; (· exact rfl); (· (repeat' (first | exact pure_int _ _ | exact pure_bool _ | exact pure_str _); done))) | (apply T_ifF; (· exact rfl); (· (first | assumption | exact rfl))) | apply S_move | apply S_assign | (apply S_loadP; (· exact rfl); (· exact gt_any rfl); (· exact rfl); (· exact rfl); (· exact rfl); (· (first | exact ⟨rfl, rfl⟩ | exact ⟨rfl, trivial⟩ | assumption))) | (apply S_fieldP; (· exact rfl); (· exact rfl); (· exact rfl); (· exact rfl); (· exact gt_any rfl)) | apply S_lss | (apply S_len_ls; (· exact rfl); (· exact gt_any rfl)) | exact gt_any rfl | exact rfl | fail)

theorem totL_range {vs : List Vld} (h : setFault vs = 0) : ∀ k, k ≤ vs.length → 0 ≤ totL vs k ∧ totL vs k ≤ 1000 * (k : Int)
  | 0, _ => ⟨by simp [totL], by simp [totL]⟩
  | k + 1, hk => by
    have h1 := totL_range h k (by omega)
    have h2 := power_range h (i := k) (by omega)
    rw [totL_succ]
    omega
theorem votL_range {vs : List Vld} {s : Sgd} (h : sgdFault vs s = 0) : ∀ k, k ≤ s.votes.length → 0 ≤ votL vs s.votes k ∧ votL vs s.votes k ≤ 1000 * (k : Int)
  | 0, _ => ⟨by simp [votL], by simp [votL]⟩
  | k + 1, hk => by
    have h1 := votL_range h k (by omega)
    obtain ⟨g0, g1, g2⟩ := sgd_places h
    have h3 := g2 k (by omega)
    have h2 := power_range g0 (i := (s.votes.getD k Vot0).place.toNat) (by omega)
    rw [votL_succ]
    omega

attribute [local irreducible] votL totL sgdFault

def mostL (vs : List Vld) (s : Sgd) : Bool := decide (sgdFault vs s = 0) && decide (2 * totL vs vs.length < 3 * votL vs s.votes s.votes.length)
def vpV (vs : List Vld) (s : Sgd) : Int := if sgdFault vs s = 0 then votL vs s.votes s.votes.length else 0

theorem mostVoted_cv (vs : List Vld) (s : Sgd) (h : sgdFault vs s = 0) : CV Tryz.prog 42 [vldAS vs, sgdA s] (· = .bool (decide (2 * totL vs vs.length < 3 * votL vs s.votes s.votes.length))) := by
  refine CV_intro tyOk Tryz.func42 (by kernel_rfl) rfl 13 rfl (by simp) [.tmp 4] rfl ?_
  intro w0 ok0
  obtain ⟨h1, h5, hpl⟩ := sgd_places h
  obtain ⟨_, h6, _⟩ := setFault_zero h1
  have c0 := votedPower_cv vs s h
  have c1 := totalPower_cv vs h1
  have r0 := totL_range h1 vs.length (Nat.le_refl _)
  have r1 := votL_range h s.votes.length (Nat.le_refl _)
  have w1 : IntKind.wrap .i64 (3 * votL vs s.votes s.votes.length) = 3 * votL vs s.votes s.votes.length := wrap_i64 (by omega) (by omega)
  have w2 : IntKind.wrap .i64 (2 * totL vs vs.length) = 2 * totL vs vs.length := wrap_i64 (by omega) (by omega)
  repeat' (first | refine T_seq ?_ | refine N_then ?_ | refine T_regX tyOk ?_ | refine S_nil ?_ | refine T_ret ?_ | (apply E_tmp; (· exact rfl); (· (repeat' (first | exact pure_int _ _ | exact pure_bool _ | exact pure_str _); done))) | apply S_move | apply S_assign | (apply S_loadW; (· exact rfl); (· exact gt_any rfl); (· exact rfl); (· exact rfl); (· exact rfl); (· exact rfl); (· exact rfl); (· exact rfl)) | apply S_gtr | apply S_mul | apply S_box | apply S_callQ (f := 40) | apply c0 | apply S_callQ (f := 45) | apply c1 | exact viewL_nil | apply viewL_cons | (apply View.pure; exact PureC.out) | exact FlatC.out | exact gt_any rfl | exact gts_nil | (apply gts_cons; (· exact gt_any rfl)) | exact okCells_of rfl rfl | assumption | exact rfl | fail)

theorem implMostVoted_cv (vs : List Vld) (s : Sgd) (hv : vs.length ≤ 1048576) (hs : SgdW s ≤ 1048576) : CV Tryz.prog 19 [vldAS vs, sgdA s] (· = .bool (mostL vs s)) := by
  refine CV_intro tyOk Tryz.func19 (by kernel_rfl) rfl 14 rfl (by simp) [.tmp 4] rfl ?_
  intro w0 ok0
  have c0 := sgdFault_cv vs s hv hs
  unfold mostL
  by_cases g : sgdFault vs s = 0
  · have c1 := mostVoted_cv vs s g
    rw [decide_eq_true g, Bool.true_and]
    rw [g] at c0
    repeat' (first | refine T_seq ?_ | refine N_then ?_ | refine T_regX tyOk ?_ | refine S_nil ?_ | refine T_ret ?_ | (apply E_tmp; (· exact rfl); (· (repeat' (first | exact pure_int _ _ | exact pure_bool _ | exact pure_str _); done))) | (apply S_gt; (· exact rfl); (· exact rfl); (· (first | assumption | exact rfl))) | apply S_move | apply S_assign | (apply S_pickT; (· exact gt_any rfl); (· (first | assumption | exact rfl))) | (apply S_loadW; (· exact rfl); (· exact gt_any rfl); (· exact rfl); (· exact rfl); (· exact rfl); (· exact rfl); (· exact rfl); (· exact rfl)) | (apply S_eql; (· exact gt_any rfl); (· exact gt_any rfl)) | apply S_box | apply S_callQ (f := 33) | apply c0 | apply S_callQ (f := 42) | apply c1 | exact viewL_nil | apply viewL_cons | (apply View.pure; exact PureC.out) | exact FlatC.out | exact gt_any rfl | exact gts_nil | (apply gts_cons; (· exact gt_any rfl)) | exact okCells_of rfl rfl | exact rfl | fail)
  · have d0 : decide (sgdFault vs s = 0) = false := decide_eq_false g
    rw [d0, Bool.false_and]
    repeat' (first | refine T_seq ?_ | refine N_then ?_ | refine T_regX tyOk ?_ | refine S_nil ?_ | refine T_ret ?_ | (apply E_tmp; (· exact rfl); (· (repeat' (first | exact pure_int _ _ | exact pure_bool _ | exact pure_str _); done))) | (apply S_gtF'; (· exact rfl); (· exact rfl); (· exact rfl); (· (first | assumption | exact rfl))) | apply S_move | apply S_assign | (apply S_pickF; (· exact gt_any rfl); (· (first | assumption | exact rfl))) | (apply S_loadW; (· exact rfl); (· exact gt_any rfl); (· exact rfl); (· exact rfl); (· exact rfl); (· exact rfl); (· exact rfl); (· exact rfl)) | (apply S_eql; (· exact gt_any rfl); (· exact gt_any rfl)) | apply S_box | apply S_callQ (f := 33) | apply c0 | exact viewL_nil | apply viewL_cons | (apply View.pure; exact PureC.out) | exact FlatC.out | exact gt_any rfl | exact gts_nil | (apply gts_cons; (· exact gt_any rfl)) | exact okCells_of rfl rfl | exact rfl | fail)

theorem specMostVoted_cv (vs : List Vld) (s : Sgd) (hv : vs.length ≤ 1048576) (hs : SgdW s ≤ 1048576) (hk : ∀ v ∈ vs, v.key.length ≤ 1048576) : CV Tryz.prog 18 [vldAS vs, sgdA s] (· = .bool (mostL vs s)) := by
  refine CV_intro tyOk Tryz.func18 (by kernel_rfl) rfl 19 rfl (by simp) [.tmp 4] rfl ?_
  intro w0 ok0
  have c0 := specSgdFault_cv vs s hv hs hk
  unfold mostL
  by_cases g : sgdFault vs s = 0
  · obtain ⟨h1, h5, hpl⟩ := sgd_places g
    obtain ⟨_, h6, _⟩ := setFault_zero h1
    have c1 := l7Voted_cv vs s g
    have c2 := l7Total_cv vs h1
    have r0 := totL_range h1 vs.length (Nat.le_refl _)
    have r1 := votL_range g s.votes.length (Nat.le_refl _)
    have w1 : IntKind.wrap .i64 (3 * votL vs s.votes s.votes.length) = 3 * votL vs s.votes s.votes.length := wrap_i64 (by omega) (by omega)
    have w2 : IntKind.wrap .i64 (2 * totL vs vs.length) = 2 * totL vs vs.length := wrap_i64 (by omega) (by omega)
    rw [decide_eq_true g, Bool.true_and]
    rw [g] at c0
    repeat' (first | refine T_seq ?_ | refine N_then ?_ | refine T_regX tyOk ?_ | refine S_nil ?_ | refine T_ret ?_ | (apply E_tmp; (· exact rfl); (· (repeat' (first | exact pure_int _ _ | exact pure_bool _ | exact pure_str _); done))) | (apply S_gt; (· exact rfl); (· exact rfl); (· (first | assumption | exact rfl))) | apply S_move | apply S_assign | (apply S_pickT; (· exact gt_any rfl); (· (first | assumption | exact rfl))) | (apply S_loadW; (· exact rfl); (· exact gt_any rfl); (· exact rfl); (· exact rfl); (· exact rfl); (· exact rfl); (· exact rfl); (· exact rfl)) | apply S_gtr | (apply S_eql; (· exact gt_any rfl); (· exact gt_any rfl)) | apply S_mul | apply S_box | apply S_callQ (f := 27) | apply c0 | apply S_callQ (f := 39) | apply c1 | apply S_callQ (f := 41) | apply c2 | exact viewL_nil | apply viewL_cons | (apply View.pure; exact PureC.out) | exact FlatC.out | exact gt_any rfl | exact gts_nil | (apply gts_cons; (· exact gt_any rfl)) | exact okCells_of rfl rfl | assumption | exact rfl | fail)
  · have d0 : decide (sgdFault vs s = 0) = false := decide_eq_false g
    rw [d0, Bool.false_and]
    repeat' (first | refine T_seq ?_ | refine N_then ?_ | refine T_regX tyOk ?_ | refine S_nil ?_ | refine T_ret ?_ | (apply E_tmp; (· exact rfl); (· (repeat' (first | exact pure_int _ _ | exact pure_bool _ | exact pure_str _); done))) | (apply S_gtF'; (· exact rfl); (· exact rfl); (· exact rfl); (· (first | assumption | exact rfl))) | apply S_move | apply S_assign | (apply S_pickF; (· exact gt_any rfl); (· (first | assumption | exact rfl))) | (apply S_loadW; (· exact rfl); (· exact gt_any rfl); (· exact rfl); (· exact rfl); (· exact rfl); (· exact rfl); (· exact rfl); (· exact rfl)) | (apply S_eql; (· exact gt_any rfl); (· exact gt_any rfl)) | apply S_box | apply S_callQ (f := 27) | apply c0 | exact viewL_nil | apply viewL_cons | (apply View.pure; exact PureC.out) | exact FlatC.out | exact gt_any rfl | exact gts_nil | (apply gts_cons; (· exact gt_any rfl)) | exact okCells_of rfl rfl | exact rfl | fail)

theorem implVotedPower_cv (vs : List Vld) (s : Sgd) (hv : vs.length ≤ 1048576) (hs : SgdW s ≤ 1048576) : CV Tryz.prog 17 [vldAS vs, sgdA s] (· = /-flat-/ .agg [.int .i64 (sgdFault vs s), .int .i64 (vpV vs s)]) := by
  refine CV_intro tyOk Tryz.func17 (by kernel_rfl) rfl 17 rfl (by simp) [.cell 4 32] rfl ?_
  intro w0 ok0
  have c0 := sgdFault_cv vs s hv hs
  by_cases g : sgdFault vs s = 0
  · have c1 := votedPower_cv vs s g
    rw [show vpV vs s = votL vs s.votes s.votes.length from if_pos g, g]
    rw [g] at c0
    have d0 : (!decide ((0 : Int) = 0)) = false := rfl
    repeat' (first | refine T_seq ?_ | refine N_then ?_ | refine T_regX tyOk ?_ | refine S_nil ?_ | refine T_skip ?_ | refine T_ret ?_ | (apply E_X <;> repeat' (first | exact resL_nil | (apply resL_tmp; (· exact rfl)) | (apply resL_cell; (· exact rfl); (· exact rfl); (· exact rfl); (· exact rfl); (· exact rfl); (· exact rfl)) | (apply resL_arr; (· exact rfl); (· exact rfl); (· exact rfl); (· exact rfl); (· (first | assumption | exact rfl))) | exact viewL_nil | apply viewL_cons | apply view_nothingE | (apply view_slE; (· exact rfl); (· first | exact rfl | assumption | (simp [bA_length]; done) | (simp [bA_length]; omega) | omega); (· exact PureEC.out)) | (apply view_loose; (· exact PureEC.out)) | apply view_agg | apply view_tup | (apply View.ofEq; (· exact PureC.out)) | exact rfl)) | (apply T_ifF; (· exact rfl); (· (first | assumption | exact rfl))) | apply S_move | apply S_assign | (apply S_loadW; (· exact rfl); (· exact gt_any rfl); (· exact rfl); (· exact rfl); (· exact rfl); (· exact rfl); (· exact rfl); (· exact rfl)) | (apply S_neq; (· exact gt_any rfl); (· exact gt_any rfl)) | apply S_alloc | apply S_box | (apply S_store1; (· exact rfl); (· exact gt_any rfl); (· exact rfl); (· exact rfl); (· exact rfl); (· exact rfl)) | (apply S_build; (· exact rfl); (· exact rfl); (· exact rfl); (· (repeat' (first | exact gtsP_nil | exact gt_any rfl | apply gtsP_cons))); (· (repeat' (first | exact BuildR.nil _ | (apply BuildR.cons; (· exact rfl); (· exact rfl); (· exact rfl); (· exact rfl); (· (first | nofun | assumption)); (· (repeat' constructor))))))) | apply S_callQ (f := 33) | apply c0 | apply S_callQ (f := 40) | apply c1 | exact viewL_nil | apply viewL_cons | (apply View.pure; exact PureC.out) | exact FlatC.out | exact gt_any rfl | exact gts_nil | (apply gts_cons; (· exact gt_any rfl)) | exact okCells_of rfl rfl | exact rfl | fail)
  · rw [show vpV vs s = 0 from if_neg g]
    have d0 : (!decide (sgdFault vs s = 0)) = true := by rw [decide_eq_false g]; rfl
    repeat' (first | refine T_seq ?_ | refine N_then ?_ | refine N_thenR ?_ | refine T_regX tyOk ?_ | refine S_nil ?_ | refine T_ret ?_ | (apply E_X <;> repeat' (first | exact resL_nil | (apply resL_tmp; (· exact rfl)) | (apply resL_cell; (· exact rfl); (· exact rfl); (· exact rfl); (· exact rfl); (· exact rfl); (· exact rfl)) | (apply resL_arr; (· exact rfl); (· exact rfl); (· exact rfl); (· exact rfl); (· (first | assumption | exact rfl))) | exact viewL_nil | apply viewL_cons | apply view_nothingE | (apply view_slE; (· exact rfl); (· first | exact rfl | assumption | (simp [bA_length]; done) | (simp [bA_length]; omega) | omega); (· exact PureEC.out)) | (apply view_loose; (· exact PureEC.out)) | apply view_agg | apply view_tup | (apply View.ofEq; (· exact PureC.out)) | exact rfl)) | (apply T_ifT; (· exact rfl); (· (first | assumption | exact rfl))) | apply S_move | apply S_assign | (apply S_loadW; (· exact rfl); (· exact gt_any rfl); (· exact rfl); (· exact rfl); (· exact rfl); (· exact rfl); (· exact rfl); (· exact rfl)) | (apply S_neq; (· exact gt_any rfl); (· exact gt_any rfl)) | apply S_alloc | apply S_box | (apply S_store1; (· exact rfl); (· exact gt_any rfl); (· exact rfl); (· exact rfl); (· exact rfl); (· exact rfl)) | (apply S_build; (· exact rfl); (· exact rfl); (· exact rfl); (· (repeat' (first | exact gtsP_nil | exact gt_any rfl | apply gtsP_cons))); (· (repeat' (first | exact BuildR.nil _ | (apply BuildR.cons; (· exact rfl); (· exact rfl); (· exact rfl); (· exact rfl); (· (first | nofun | assumption)); (· (repeat' constructor))))))) | apply S_callQ (f := 33) | apply c0 | exact viewL_nil | apply viewL_cons | (apply View.pure; exact PureC.out) | exact FlatC.out | exact gt_any rfl | exact gts_nil | (apply gts_cons; (· exact gt_any rfl)) | exact okCells_of rfl rfl | exact rfl | fail)

theorem specVotedPower_cv (vs : List Vld) (s : Sgd) (hv : vs.length ≤ 1048576) (hs : SgdW s ≤ 1048576) (hk : ∀ v ∈ vs, v.key.length ≤ 1048576) : CV Tryz.prog 16 [vldAS vs, sgdA s] (· = /-flat-/ .agg [.int .i64 (sgdFault vs s), .int .i64 (vpV vs s)]) := by
  refine CV_intro tyOk Tryz.func16 (by kernel_rfl) rfl 17 rfl (by simp) [.cell 4 32] rfl ?_
  intro w0 ok0
  have c0 := specSgdFault_cv vs s hv hs hk
  by_cases g : sgdFault vs s = 0
  · have c1 := l7Voted_cv vs s g
    rw [show vpV vs s = votL vs s.votes s.votes.length from if_pos g, g]
    rw [g] at c0
    have d0 : (!decide ((0 : Int) = 0)) = false := rfl
    repeat' (first | refine T_seq ?_ | refine N_then ?_ | refine T_regX tyOk ?_ | refine S_nil ?_ | refine T_skip ?_ | refine T_ret ?_ | (apply E_X <;> repeat' (first | exact resL_nil | (apply resL_tmp; (· exact rfl)) | (apply resL_cell; (· exact rfl); (· exact rfl); (· exact rfl); (· exact rfl); (· exact rfl); (· exact rfl)) | (apply resL_arr; (· exact rfl); (· exact rfl); (· exact rfl); (· exact rfl); (· (first | assumption | exact rfl))) | exact viewL_nil | apply viewL_cons | apply view_nothingE | (apply view_slE; (· exact rfl); (· first | exact rfl | assumption | (simp [bA_length]; done) | (simp [bA_length]; omega) | omega); (· exact PureEC.out)) | (apply view_loose; (· exact PureEC.out)) | apply view_agg | apply view_tup | (apply View.ofEq; (· exact PureC.out)) | exact rfl)) | (apply T_ifF; (· exact rfl); (· (first | assumption | exact rfl))) | apply S_move | apply S_assign | (apply S_loadW; (· exact rfl); (· exact gt_any rfl); (· exact rfl); (· exact rfl); (· exact rfl); (· exact rfl); (· exact rfl); (· exact rfl)) | (apply S_neq; (· exact gt_any rfl); (· exact gt_any rfl)) | apply S_alloc | apply S_box | (apply S_store1; (· exact rfl); (· exact gt_any rfl); (· exact rfl); (· exact rfl); (· exact rfl); (· exact rfl)) | (apply S_build; (· exact rfl); (· exact rfl); (· exact rfl); (· (repeat' (first | exact gtsP_nil | exact gt_any rfl | apply gtsP_cons))); (· (repeat' (first | exact BuildR.nil _ | (apply BuildR.cons; (· exact rfl); (· exact rfl); (· exact rfl); (· exact rfl); (· (first | nofun | assumption)); (· (repeat' constructor))))))) | apply S_callQ (f := 27) | apply c0 | apply S_callQ (f := 39) | apply c1 | exact viewL_nil | apply viewL_cons | (apply View.pure; exact PureC.out) | exact FlatC.out | exact gt_any rfl | exact gts_nil | (apply gts_cons; (· exact gt_any rfl)) | exact okCells_of rfl rfl | exact rfl | fail)
  · rw [show vpV vs s = 0 from if_neg g]
    have d0 : (!decide (sgdFault vs s = 0)) = true := by rw [decide_eq_false g]; rfl
    repeat' (first | refine T_seq ?_ | refine N_then ?_ | refine N_thenR ?_ | refine T_regX tyOk ?_ | refine S_nil ?_ | refine T_ret ?_ | (apply E_X <;> repeat' (first | exact resL_nil | (apply resL_tmp; (· exact rfl)) | (apply resL_cell; (· exact rfl); (· exact rfl); (· exact rfl); (· exact rfl); (· exact rfl); (· exact rfl)) | (apply resL_arr; (· exact rfl); (· exact rfl); (· exact rfl); (· exact rfl); (· (first | assumption | exact rfl))) | exact viewL_nil | apply viewL_cons | apply view_nothingE | (apply view_slE; (· exact rfl); (· first | exact rfl | assumption | (simp [bA_length]; done) | (simp [bA_length]; omega) | omega); (· exact PureEC.out)) | (apply view_loose; (· exact PureEC.out)) | apply view_agg | apply view_tup | (apply View.ofEq; (· exact PureC.out)) | exact rfl)) | (apply T_ifT; (· exact rfl); (· (first | assumption | exact rfl))) | apply S_move | apply S_assign | (apply S_loadW; (· exact rfl); (· exact gt_any rfl); (· exact rfl); (· exact rfl); (· exact rfl); (· exact rfl); (· exact rfl); (· exact rfl)) | (apply S_neq; (· exact gt_any rfl); (· exact gt_any rfl)) | apply S_alloc | apply S_box | (apply S_store1; (· exact rfl); (· exact gt_any rfl); (· exact rfl); (· exact rfl); (· exact rfl); (· exact rfl)) | (apply S_build; (· exact rfl); (· exact rfl); (· exact rfl); (· (repeat' (first | exact gtsP_nil | exact gt_any rfl | apply gtsP_cons))); (· (repeat' (first | exact BuildR.nil _ | (apply BuildR.cons; (· exact rfl); (· exact rfl); (· exact rfl); (· exact rfl); (· (first | nofun | assumption)); (· (repeat' constructor))))))) | apply S_callQ (f := 27) | apply c0 | exact viewL_nil | apply viewL_cons | (apply View.pure; exact PureC.out) | exact FlatC.out | exact gt_any rfl | exact gts_nil | (apply gts_cons; (· exact gt_any rfl)) | exact okCells_of rfl rfl | exact rfl | fail)

end Go.Proofs.YtoempiaimebncaaGreat
