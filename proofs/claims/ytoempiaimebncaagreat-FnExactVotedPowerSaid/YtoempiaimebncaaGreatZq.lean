/- Powers that those who voted have in another set. -/
import Derived.Test.YtoempiaimebncaaGreatZo
set_option maxRecDepth 100000
set_option maxHeartbeats 3200000
set_option linter.unusedSimpArgs false
set_option linter.unusedVariables false
namespace Go.Proofs.YtoempiaimebncaaGreat
open Go.Av
attribute [local irreducible] T thenQ blockQ againQ againS WX retV retR Gt Gts GtsP okCells CV CR Av.Pure
attribute [local irreducible] sha putN packL setD signL hbD sgdFault

theorem idx_spec {α : Type} (p : α → Bool) (l : List α) (d : α) : (idxL p l = -1 ∧ ∀ m, m < l.length → p (l.getD m d) = false) ∨ ∃ i : Nat, i < l.length ∧ idxL p l = (i : Int) ∧ p (l.getD i d) = true ∧ ∀ m, m < i → p (l.getD m d) = false := by
  have key : ∀ n k, k + n = l.length → (∀ m, m < k → p (l.getD m d) = false) → (fiGo p (l.drop k) k = -1 ∧ ∀ m, m < l.length → p (l.getD m d) = false) ∨ ∃ i : Nat, i < l.length ∧ fiGo p (l.drop k) k = (i : Int) ∧ p (l.getD i d) = true ∧ ∀ m, m < i → p (l.getD m d) = false := by
    intro n
    induction n with
    | zero =>
      intro k hk hf
      left
      rw [List.drop_of_length_le (by omega)]
      exact ⟨rfl, fun m hm => hf m (by omega)⟩
    | succ n ih =>
      intro k hk hf
      rw [fiGo_step p l d (by omega)]
      by_cases h : p (l.getD k d) = true
      · rw [if_pos h]
        exact .inr ⟨k, by omega, rfl, h, hf⟩
      · rw [if_neg h]
        simp only [Bool.not_eq_true] at h
        refine ih (k + 1) (by omega) fun m hm => ?_
        by_cases e : m = k
        · rw [e]; exact h
        · exact hf m (by omega)
  exact key l.length 0 (by omega) (fun m hm => by omega)

/-- The power that a key has in a set. -/
def keyPow (os : List Vld) (key : List UInt8) : Int := if 0 ≤ idxL (hasKey key) os then (os.getD (idxL (hasKey key) os).toNat Vld0).power else 0
def inL (os : List Vld) (key : List UInt8) : Nat → Int
  | 0 => 0
  | j + 1 => inL os key j + if hasKey key (os.getD j Vld0) = true then (os.getD j Vld0).power else 0
theorem inL_succ (os : List Vld) (key : List UInt8) (j : Nat) : inL os key (j + 1) = inL os key j + if hasKey key (os.getD j Vld0) = true then (os.getD j Vld0).power else 0 := rfl
theorem inL_none {os : List Vld} {key : List UInt8} {n : Nat} (h : ∀ m, m < n → hasKey key (os.getD m Vld0) = false) : ∀ j, j ≤ n → inL os key j = 0
  | 0, _ => rfl
  | j + 1, hj => by rw [inL_succ, inL_none h j (by omega), h j (by omega), if_neg (by decide)]; rfl
theorem inL_one {os : List Vld} {key : List UInt8} {i : Nat} (hi : hasKey key (os.getD i Vld0) = true) (h : ∀ m, m < os.length → m ≠ i → hasKey key (os.getD m Vld0) = false) : ∀ j, j ≤ os.length → inL os key j = if i < j then (os.getD i Vld0).power else 0
  | 0, _ => by rw [if_neg (by omega)]; rfl
  | j + 1, hj => by
    rw [inL_succ, inL_one hi h j (by omega)]
    by_cases e : j = i
    · subst e
      rw [hi, if_pos rfl, if_neg (by omega), if_pos (by omega)]
      omega
    · rw [h j (by omega) e, if_neg (show ¬ (false = true) by decide)]
      by_cases k : i < j
      · rw [if_pos k, if_pos (by omega)]; omega
      · rw [if_neg k, if_neg (by omega)]; rfl
theorem keys_apart {os : List Vld} (h : setFault os = 0) {i j : Nat} (hij : i < j) (hj : j < os.length) : (os.getD i Vld0).key ≠ (os.getD j Vld0).key := by
  have h1 := ((setFault_zero h).2.2 j hj).2.2
  have h2 := List.any_eq_false.1 h1 (os.getD i Vld0) (by
    have hl : (os.take j).length = j := by rw [List.length_take]; omega
    rw [← getD_take os Vld0 hij]
    exact getD_mem _ _ (by omega))
  unfold hasKey at h2
  simpa using h2
theorem inL_all {os : List Vld} (h : setFault os = 0) (key : List UInt8) : inL os key os.length = keyPow os key := by
  unfold keyPow
  rcases idx_spec (hasKey key) os Vld0 with ⟨h1, h2⟩ | ⟨i, hi, h1, h2, h3⟩
  · rw [h1, if_neg (by decide)]
    exact inL_none h2 _ (Nat.le_refl _)
  · rw [h1, if_pos (by omega), Int.toNat_natCast]
    rw [inL_one h2 (fun m hm hne => ?_) _ (Nat.le_refl _), if_pos hi]
    have hik : (os.getD i Vld0).key = key := by unfold hasKey at h2; simpa using h2
    unfold hasKey
    refine decide_eq_false fun e => ?_
    rcases Nat.lt_or_gt_of_ne hne with g | g
    · exact keys_apart h g hi (by rw [e, hik])
    · exact keys_apart h g hm (by rw [e, hik])
theorem keyPow_range {os : List Vld} (h : setFault os = 0) (key : List UInt8) : 0 ≤ keyPow os key ∧ keyPow os key ≤ 1000 := by
  unfold keyPow
  rcases idx_spec (hasKey key) os Vld0 with ⟨h1, h2⟩ | ⟨i, hi, h1, h2, h3⟩
  · rw [h1, if_neg (by decide)]; decide
  · rw [h1, if_pos (by omega), Int.toNat_natCast]
    have := power_range h hi
    omega
theorem inL_range {os : List Vld} (h : setFault os = 0) (key : List UInt8) : ∀ j, j ≤ os.length → 0 ≤ inL os key j ∧ inL os key j ≤ 1000 * (j : Int)
  | 0, _ => by simp [inL]
  | j + 1, hj => by
    have h1 := inL_range h key j (by omega)
    have h2 := power_range h (i := j) (by omega)
    rw [inL_succ]
    split <;> omega

def shL (vs os : List Vld) (l : List Vot) : Nat → Int
  | 0 => 0
  | k + 1 => shL vs os l k + keyPow os (vs.getD (l.getD k Vot0).place.toNat Vld0).key
theorem shL_succ (vs os : List Vld) (l : List Vot) (k : Nat) : shL vs os l (k + 1) = shL vs os l k + keyPow os (vs.getD (l.getD k Vot0).place.toNat Vld0).key := rfl
theorem shL_zero (vs os : List Vld) (l : List Vot) : shL vs os l 0 = 0 := rfl
theorem inL_zero (os : List Vld) (key : List UInt8) : inL os key 0 = 0 := rfl

attribute [local irreducible] shL inL keyPow

theorem sharedPower_cv (vs os : List Vld) (s : Sgd) (h : sgdFault vs s = 0) (ho : setFault os = 0) : CV Tryz.prog 35 [vldAS vs, vldAS os, sgdA s] (· = .int .i64 (shL vs os s.votes s.votes.length)) := by
  refine CV_intro tyOk Tryz.func35 (by kernel_rfl) rfl 37 rfl (by simp) [.tmp 6] rfl ?_
  intro w0 ok0
  have hvl : (vs.map vldA).length = vs.length := by simp
  have hol : (os.map vldA).length = os.length := by simp
  have hml : (s.votes.map votA).length = s.votes.length := by simp
  obtain ⟨h1, h5, hpl⟩ := sgd_places h
  obtain ⟨ho1, ho5, _⟩ := setFault_zero ho
  repeat' (first | refine T_seq ?_ | refine N_then ?_ | refine T_regX tyOk ?_ | refine S_nil ?_ | refine T_block ?_ | apply S_move | apply S_assign | (apply S_loadP; (· exact rfl); (· exact gt_any rfl); (· exact rfl); (· exact rfl); (· exact rfl); (· (first | exact ⟨rfl, rfl⟩ | exact ⟨rfl, trivial⟩ | assumption))) | (apply S_fieldP; (· exact rfl); (· exact rfl); (· exact rfl); (· exact rfl); (· exact gt_any rfl)) | (apply S_len_ls; (· exact rfl); (· exact gt_any rfl)) | apply S_box | exact gt_any rfl | exact okCells_of rfl rfl | exact rfl | fail)
  refine T_roundsS (α := Nat) (fun k => ⟨[(0, vldAS vs), (1, vldAS os), (7, .int .i64 (shL vs os s.votes k)), (12, votAS s.votes), (13, .int .i64 (s.votes.map votA).length), (14, .int .i64 k)], [], 0⟩)
    (fun k => s.votes.length - k) (fun k => k ≤ s.votes.length ∧ 0 ≤ shL vs os s.votes k ∧ shL vs os s.votes k ≤ 1000 * (k : Int)) 0 ?_ ⟨by omega, by rw [shL_zero]; decide, by rw [shL_zero]; decide⟩ ?_
  · rw [shL_zero]
    exact (sub_drop (by repeat' (first | exact keepE_nil | refine keepE_cons rfl ?_)) (by repeat' (first | exact keepB_nil | refine keepB_cons rfl ?_)) (by repeat' (first | exact lowE_nil | apply lowE_cons | exact Low.sl _ _ _ _ (by decide) | exact Low.ptr _ _ _ (by decide) | (apply Low.pure; (first | exact PureC.out | exact PureLC.out | assumption)) | exact lowL_nil | apply lowL_cons | apply low_agg | apply low_tup)) (by repeat' (first | exact lowB_nil | refine lowB_cons (by decide) (by (apply PureB.low; exact PureEC.out)) ?_)) (Nat.zero_le _))
  rintro k ⟨hk, hb0, hb1⟩
  by_cases hkl : k < s.votes.length
  · have d4 : decide ((k : Int) < ((s.votes.map votA).length : Int)) = true := decide_eq_true (by omega)
    have hget := map_getD votA s.votes Vot0 (k := k) (by omega)
    have hw : IntKind.wrap .i64 ((k : Int) + 1) = ((k + 1 : Nat) : Int) := by rw [wrap_i64 (by omega) (by omega)]; omega
    have hs := shL_succ vs os s.votes k
    obtain ⟨g1, g2⟩ := hpl k hkl
    generalize s.votes.getD k Vot0 = v at *
    have hlt : v.place.toNat < vs.length := by omega
    have hpe : ((v.place.toNat : Nat) : Int) = v.place := by omega
    have hget2 := map_getD vldA vs Vld0 (k := v.place.toNat) (by omega)
    rw [hpe] at hget2
    generalize vs.getD v.place.toNat Vld0 = u at *
    have hpr := keyPow_range ho u.key
    have c0 := keyAt_cv os u.key (by omega)
    have hkp : keyPow os u.key = if 0 ≤ idxL (hasKey u.key) os then (os.getD (idxL (hasKey u.key) os).toNat Vld0).power else 0 := by unfold keyPow; rfl
    have hix := idxL_range (hasKey u.key) os
    generalize idxL (hasKey u.key) os = x at *
    by_cases g3 : 0 ≤ x
    · have d5 : decide (0 ≤ x) = true := decide_eq_true g3
      rw [if_pos g3] at hkp
      have hxe : ((x.toNat : Nat) : Int) = x := by omega
      have hget3 := map_getD vldA os Vld0 (k := x.toNat) (by omega)
      rw [hxe] at hget3
      have hxl : x.toNat < os.length := by omega
      generalize os.getD x.toNat Vld0 = y at *
      have w1 : IntKind.wrap .i64 (shL vs os s.votes k + y.power) = shL vs os s.votes (k + 1) := by rw [hs, hkp]; exact wrap_i64 (by omega) (by omega)
      repeat' (first | refine T_seq ?_ | refine N_then ?_ | refine N_block ?_ | refine T_regX tyOk ?_ | refine S_nil ?_ | refine T_skip ?_ | refine T_block ?_ | (apply T_ifT; (· exact rfl); (· (first | assumption | exact rfl))) | apply S_move | apply S_assign | (apply S_loadP; (· exact rfl); (· exact gt_any rfl); (· exact rfl); (· exact rfl); (· exact rfl); (· (first | exact ⟨rfl, rfl⟩ | exact ⟨rfl, trivial⟩ | assumption))) | (apply S_loadV; (· exact rfl); (· exact gt_any rfl); (· exact rfl); (· (first | exact ⟨rfl, rfl⟩ | exact ⟨rfl, trivial⟩ | assumption))) | (apply S_loadVA; (· exact rfl); (· exact gt_any rfl); (· exact rfl); (· exact rfl)) | (apply S_fieldP; (· exact rfl); (· exact rfl); (· exact rfl); (· exact rfl); (· exact gt_any rfl)) | (apply S_fieldV; (· exact rfl); (· exact rfl); (· exact rfl); (· exact rfl); (· exact gt_any rfl)) | apply S_lss | apply S_geq | apply S_add | apply S_alloc | (apply S_store1; (· exact rfl); (· exact gt_any rfl); (· exact rfl); (· exact rfl); (· exact rfl); (· exact rfl)) | (apply S_idxLs; (· exact rfl); (· exact rfl); (· exact gt_any rfl); (· exact gt_any rfl)) | apply S_callQ (f := 63) | apply c0 | exact viewL_nil | apply viewL_cons | (apply View.pure; exact PureC.out) | exact FlatC.out | exact gt_any rfl | exact gts_nil | (apply gts_cons; (· exact gt_any rfl)) | exact okCells_of rfl rfl | assumption | (refine ⟨?_, ?_⟩ <;> omega) | exact rfl | fail)
      exact N_againS (k + 1) (sub_drop (by repeat' (first | exact keepE_nil | refine keepE_cons rfl ?_)) (by repeat' (first | exact keepB_nil | refine keepB_cons rfl ?_)) (by repeat' (first | exact lowE_nil | apply lowE_cons | exact Low.sl _ _ _ _ (by decide) | exact Low.ptr _ _ _ (by decide) | (apply Low.pure; (first | exact PureC.out | exact PureLC.out | assumption)) | exact lowL_nil | apply lowL_cons | apply low_agg | apply low_tup)) (by repeat' (first | exact lowB_nil | refine lowB_cons (by decide) (by (apply PureB.low; exact PureEC.out)) ?_)) (Nat.zero_le _)) ⟨by omega, by omega, by omega⟩ (by omega)
    · have d5 : decide (0 ≤ x) = false := decide_eq_false g3
      rw [if_neg g3] at hkp
      have e : shL vs os s.votes (k + 1) = shL vs os s.votes k := by rw [hs, hkp]; omega
      repeat' (first | refine T_seq ?_ | refine N_then ?_ | refine N_block ?_ | refine T_regX tyOk ?_ | refine S_nil ?_ | refine T_skip ?_ | refine T_block ?_ | (apply T_ifT; (· exact rfl); (· (first | assumption | exact rfl))) | (apply T_ifF; (· exact rfl); (· (first | assumption | exact rfl))) | apply S_move | apply S_assign | (apply S_loadP; (· exact rfl); (· exact gt_any rfl); (· exact rfl); (· exact rfl); (· exact rfl); (· (first | exact ⟨rfl, rfl⟩ | exact ⟨rfl, trivial⟩ | assumption))) | (apply S_loadV; (· exact rfl); (· exact gt_any rfl); (· exact rfl); (· (first | exact ⟨rfl, rfl⟩ | exact ⟨rfl, trivial⟩ | assumption))) | (apply S_loadVA; (· exact rfl); (· exact gt_any rfl); (· exact rfl); (· exact rfl)) | (apply S_fieldP; (· exact rfl); (· exact rfl); (· exact rfl); (· exact rfl); (· exact gt_any rfl)) | (apply S_fieldV; (· exact rfl); (· exact rfl); (· exact rfl); (· exact rfl); (· exact gt_any rfl)) | apply S_lss | apply S_geq | apply S_add | apply S_alloc | (apply S_store1; (· exact rfl); (· exact gt_any rfl); (· exact rfl); (· exact rfl); (· exact rfl); (· exact rfl)) | (apply S_idxLs; (· exact rfl); (· exact rfl); (· exact gt_any rfl); (· exact gt_any rfl)) | apply S_callQ (f := 63) | apply c0 | exact viewL_nil | apply viewL_cons | (apply View.pure; exact PureC.out) | exact FlatC.out | exact gt_any rfl | exact gts_nil | (apply gts_cons; (· exact gt_any rfl)) | exact okCells_of rfl rfl | assumption | (refine ⟨?_, ?_⟩ <;> omega) | exact rfl | fail)
      rw [← e]
      exact N_againS (k + 1) (sub_drop (by repeat' (first | exact keepE_nil | refine keepE_cons rfl ?_)) (by repeat' (first | exact keepB_nil | refine keepB_cons rfl ?_)) (by repeat' (first | exact lowE_nil | apply lowE_cons | exact Low.sl _ _ _ _ (by decide) | exact Low.ptr _ _ _ (by decide) | (apply Low.pure; (first | exact PureC.out | exact PureLC.out | assumption)) | exact lowL_nil | apply lowL_cons | apply low_agg | apply low_tup)) (by repeat' (first | exact lowB_nil | refine lowB_cons (by decide) (by (apply PureB.low; exact PureEC.out)) ?_)) (Nat.zero_le _)) ⟨by omega, by omega, by omega⟩ (by omega)
  · have d4 : decide ((k : Int) < ((s.votes.map votA).length : Int)) = false := decide_eq_false (by omega)
    obtain rfl : k = s.votes.length := by omega
    repeat' (first | refine T_seq ?_ | refine N_then ?_ | refine N_thenE ?_ | refine N_blockE ?_ | refine N_againSE ?_ | refine T_regX tyOk ?_ | refine S_nil ?_ | refine T_ret ?_ | refine T_exit ?_ | (apply E_tmp; (· exact rfl); (· (repeat' (first | exact pure_int _ _ | exact pure_bool _ | exact pure_str _); done))) | (apply T_ifF; (· exact rfl); (· (first | assumption | exact rfl))) | apply S_move | apply S_assign | apply S_lss | exact gt_any rfl | exact rfl | fail)

theorem l7Shared_cv (vs os : List Vld) (s : Sgd) (h : sgdFault vs s = 0) (ho : setFault os = 0) : CV Tryz.prog 29 [vldAS vs, vldAS os, sgdA s] (· = .int .i64 (shL vs os s.votes s.votes.length)) := by
  refine CV_intro tyOk Tryz.func29 (by kernel_rfl) rfl 49 rfl (by simp) [.tmp 6] rfl ?_
  intro w0 ok0
  have hvl : (vs.map vldA).length = vs.length := by simp
  have hol : (os.map vldA).length = os.length := by simp
  have hml : (s.votes.map votA).length = s.votes.length := by simp
  obtain ⟨h1, h5, hpl⟩ := sgd_places h
  obtain ⟨ho1, ho5, _⟩ := setFault_zero ho
  have hok := set_keys ho
  have hvk := set_keys h1
  repeat' (first | refine T_seq ?_ | refine N_then ?_ | refine T_regX tyOk ?_ | refine S_nil ?_ | refine T_block ?_ | apply S_assign | apply S_box | exact gt_any rfl | exact okCells_of rfl rfl | exact rfl | fail)
  refine T_roundsS (α := Nat) (fun k => ⟨[(0, vldAS vs), (1, vldAS os), (5, .ptr 0 0 0), (7, .int .i64 (shL vs os s.votes k)), (8, .int .i64 k)], [(0, some ⟨[sgdA s], 6, false, false⟩)], 1⟩)
    (fun k => s.votes.length - k) (fun k => k ≤ s.votes.length ∧ 0 ≤ shL vs os s.votes k ∧ shL vs os s.votes k ≤ 1000 * (k : Int)) 0 ?_ ⟨by omega, by rw [shL_zero]; decide, by rw [shL_zero]; decide⟩ ?_
  · rw [shL_zero]
    exact ((weak_of (by repeat' (first | exact keepE_nil | refine keepE_cons rfl ?_)) (by repeat' (first | exact keepB_nil | refine keepB_cons (by first | rfl | exact congrArg (fun l => some (Box.mk l _ _ _)) hset) ?_)) (Nat.le_refl _))).sub
  rintro k ⟨hk, hb0, hb1⟩
  by_cases hkl : k < s.votes.length
  · have d4 : decide ((k : Int) < ((s.votes.map votA).length : Int)) = true := decide_eq_true (by omega)
    have hget := map_getD votA s.votes Vot0 (k := k) (by omega)
    have hw : IntKind.wrap .i64 ((k : Int) + 1) = ((k + 1 : Nat) : Int) := by rw [wrap_i64 (by omega) (by omega)]; omega
    have hs := shL_succ vs os s.votes k
    obtain ⟨g1, g2⟩ := hpl k hkl
    generalize s.votes.getD k Vot0 = v at *
    have hlt : v.place.toNat < vs.length := by omega
    have hpe : ((v.place.toNat : Nat) : Int) = v.place := by omega
    have hget2 := map_getD vldA vs Vld0 (k := v.place.toNat) (by omega)
    rw [hpe] at hget2
    have huk := hvk _ (getD_mem vs Vld0 hlt)
    generalize vs.getD v.place.toNat Vld0 = u at *
    have hpr := keyPow_range ho u.key
    have hall := inL_all ho u.key
    have hrg := inL_range ho u.key
    repeat' (first | refine T_seq ?_ | refine N_then ?_ | refine T_regX tyOk ?_ | refine S_nil ?_ | refine T_skip ?_ | refine T_block ?_ | (apply T_ifT; (· exact rfl); (· (first | assumption | exact rfl))) | apply S_move | apply S_assign | (apply S_loadP; (· exact rfl); (· exact gt_any rfl); (· exact rfl); (· exact rfl); (· exact rfl); (· (first | exact ⟨rfl, rfl⟩ | exact ⟨rfl, trivial⟩ | assumption))) | (apply S_loadV; (· exact rfl); (· exact gt_any rfl); (· exact rfl); (· (first | exact ⟨rfl, rfl⟩ | exact ⟨rfl, trivial⟩ | assumption))) | (apply S_fieldP; (· exact rfl); (· exact rfl); (· exact rfl); (· exact rfl); (· exact gt_any rfl)) | (apply S_fieldV; (· exact rfl); (· exact rfl); (· exact rfl); (· exact rfl); (· exact gt_any rfl)) | apply S_lss | (apply S_len_ls; (· exact rfl); (· exact gt_any rfl)) | (apply S_idxLs; (· exact rfl); (· exact rfl); (· exact gt_any rfl); (· exact gt_any rfl)) | exact gt_any rfl | assumption | (refine ⟨?_, ?_⟩ <;> omega) | exact rfl | fail)
    refine T_roundsS (α := Nat) (fun j => ⟨[(0, vldAS vs), (1, vldAS os), (5, .ptr 0 0 0), (7, .int .i64 (shL vs os s.votes k + inL os u.key j)), (8, .int .i64 k), (9, byA u.key), (10, .int .i64 j)], [(0, some ⟨[sgdA s], 6, false, false⟩)], 1⟩)
      (fun j => os.length - j) (fun j => j ≤ os.length) 0 ?_ (by omega) ?_
    · rw [inL_zero, Int.add_zero]
      exact ((weak_of (by repeat' (first | exact keepE_nil | refine keepE_cons rfl ?_)) (by repeat' (first | exact keepB_nil | refine keepB_cons (by first | rfl | exact congrArg (fun l => some (Box.mk l _ _ _)) hset) ?_)) (Nat.le_refl _))).sub
    intro j hj
    have hrj := hrg j hj
    by_cases hjl : j < os.length
    · have d5 : decide ((j : Int) < ((os.map vldA).length : Int)) = true := decide_eq_true (by omega)
      have hget3 := map_getD vldA os Vld0 (k := j) (by omega)
      have hwj : IntKind.wrap .i64 ((j : Int) + 1) = ((j + 1 : Nat) : Int) := by rw [wrap_i64 (by omega) (by omega)]; omega
      have hin := inL_succ os u.key j
      have hpw := power_range ho hjl
      have hyk := hok _ (getD_mem os Vld0 hjl)
      generalize os.getD j Vld0 = y at *
      have c0 := same_cv y.key u.key (by omega) (by omega)
      by_cases g3 : y.key = u.key
      · rw [decide_eq_true g3] at c0
        rw [show hasKey u.key y = true from decide_eq_true g3, if_pos rfl] at hin
        have w1 : IntKind.wrap .i64 (shL vs os s.votes k + inL os u.key j + y.power) = shL vs os s.votes k + inL os u.key (j + 1) := by rw [hin, wrap_i64 (by omega) (by omega)]; omega
        repeat' (first | refine T_seq ?_ | refine N_then ?_ | refine N_block ?_ | refine T_regX tyOk ?_ | refine S_nil ?_ | refine T_skip ?_ | refine T_block ?_ | (apply T_ifT; (· exact rfl); (· (first | assumption | exact rfl))) | apply S_move | apply S_assign | (apply S_loadV; (· exact rfl); (· exact gt_any rfl); (· exact rfl); (· (first | exact ⟨rfl, rfl⟩ | exact ⟨rfl, trivial⟩ | assumption))) | (apply S_fieldV; (· exact rfl); (· exact rfl); (· exact rfl); (· exact rfl); (· exact gt_any rfl)) | apply S_lss | apply S_add | (apply S_len_ls; (· exact rfl); (· exact gt_any rfl)) | (apply S_idxLs; (· exact rfl); (· exact rfl); (· exact gt_any rfl); (· exact gt_any rfl)) | apply S_callQ (f := 49) | apply c0 | exact viewL_nil | apply viewL_cons | (apply View.pure; exact PureC.out) | exact FlatC.out | exact gt_any rfl | exact gts_nil | (apply gts_cons; (· exact gt_any rfl)) | assumption | (refine ⟨?_, ?_⟩ <;> omega) | exact rfl | fail)
        exact N_againS (j + 1) ((weak_of (by repeat' (first | exact keepE_nil | refine keepE_cons rfl ?_)) (by repeat' (first | exact keepB_nil | refine keepB_cons (by first | rfl | exact congrArg (fun l => some (Box.mk l _ _ _)) hset) ?_)) (Nat.le_refl _))).sub (by omega) (by omega)
      · rw [decide_eq_false g3] at c0
        rw [show hasKey u.key y = false from decide_eq_false g3, if_neg (by decide), Int.add_zero] at hin
        repeat' (first | refine T_seq ?_ | refine N_then ?_ | refine N_block ?_ | refine T_regX tyOk ?_ | refine S_nil ?_ | refine T_skip ?_ | refine T_block ?_ | (apply T_ifT; (· exact rfl); (· (first | assumption | exact rfl))) | (apply T_ifF; (· exact rfl); (· (first | assumption | exact rfl))) | apply S_move | apply S_assign | (apply S_loadV; (· exact rfl); (· exact gt_any rfl); (· exact rfl); (· (first | exact ⟨rfl, rfl⟩ | exact ⟨rfl, trivial⟩ | assumption))) | (apply S_fieldV; (· exact rfl); (· exact rfl); (· exact rfl); (· exact rfl); (· exact gt_any rfl)) | apply S_lss | apply S_add | (apply S_len_ls; (· exact rfl); (· exact gt_any rfl)) | (apply S_idxLs; (· exact rfl); (· exact rfl); (· exact gt_any rfl); (· exact gt_any rfl)) | apply S_callQ (f := 49) | apply c0 | exact viewL_nil | apply viewL_cons | (apply View.pure; exact PureC.out) | exact FlatC.out | exact gt_any rfl | exact gts_nil | (apply gts_cons; (· exact gt_any rfl)) | assumption | (refine ⟨?_, ?_⟩ <;> omega) | exact rfl | fail)
        rw [← hin]
        exact N_againS (j + 1) ((weak_of (by repeat' (first | exact keepE_nil | refine keepE_cons rfl ?_)) (by repeat' (first | exact keepB_nil | refine keepB_cons (by first | rfl | exact congrArg (fun l => some (Box.mk l _ _ _)) hset) ?_)) (Nat.le_refl _))).sub (by omega) (by omega)
    · have d5 : decide ((j : Int) < ((os.map vldA).length : Int)) = false := decide_eq_false (by omega)
      obtain rfl : j = os.length := by omega
      rw [hall, ← hs]
      repeat' (first | refine T_seq ?_ | refine N_then ?_ | refine N_thenE ?_ | refine N_block ?_ | refine N_blockE ?_ | refine N_againSE ?_ | refine T_regX tyOk ?_ | refine S_nil ?_ | refine T_exit ?_ | (apply T_ifF; (· exact rfl); (· (first | assumption | exact rfl))) | apply S_move | apply S_assign | apply S_lss | apply S_add | (apply S_len_ls; (· exact rfl); (· exact gt_any rfl)) | exact gt_any rfl | assumption | exact rfl | fail)
      exact N_againS (k + 1) ((weak_of (by repeat' (first | exact keepE_nil | refine keepE_cons rfl ?_)) (by repeat' (first | exact keepB_nil | refine keepB_cons (by first | rfl | exact congrArg (fun l => some (Box.mk l _ _ _)) hset) ?_)) (Nat.le_refl _))).sub ⟨by omega, by omega, by omega⟩ (by omega)
  · have d4 : decide ((k : Int) < ((s.votes.map votA).length : Int)) = false := decide_eq_false (by omega)
    obtain rfl : k = s.votes.length := by omega
    repeat' (first | refine T_seq ?_ | refine N_then ?_ | refine N_thenE ?_ | refine N_blockE ?_ | refine N_againSE ?_ | refine T_regX tyOk ?_ | refine S_nil ?_ | refine T_ret ?_ | refine T_exit ?_ | (apply E_tmp; (· exact rfl); (· (repeat' (first | exact pure_int _ _ | exact pure_bool _ | exact pure_str _); done))) | (apply T_ifF; (· exact rfl); (· (first | assumption | exact rfl))) | apply S_move | apply S_assign | (apply S_loadP; (· exact rfl); (· exact gt_any rfl); (· exact rfl); (· exact rfl); (· exact rfl); (· (first | exact ⟨rfl, rfl⟩ | exact ⟨rfl, trivial⟩ | assumption))) | (apply S_fieldP; (· exact rfl); (· exact rfl); (· exact rfl); (· exact rfl); (· exact gt_any rfl)) | apply S_lss | (apply S_len_ls; (· exact rfl); (· exact gt_any rfl)) | exact gt_any rfl | exact rfl | fail)

def spC (vs os : List Vld) (s : Sgd) : Int := if sgdFault vs s = 0 then setFault os else sgdFault vs s
def spV (vs os : List Vld) (s : Sgd) : Int := if sgdFault vs s = 0 ∧ setFault os = 0 then shL vs os s.votes s.votes.length else 0

theorem implSharedPower_cv (vs os : List Vld) (s : Sgd) (hv : vs.length ≤ 1048576) (ho : os.length ≤ 1048576) (hs : SgdW s ≤ 1048576) : CV Tryz.prog 12 [vldAS vs, vldAS os, sgdA s] (· = /-flat-/ .agg [.int .i64 (spC vs os s), .int .i64 (spV vs os s)]) := by
  refine CV_intro tyOk Tryz.func12 (by kernel_rfl) rfl 27 rfl (by simp) [.cell 6 32] rfl ?_
  intro w0 ok0
  have c0 := sgdFault_cv vs s hv hs
  by_cases g : sgdFault vs s = 0
  · have c1 := setFault_cv os ho
    rw [g] at c0
    have d0 : (!decide ((0 : Int) = 0)) = false := rfl
    rw [show spC vs os s = setFault os from if_pos g]
    by_cases g2 : setFault os = 0
    · rw [g2] at c1
      rw [show spV vs os s = shL vs os s.votes s.votes.length from if_pos ⟨g, g2⟩, g2]
      have c2 := sharedPower_cv vs os s g g2
      repeat' (first | refine T_seq ?_ | refine N_then ?_ | refine T_regX tyOk ?_ | refine S_nil ?_ | refine T_skip ?_ | refine T_ret ?_ | (apply E_X <;> repeat' (first | exact resL_nil | (apply resL_tmp; (· exact rfl)) | (apply resL_cell; (· exact rfl); (· exact rfl); (· exact rfl); (· exact rfl); (· exact rfl); (· exact rfl)) | (apply resL_arr; (· exact rfl); (· exact rfl); (· exact rfl); (· exact rfl); (· (first | assumption | exact rfl))) | exact viewL_nil | apply viewL_cons | apply view_nothingE | (apply view_slE; (· exact rfl); (· first | exact rfl | assumption | (simp [bA_length]; done) | (simp [bA_length]; omega) | omega); (· exact PureEC.out)) | (apply view_loose; (· exact PureEC.out)) | apply view_agg | apply view_tup | (apply View.ofEq; (· exact PureC.out)) | exact rfl)) | (apply T_ifF; (· exact rfl); (· (first | assumption | exact rfl))) | apply S_move | apply S_assign | (apply S_loadW; (· exact rfl); (· exact gt_any rfl); (· exact rfl); (· exact rfl); (· exact rfl); (· exact rfl); (· exact rfl); (· exact rfl)) | (apply S_neq; (· exact gt_any rfl); (· exact gt_any rfl)) | apply S_alloc | apply S_box | (apply S_store1; (· exact rfl); (· exact gt_any rfl); (· exact rfl); (· exact rfl); (· exact rfl); (· exact rfl)) | (apply S_build; (· exact rfl); (· exact rfl); (· exact rfl); (· (repeat' (first | exact gtsP_nil | exact gt_any rfl | apply gtsP_cons))); (· (repeat' (first | exact BuildR.nil _ | (apply BuildR.cons; (· exact rfl); (· exact rfl); (· exact rfl); (· exact rfl); (· (first | nofun | assumption)); (· (repeat' constructor))))))) | apply S_callQ (f := 33) | apply c0 | apply S_callQ (f := 34) | apply c1 | apply S_callQ (f := 35) | apply c2 | exact viewL_nil | apply viewL_cons | (apply View.pure; exact PureC.out) | exact FlatC.out | exact gt_any rfl | exact gts_nil | (apply gts_cons; (· exact gt_any rfl)) | exact okCells_of rfl rfl | exact rfl | fail)
    · rw [show spV vs os s = 0 from if_neg (fun k => g2 k.2)]
      have d1 : (!decide (setFault os = 0)) = true := by rw [decide_eq_false g2]; rfl
      repeat' (first | refine T_seq ?_ | refine N_then ?_ | refine N_thenR ?_ | refine T_regX tyOk ?_ | refine S_nil ?_ | refine T_skip ?_ | refine T_ret ?_ | (apply E_X <;> repeat' (first | exact resL_nil | (apply resL_tmp; (· exact rfl)) | (apply resL_cell; (· exact rfl); (· exact rfl); (· exact rfl); (· exact rfl); (· exact rfl); (· exact rfl)) | (apply resL_arr; (· exact rfl); (· exact rfl); (· exact rfl); (· exact rfl); (· (first | assumption | exact rfl))) | exact viewL_nil | apply viewL_cons | apply view_nothingE | (apply view_slE; (· exact rfl); (· first | exact rfl | assumption | (simp [bA_length]; done) | (simp [bA_length]; omega) | omega); (· exact PureEC.out)) | (apply view_loose; (· exact PureEC.out)) | apply view_agg | apply view_tup | (apply View.ofEq; (· exact PureC.out)) | exact rfl)) | (apply T_ifT; (· exact rfl); (· (first | assumption | exact rfl))) | (apply T_ifF; (· exact rfl); (· (first | assumption | exact rfl))) | apply S_move | apply S_assign | (apply S_loadW; (· exact rfl); (· exact gt_any rfl); (· exact rfl); (· exact rfl); (· exact rfl); (· exact rfl); (· exact rfl); (· exact rfl)) | (apply S_neq; (· exact gt_any rfl); (· exact gt_any rfl)) | apply S_alloc | apply S_box | (apply S_store1; (· exact rfl); (· exact gt_any rfl); (· exact rfl); (· exact rfl); (· exact rfl); (· exact rfl)) | (apply S_build; (· exact rfl); (· exact rfl); (· exact rfl); (· (repeat' (first | exact gtsP_nil | exact gt_any rfl | apply gtsP_cons))); (· (repeat' (first | exact BuildR.nil _ | (apply BuildR.cons; (· exact rfl); (· exact rfl); (· exact rfl); (· exact rfl); (· (first | nofun | assumption)); (· (repeat' constructor))))))) | apply S_callQ (f := 33) | apply c0 | apply S_callQ (f := 34) | apply c1 | exact viewL_nil | apply viewL_cons | (apply View.pure; exact PureC.out) | exact FlatC.out | exact gt_any rfl | exact gts_nil | (apply gts_cons; (· exact gt_any rfl)) | exact okCells_of rfl rfl | exact rfl | fail)
  · rw [show spC vs os s = sgdFault vs s from if_neg g, show spV vs os s = 0 from if_neg (fun k => g k.1)]
    have d0 : (!decide (sgdFault vs s = 0)) = true := by rw [decide_eq_false g]; rfl
    repeat' (first | refine T_seq ?_ | refine N_then ?_ | refine N_thenR ?_ | refine T_regX tyOk ?_ | refine S_nil ?_ | refine T_ret ?_ | (apply E_X <;> repeat' (first | exact resL_nil | (apply resL_tmp; (· exact rfl)) | (apply resL_cell; (· exact rfl); (· exact rfl); (· exact rfl); (· exact rfl); (· exact rfl); (· exact rfl)) | (apply resL_arr; (· exact rfl); (· exact rfl); (· exact rfl); (· exact rfl); (· (first | assumption | exact rfl))) | exact viewL_nil | apply viewL_cons | apply view_nothingE | (apply view_slE; (· exact rfl); (· first | exact rfl | assumption | (simp [bA_length]; done) | (simp [bA_length]; omega) | omega); (· exact PureEC.out)) | (apply view_loose; (· exact PureEC.out)) | apply view_agg | apply view_tup | (apply View.ofEq; (· exact PureC.out)) | exact rfl)) | (apply T_ifT; (· exact rfl); (· (first | assumption | exact rfl))) | apply S_move | apply S_assign | (apply S_loadW; (· exact rfl); (· exact gt_any rfl); (· exact rfl); (· exact rfl); (· exact rfl); (· exact rfl); (· exact rfl); (· exact rfl)) | (apply S_neq; (· exact gt_any rfl); (· exact gt_any rfl)) | apply S_alloc | apply S_box | (apply S_store1; (· exact rfl); (· exact gt_any rfl); (· exact rfl); (· exact rfl); (· exact rfl); (· exact rfl)) | (apply S_build; (· exact rfl); (· exact rfl); (· exact rfl); (· (repeat' (first | exact gtsP_nil | exact gt_any rfl | apply gtsP_cons))); (· (repeat' (first | exact BuildR.nil _ | (apply BuildR.cons; (· exact rfl); (· exact rfl); (· exact rfl); (· exact rfl); (· (first | nofun | assumption)); (· (repeat' constructor))))))) | apply S_callQ (f := 33) | apply c0 | exact viewL_nil | apply viewL_cons | (apply View.pure; exact PureC.out) | exact FlatC.out | exact gt_any rfl | exact gts_nil | (apply gts_cons; (· exact gt_any rfl)) | exact okCells_of rfl rfl | exact rfl | fail)

theorem specSharedPower_cv (vs os : List Vld) (s : Sgd) (hv : vs.length ≤ 1048576) (ho : os.length ≤ 1048576) (hs : SgdW s ≤ 1048576) (hk : ∀ v ∈ vs, v.key.length ≤ 1048576) (hk2 : ∀ v ∈ os, v.key.length ≤ 1048576) : CV Tryz.prog 9 [vldAS vs, vldAS os, sgdA s] (· = /-flat-/ .agg [.int .i64 (spC vs os s), .int .i64 (spV vs os s)]) := by
  refine CV_intro tyOk Tryz.func9 (by kernel_rfl) rfl 27 rfl (by simp) [.cell 6 32] rfl ?_
  intro w0 ok0
  have c0 := specSgdFault_cv vs s hv hs hk
  by_cases g : sgdFault vs s = 0
  · have c1 := specSetFault_cv os ho hk2
    rw [g] at c0
    have d0 : (!decide ((0 : Int) = 0)) = false := rfl
    rw [show spC vs os s = setFault os from if_pos g]
    by_cases g2 : setFault os = 0
    · rw [g2] at c1
      rw [show spV vs os s = shL vs os s.votes s.votes.length from if_pos ⟨g, g2⟩, g2]
      have c2 := l7Shared_cv vs os s g g2
      repeat' (first | refine T_seq ?_ | refine N_then ?_ | refine T_regX tyOk ?_ | refine S_nil ?_ | refine T_skip ?_ | refine T_ret ?_ | (apply E_X <;> repeat' (first | exact resL_nil | (apply resL_tmp; (· exact rfl)) | (apply resL_cell; (· exact rfl); (· exact rfl); (· exact rfl); (· exact rfl); (· exact rfl); (· exact rfl)) | (apply resL_arr; (· exact rfl); (· exact rfl); (· exact rfl); (· exact rfl); (· (first | assumption | exact rfl))) | exact viewL_nil | apply viewL_cons | apply view_nothingE | (apply view_slE; (· exact rfl); (· first | exact rfl | assumption | (simp [bA_length]; done) | (simp [bA_length]; omega) | omega); (· exact PureEC.out)) | (apply view_loose; (· exact PureEC.out)) | apply view_agg | apply view_tup | (apply View.ofEq; (· exact PureC.out)) | exact rfl)) | (apply T_ifF; (· exact rfl); (· (first | assumption | exact rfl))) | apply S_move | apply S_assign | (apply S_loadW; (· exact rfl); (· exact gt_any rfl); (· exact rfl); (· exact rfl); (· exact rfl); (· exact rfl); (· exact rfl); (· exact rfl)) | (apply S_neq; (· exact gt_any rfl); (· exact gt_any rfl)) | apply S_alloc | apply S_box | (apply S_store1; (· exact rfl); (· exact gt_any rfl); (· exact rfl); (· exact rfl); (· exact rfl); (· exact rfl)) | (apply S_build; (· exact rfl); (· exact rfl); (· exact rfl); (· (repeat' (first | exact gtsP_nil | exact gt_any rfl | apply gtsP_cons))); (· (repeat' (first | exact BuildR.nil _ | (apply BuildR.cons; (· exact rfl); (· exact rfl); (· exact rfl); (· exact rfl); (· (first | nofun | assumption)); (· (repeat' constructor))))))) | apply S_callQ (f := 27) | apply c0 | apply S_callQ (f := 28) | apply c1 | apply S_callQ (f := 29) | apply c2 | exact viewL_nil | apply viewL_cons | (apply View.pure; exact PureC.out) | exact FlatC.out | exact gt_any rfl | exact gts_nil | (apply gts_cons; (· exact gt_any rfl)) | exact okCells_of rfl rfl | exact rfl | fail)
    · rw [show spV vs os s = 0 from if_neg (fun k => g2 k.2)]
      have d1 : (!decide (setFault os = 0)) = true := by rw [decide_eq_false g2]; rfl
      repeat' (first | refine T_seq ?_ | refine N_then ?_ | refine N_thenR ?_ | refine T_regX tyOk ?_ | refine S_nil ?_ | refine T_skip ?_ | refine T_ret ?_ | (apply E_X <;> repeat' (first | exact resL_nil | (apply resL_tmp; (· exact rfl)) | (apply resL_cell; (· exact rfl); (· exact rfl); (· exact rfl); (· exact rfl); (· exact rfl); (· exact rfl)) | (apply resL_arr; (· exact rfl); (· exact rfl); (· exact rfl); (· exact rfl); (· (first | assumption | exact rfl))) | exact viewL_nil | apply viewL_cons | apply view_nothingE | (apply view_slE; (· exact rfl); (· first | exact rfl | assumption | (simp [bA_length]; done) | (simp [bA_length]; omega) | omega); (· exact PureEC.out)) | (apply view_loose; (· exact PureEC.out)) | apply view_agg | apply view_tup | (apply View.ofEq; (· exact PureC.out)) | exact rfl)) | (apply T_ifT; (· exact rfl); (· (first | assumption | exact rfl))) | (apply T_ifF; (· exact rfl); (· (first | assumption | exact rfl))) | apply S_move | apply S_assign | (apply S_loadW; (· exact rfl); (· exact gt_any rfl); (· exact rfl); (· exact rfl); (· exact rfl); (· exact rfl); (· exact rfl); (· exact rfl)) | (apply S_neq; (· exact gt_any rfl); (· exact gt_any rfl)) | apply S_alloc | apply S_box | (apply S_store1; (· exact rfl); (· exact gt_any rfl); (· exact rfl); (· exact rfl); (· exact rfl); (· exact rfl)) | (apply S_build; (· exact rfl); (· exact rfl); (· exact rfl); (· (repeat' (first | exact gtsP_nil | exact gt_any rfl | apply gtsP_cons))); (· (repeat' (first | exact BuildR.nil _ | (apply BuildR.cons; (· exact rfl); (· exact rfl); (· exact rfl); (· exact rfl); (· (first | nofun | assumption)); (· (repeat' constructor))))))) | apply S_callQ (f := 27) | apply c0 | apply S_callQ (f := 28) | apply c1 | exact viewL_nil | apply viewL_cons | (apply View.pure; exact PureC.out) | exact FlatC.out | exact gt_any rfl | exact gts_nil | (apply gts_cons; (· exact gt_any rfl)) | exact okCells_of rfl rfl | exact rfl | fail)
  · rw [show spC vs os s = sgdFault vs s from if_neg g, show spV vs os s = 0 from if_neg (fun k => g k.1)]
    have d0 : (!decide (sgdFault vs s = 0)) = true := by rw [decide_eq_false g]; rfl
    repeat' (first | refine T_seq ?_ | refine N_then ?_ | refine N_thenR ?_ | refine T_regX tyOk ?_ | refine S_nil ?_ | refine T_ret ?_ | (apply E_X <;> repeat' (first | exact resL_nil | (apply resL_tmp; (· exact rfl)) | (apply resL_cell; (· exact rfl); (· exact rfl); (· exact rfl); (· exact rfl); (· exact rfl); (· exact rfl)) | (apply resL_arr; (· exact rfl); (· exact rfl); (· exact rfl); (· exact rfl); (· (first | assumption | exact rfl))) | exact viewL_nil | apply viewL_cons | apply view_nothingE | (apply view_slE; (· exact rfl); (· first | exact rfl | assumption | (simp [bA_length]; done) | (simp [bA_length]; omega) | omega); (· exact PureEC.out)) | (apply view_loose; (· exact PureEC.out)) | apply view_agg | apply view_tup | (apply View.ofEq; (· exact PureC.out)) | exact rfl)) | (apply T_ifT; (· exact rfl); (· (first | assumption | exact rfl))) | apply S_move | apply S_assign | (apply S_loadW; (· exact rfl); (· exact gt_any rfl); (· exact rfl); (· exact rfl); (· exact rfl); (· exact rfl); (· exact rfl); (· exact rfl)) | (apply S_neq; (· exact gt_any rfl); (· exact gt_any rfl)) | apply S_alloc | apply S_box | (apply S_store1; (· exact rfl); (· exact gt_any rfl); (· exact rfl); (· exact rfl); (· exact rfl); (· exact rfl)) | (apply S_build; (· exact rfl); (· exact rfl); (· exact rfl); (· (repeat' (first | exact gtsP_nil | exact gt_any rfl | apply gtsP_cons))); (· (repeat' (first | exact BuildR.nil _ | (apply BuildR.cons; (· exact rfl); (· exact rfl); (· exact rfl); (· exact rfl); (· (first | nofun | assumption)); (· (repeat' constructor))))))) | apply S_callQ (f := 27) | apply c0 | exact viewL_nil | apply viewL_cons | (apply View.pure; exact PureC.out) | exact FlatC.out | exact gt_any rfl | exact gts_nil | (apply gts_cons; (· exact gt_any rfl)) | exact okCells_of rfl rfl | exact rfl | fail)

end Go.Proofs.YtoempiaimebncaaGreat
