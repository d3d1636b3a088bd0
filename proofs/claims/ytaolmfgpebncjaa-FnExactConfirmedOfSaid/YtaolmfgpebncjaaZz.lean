/- The heaviest chain of heads. -/
import Derived.Test.YtaolmfgpebncjaaZy
set_option maxRecDepth 100000
set_option maxHeartbeats 3200000
set_option linter.unusedSimpArgs false
set_option linter.unusedVariables false
namespace Go.Proofs.Ytaolmfgpebncjaa
open Go.Av
attribute [local irreducible] T thenQ blockQ againQ againS WX retV retR Gt Gts GtsP okCells CV CR Av.Pure
attribute [local irreducible] sha zerosL lz8 hdD hdFault zerosN hardF firstB wayD chainL

def wt1 (x : Hd) : Int := ((2 ^ x.zeros.toNat : Nat) : Int)
theorem wt1_range {x : Hd} (h : hdFault x = 0) : 1 ≤ wt1 x ∧ wt1 x ≤ 1099511627776 := by
  have hz := (hd_zero h).2.2.2.1
  have h1 : 2 ^ x.zeros.toNat ≤ 2 ^ 40 := Nat.pow_le_pow_right (by decide) (by omega)
  have h2 : 0 < 2 ^ x.zeros.toNat := Nat.pow_pos (by decide)
  have h3 : (2 : Nat) ^ 40 = 1099511627776 := by decide
  unfold wt1
  omega
theorem wt1_shl {x : Hd} (h : hdFault x = 0) : IntKind.wrap .i64 (1 * 2 ^ min x.zeros.toNat IntKind.i64.bits) = wt1 x := by
  have hz := (hd_zero h).2.2.2.1
  have hr := wt1_range h
  have hb : IntKind.i64.bits = 64 := rfl
  have e : (2 : Int) ^ x.zeros.toNat = wt1 x := by unfold wt1; simp
  rw [hb, Nat.min_eq_left (by omega), Int.one_mul, e]
  exact wrap_i64 (by omega) (by omega)
def wtUp (c : List Hd) : Nat → Int
  | 0 => 0
  | k + 1 => wtUp c k + wt1 (c.getD k Hd0)
theorem wtUp_range {c : List Hd} (h : ∀ x ∈ c, hdFault x = 0) : ∀ k, k ≤ c.length → 0 ≤ wtUp c k ∧ wtUp c k ≤ k * 1099511627776
  | 0, _ => by simp [wtUp]
  | k + 1, hk => by
    have h1 := wtUp_range h k (by omega)
    have h2 := wt1_range (h _ (getD_mem c Hd0 (k := k) (by omega)))
    rw [wtUp]
    omega
def wtL (c : List Hd) : Int := wtUp c c.length
attribute [local irreducible] wtUp wt1

theorem l5Weight_cv (c : List Hd) (hl : c.length ≤ 1000) (hc : ∀ x ∈ c, hdFault x = 0) : CV Try.prog 124 [hdAS c] (· = .int .i64 (wtL c)) := by
  refine CV_intro tyOk Try.func124 (by kernel_rfl) rfl 21 rfl (by simp) [.tmp 2] rfl ?_
  intro w0 ok0
  have hml : (c.map hdA).length = c.length := by simp
  have w0 : wtUp c 0 = 0 := by unfold wtUp; rfl
  repeat' (first | refine T_seq ?_ | refine N_then ?_ | refine T_regX tyOk ?_ | refine S_nil ?_ | refine T_block ?_ | apply S_assign | exact gt_any rfl | exact rfl | fail)
  refine T_roundsS (α := Nat) (fun k => ⟨[(0, hdAS c), (3, .int .i64 (wtUp c k)), (4, .int .i64 k)], [], 0⟩)
    (fun k => c.length - k) (fun k => k ≤ c.length) 0 (by rw [w0]; exact ((weak_of (by repeat' (first | exact keepE_nil | refine keepE_cons rfl ?_)) (by repeat' (first | exact keepB_nil | refine keepB_cons (by first | rfl | exact congrArg (fun l => some (Box.mk l _ _ _)) hset) ?_)) (Nat.le_refl _))).sub) (by omega) ?_
  intro k hk
  by_cases hkl : k < c.length
  · have d1 : decide ((k : Int) < ((c.map hdA).length : Int)) = true := decide_eq_true (by omega)
    have hget := map_getD hdA c Hd0 (k := k) (by omega)
    have hx := hc _ (getD_mem c Hd0 hkl)
    have hst : wtUp c (k + 1) = wtUp c k + wt1 (c.getD k Hd0) := by rw [wtUp]
    have hr := wtUp_range hc k hk
    generalize c.getD k Hd0 = x at *
    have hz := (hd_zero hx).2.2.2.1
    have hr1 := wt1_range hx
    have s1 := wt1_shl hx
    have wz : IntKind.wrap .u64 x.zeros = x.zeros := wrap_u64 (by omega) (by omega)
    have pz : 0 ≤ x.zeros := hz.1
    have wa : IntKind.wrap .i64 (wtUp c k + wt1 x) = wtUp c (k + 1) := by rw [hst]; exact wrap_i64 (by omega) (by omega)
    have hw : IntKind.wrap .i64 ((k : Int) + 1) = ((k + 1 : Nat) : Int) := by rw [wrap_i64 (by omega) (by omega)]; omega
    repeat' (first | refine T_seq ?_ | refine N_then ?_ | refine N_block ?_ | refine T_regX tyOk ?_ | refine S_nil ?_ | refine T_skip ?_ | refine T_block ?_ | (apply T_ifT; (· exact rfl); (· (first | assumption | exact rfl))) | apply S_move | apply S_assign | (apply S_loadV; (· exact rfl); (· exact gt_any rfl); (· exact rfl); (· (first | exact ⟨rfl, rfl⟩ | exact ⟨rfl, trivial⟩ | assumption))) | (apply S_fieldV; (· exact rfl); (· exact rfl); (· exact rfl); (· exact rfl); (· exact gt_any rfl)) | apply S_lss | apply S_add | (apply S_conv; (· exact rfl); (· exact rfl); (· exact gt_any rfl)) | (apply S_len_ls; (· exact rfl); (· exact gt_any rfl)) | apply S_shlW | (apply S_idxLs; (· exact rfl); (· exact rfl); (· exact gt_any rfl); (· exact gt_any rfl)) | exact gt_any rfl | assumption | (refine ⟨?_, ?_⟩ <;> omega) | exact rfl | fail)
    exact N_againS (k + 1) ((weak_of (by repeat' (first | exact keepE_nil | refine keepE_cons rfl ?_)) (by repeat' (first | exact keepB_nil | refine keepB_cons (by first | rfl | exact congrArg (fun l => some (Box.mk l _ _ _)) hset) ?_)) (Nat.le_refl _))).sub (by omega) (by omega)
  · have d1 : decide ((k : Int) < ((c.map hdA).length : Int)) = false := decide_eq_false (by omega)
    obtain rfl : k = c.length := by omega
    repeat' (first | refine T_seq ?_ | refine N_then ?_ | refine N_thenE ?_ | refine N_blockE ?_ | refine N_againSE ?_ | refine T_regX tyOk ?_ | refine S_nil ?_ | refine T_ret ?_ | refine T_exit ?_ | (apply E_tmp; (· exact rfl); (· (repeat' (first | exact pure_int _ _ | exact pure_bool _ | exact pure_str _); done))) | (apply T_ifF; (· exact rfl); (· (first | assumption | exact rfl))) | apply S_move | apply S_assign | apply S_lss | (apply S_len_ls; (· exact rfl); (· exact gt_any rfl)) | exact gt_any rfl | exact rfl | fail)

def bestUp (hs : List Hd) : Nat → Nat × Int
  | 0 => (0, -1)
  | k + 1 => if (bestUp hs k).2 < wtL (chainL hs k) then (k, wtL (chainL hs k)) else bestUp hs k
theorem bestUp_t {hs : List Hd} {k : Nat} (h : (bestUp hs k).2 < wtL (chainL hs k)) : bestUp hs (k + 1) = (k, wtL (chainL hs k)) := by rw [bestUp, if_pos h]
theorem bestUp_f {hs : List Hd} {k : Nat} (h : ¬ (bestUp hs k).2 < wtL (chainL hs k)) : bestUp hs (k + 1) = bestUp hs k := by rw [bestUp, if_neg h]
theorem bestUp_lt (hs : List Hd) : ∀ k, 0 < k → (bestUp hs k).1 < k
  | 0, h => by omega
  | k + 1, _ => by
    rw [bestUp]
    split
    · exact Nat.lt_succ_self k
    · by_cases h : 0 < k
      · have := bestUp_lt hs k h; omega
      · obtain rfl : k = 0 := by omega
        exact Nat.zero_lt_one
def bestL (hs : List Hd) : Nat := (bestUp hs hs.length).1
theorem bestUp_zero (hs : List Hd) : bestUp hs 0 = (0, -1) := by rw [bestUp]
attribute [local irreducible] bestUp wtL

theorem l5Heaviest_cv (hs : List Hd) (hJ : Joined hs) (hl : hs.length ≤ 100) : CV Try.prog 78 [hdAS hs, rowsA (hs.map hdD)] (· = .int .i64 (bestL hs : Int)) := by
  refine CV_intro tyOk Try.func78 (by kernel_rfl) rfl 26 rfl (by simp) [.tmp 4] rfl ?_
  intro w0 ok0
  have hml : (hs.map hdA).length = hs.length := by simp
  have hps : ∀ y ∈ hs, y.parent.length ≤ 1000000 := fun y hy => by have := (hd_zero (hJ.1 y hy)).1; omega
  have b0 := bestUp_zero hs
  repeat' (first | refine T_seq ?_ | refine N_then ?_ | refine T_regX tyOk ?_ | refine S_nil ?_ | refine T_block ?_ | apply S_assign | exact gt_any rfl | exact rfl | fail)
  refine T_roundsS (α := Nat) (fun k => ⟨[(0, hdAS hs), (1, rowsA (hs.map hdD)), (5, .int .i64 ((bestUp hs k).1 : Int)), (6, .int .i64 (bestUp hs k).2), (7, .int .i64 k)], [], 0⟩)
    (fun k => hs.length - k) (fun k => k ≤ hs.length) 0 (by rw [b0]; exact ((weak_of (by repeat' (first | exact keepE_nil | refine keepE_cons rfl ?_)) (by repeat' (first | exact keepB_nil | refine keepB_cons (by first | rfl | exact congrArg (fun l => some (Box.mk l _ _ _)) hset) ?_)) (Nat.le_refl _))).sub) (by omega) ?_
  intro k hk
  by_cases hkl : k < hs.length
  · have d1 : decide ((k : Int) < ((hs.map hdA).length : Int)) = true := decide_eq_true (by omega)
    have hcl := chainL_length hs k
    have hwl := wayD_le hs hkl
    have c0 := l5Chain_cv hs k hJ hkl (by omega) hps
    have c1 := l5Weight_cv (chainL hs k) (by omega) (chain_ok hJ hkl)
    have hw : IntKind.wrap .i64 ((k : Int) + 1) = ((k + 1 : Nat) : Int) := by rw [wrap_i64 (by omega) (by omega)]; omega
    by_cases g : (bestUp hs k).2 < wtL (chainL hs k)
    · have d2 := decide_eq_true g
      have e := bestUp_t g
      have e1 : (bestUp hs (k + 1)).1 = k := by rw [e]
      have e2 : (bestUp hs (k + 1)).2 = wtL (chainL hs k) := by rw [e]
      generalize bestUp hs k = b at *
      generalize wtL (chainL hs k) = W at *
      repeat' (first | refine T_seq ?_ | refine N_then ?_ | refine N_block ?_ | refine T_regX tyOk ?_ | refine S_nil ?_ | refine T_skip ?_ | refine T_block ?_ | (apply T_ifT; (· exact rfl); (· (first | assumption | exact rfl))) | apply S_move | apply S_assign | apply S_lss | apply S_gtr | apply S_add | (apply S_len_ls; (· exact rfl); (· exact gt_any rfl)) | apply S_call (f := 86) | apply c0 | apply S_callQ (f := 124) | apply c1 | exact viewL_nil | apply viewL_cons | (apply View.pure; exact PureC.out) | exact FlatC.out | exact PureLC.out | exact gt_any rfl | exact gts_nil | (apply gts_cons; (· exact gt_any rfl)) | assumption | exact rfl | fail)
      refine N_againS (k + 1) ?_ (by omega) (by omega)
      rw [e1, e2]
      exact ((weak_of (by repeat' (first | exact keepE_nil | refine keepE_cons rfl ?_)) (by repeat' (first | exact keepB_nil | refine keepB_cons (by first | rfl | exact congrArg (fun l => some (Box.mk l _ _ _)) hset) ?_)) (Nat.le_refl _))).sub
    · have d2 := decide_eq_false g
      have e := bestUp_f g
      repeat' (first | refine T_seq ?_ | refine N_then ?_ | refine N_block ?_ | refine T_regX tyOk ?_ | refine S_nil ?_ | refine T_skip ?_ | refine T_block ?_ | (apply T_ifT; (· exact rfl); (· (first | assumption | exact rfl))) | (apply T_ifF; (· exact rfl); (· (first | assumption | exact rfl))) | apply S_move | apply S_assign | apply S_lss | apply S_gtr | apply S_add | (apply S_len_ls; (· exact rfl); (· exact gt_any rfl)) | apply S_call (f := 86) | apply c0 | apply S_callQ (f := 124) | apply c1 | exact viewL_nil | apply viewL_cons | (apply View.pure; exact PureC.out) | exact FlatC.out | exact PureLC.out | exact gt_any rfl | exact gts_nil | (apply gts_cons; (· exact gt_any rfl)) | assumption | exact rfl | fail)
      refine N_againS (k + 1) ?_ (by omega) (by omega)
      rw [e]
      exact ((weak_of (by repeat' (first | exact keepE_nil | refine keepE_cons rfl ?_)) (by repeat' (first | exact keepB_nil | refine keepB_cons (by first | rfl | exact congrArg (fun l => some (Box.mk l _ _ _)) hset) ?_)) (Nat.le_refl _))).sub
  · have d1 : decide ((k : Int) < ((hs.map hdA).length : Int)) = false := decide_eq_false (by omega)
    obtain rfl : k = hs.length := by omega
    repeat' (first | refine T_seq ?_ | refine N_then ?_ | refine N_thenE ?_ | refine N_blockE ?_ | refine N_againSE ?_ | refine T_regX tyOk ?_ | refine S_nil ?_ | refine T_ret ?_ | refine T_exit ?_ | (apply E_tmp; (· exact rfl); (· (repeat' (first | exact pure_int _ _ | exact pure_bool _ | exact pure_str _); done))) | (apply T_ifF; (· exact rfl); (· (first | assumption | exact rfl))) | apply S_move | apply S_assign | apply S_lss | (apply S_len_ls; (· exact rfl); (· exact gt_any rfl)) | exact gt_any rfl | exact rfl | fail)

theorem heaviest_cv (hs : List Hd) (hJ : Joined hs) (hl : hs.length ≤ 100) : CV Try.prog 50 [hdAS hs] (· = .int .i64 (bestL hs : Int)) := by
  refine CV_intro tyOk Try.func50 (by kernel_rfl) rfl 37 rfl (by simp) [.tmp 2] rfl ?_
  intro w0 ok0
  have hml : (hs.map hdA).length = hs.length := by simp
  have b0 := bestUp_zero hs
  repeat' (first | refine T_seq ?_ | refine N_then ?_ | refine T_regX tyOk ?_ | refine S_nil ?_ | refine T_block ?_ | apply S_move | apply S_assign | (apply S_len_ls; (· exact rfl); (· exact gt_any rfl)) | exact gt_any rfl | exact rfl | fail)
  refine T_roundsS (α := Nat) (fun k => ⟨[(0, hdAS hs), (3, .int .i64 ((bestUp hs k).1 : Int)), (4, .int .i64 (bestUp hs k).2), (9, hdAS hs), (10, .int .i64 (hs.map hdA).length), (11, .int .i64 k)], [], 0⟩)
    (fun k => hs.length - k) (fun k => k ≤ hs.length) 0 (by rw [b0]; exact ((weak_of (by repeat' (first | exact keepE_nil | refine keepE_cons rfl ?_)) (by repeat' (first | exact keepB_nil | refine keepB_cons (by first | rfl | exact congrArg (fun l => some (Box.mk l _ _ _)) hset) ?_)) (Nat.le_refl _))).sub) (by omega) ?_
  intro k hk
  by_cases hkl : k < hs.length
  · have d1 : decide ((k : Int) < ((hs.map hdA).length : Int)) = true := decide_eq_true (by omega)
    have hcl := chainL_length hs k
    have hwl := wayD_le hs hkl
    have hok := chain_ok hJ hkl
    have c0 := chainTo_cv hs k hJ hkl (by omega)
    have c1 := headsAt_cv hs k hkl (by omega)
    have hw : IntKind.wrap .i64 ((k : Int) + 1) = ((k + 1 : Nat) : Int) := by rw [wrap_i64 (by omega) (by omega)]; omega
    have hbt := @bestUp_t hs k
    have hbf := @bestUp_f hs k
    have hW : wtL (chainL hs k) = wtUp (chainL hs k) (chainL hs k).length := by unfold wtL; rfl
    rw [hW] at hbt hbf
    generalize chainL hs k = C at *
    have hcml : (C.map hdA).length = C.length := by simp
    have w0 : wtUp C 0 = 0 := by unfold wtUp; rfl
    repeat' (first | refine T_seq ?_ | refine N_then ?_ | refine T_regX tyOk ?_ | refine S_nil ?_ | refine T_skip ?_ | refine T_block ?_ | (apply T_ifT; (· exact rfl); (· (first | assumption | exact rfl))) | apply S_move | apply S_assign | apply S_lss | (apply S_len_ls; (· exact rfl); (· exact gt_any rfl)) | apply S_call (f := 93) | apply c0 | apply S_call (f := 92) | apply c1 | exact PureLC.out | exact gt_any rfl | exact gts_nil | (apply gts_cons; (· exact gt_any rfl)) | exact rfl | fail)
    refine T_roundsS (α := Nat) (fun j => ⟨[(0, hdAS hs), (3, .int .i64 ((bestUp hs k).1 : Int)), (4, .int .i64 (bestUp hs k).2), (9, hdAS hs), (10, .int .i64 (hs.map hdA).length), (11, .int .i64 k), (5, .int .i64 k), (6, .int .i64 (wtUp C j)), (18, hdAS C), (19, .int .i64 (C.map hdA).length), (20, .int .i64 j)], [], 0⟩)
      (fun j => C.length - j) (fun j => j ≤ C.length) 0 (by rw [w0]; exact ((weak_of (by repeat' (first | exact keepE_nil | refine keepE_cons rfl ?_)) (by repeat' (first | exact keepB_nil | refine keepB_cons (by first | rfl | exact congrArg (fun l => some (Box.mk l _ _ _)) hset) ?_)) (Nat.le_refl _))).sub) (by omega) ?_
    intro j hj
    by_cases hjl : j < C.length
    · have d2 : decide ((j : Int) < ((C.map hdA).length : Int)) = true := decide_eq_true (by omega)
      have hget := map_getD hdA C Hd0 (k := j) (by omega)
      have hx := hok _ (getD_mem C Hd0 hjl)
      have hst : wtUp C (j + 1) = wtUp C j + wt1 (C.getD j Hd0) := by rw [wtUp]
      have hr := wtUp_range hok j hj
      generalize C.getD j Hd0 = x at *
      have hz := (hd_zero hx).2.2.2.1
      have hr1 := wt1_range hx
      have s1 := wt1_shl hx
      have pz : 0 ≤ x.zeros := hz.1
      have wa : IntKind.wrap .i64 (wtUp C j + wt1 x) = wtUp C (j + 1) := by rw [hst]; exact wrap_i64 (by omega) (by omega)
      have hw2 : IntKind.wrap .i64 ((j : Int) + 1) = ((j + 1 : Nat) : Int) := by rw [wrap_i64 (by omega) (by omega)]; omega
      repeat' (first | refine T_seq ?_ | refine N_then ?_ | refine N_block ?_ | refine T_regX tyOk ?_ | refine S_nil ?_ | refine T_skip ?_ | refine T_block ?_ | (apply T_ifT; (· exact rfl); (· (first | assumption | exact rfl))) | apply S_move | apply S_assign | (apply S_loadP; (· exact rfl); (· exact gt_any rfl); (· exact rfl); (· exact rfl); (· exact rfl); (· (first | exact ⟨rfl, rfl⟩ | exact ⟨rfl, trivial⟩ | assumption))) | (apply S_loadVA; (· exact rfl); (· exact gt_any rfl); (· exact rfl); (· exact rfl)) | (apply S_fieldP; (· exact rfl); (· exact rfl); (· exact rfl); (· exact rfl); (· exact gt_any rfl)) | apply S_lss | apply S_add | apply S_alloc | (apply S_store1; (· exact rfl); (· exact gt_any rfl); (· exact rfl); (· exact rfl); (· exact rfl); (· exact rfl)) | apply S_shlW | (apply S_idxLs; (· exact rfl); (· exact rfl); (· exact gt_any rfl); (· exact gt_any rfl)) | exact gt_any rfl | exact okCells_of rfl rfl | assumption | (refine ⟨?_, ?_⟩ <;> omega) | exact rfl | fail)
      exact N_againS (j + 1) (sub_drop (by repeat' (first | exact keepE_nil | refine keepE_cons rfl ?_)) (by repeat' (first | exact keepB_nil | refine keepB_cons rfl ?_)) (by repeat' (first | exact lowE_nil | apply lowE_cons | exact Low.sl _ _ _ _ (by decide) | exact Low.ptr _ _ _ (by decide) | (apply Low.pure; (first | exact PureC.out | exact PureLC.out | assumption)) | exact lowL_nil | apply lowL_cons | apply low_agg | apply low_tup)) (by repeat' (first | exact lowB_nil | refine lowB_cons (by decide) (by (apply PureB.low; exact PureEC.out)) ?_)) (Nat.zero_le _)) (by omega) (by omega)
    · have d2 : decide ((j : Int) < ((C.map hdA).length : Int)) = false := decide_eq_false (by omega)
      obtain rfl : j = C.length := by omega
      by_cases g : (bestUp hs k).2 < wtUp C C.length
      · have d3 := decide_eq_true g
        have e := hbt g
        have e1 : (bestUp hs (k + 1)).1 = k := by rw [e]
        have e2 : (bestUp hs (k + 1)).2 = wtUp C C.length := by rw [e]
        generalize bestUp hs k = b at *
        repeat' (first | refine T_seq ?_ | refine N_then ?_ | refine N_thenE ?_ | refine N_block ?_ | refine N_blockE ?_ | refine N_againSE ?_ | refine T_regX tyOk ?_ | refine S_nil ?_ | refine T_exit ?_ | (apply T_ifT; (· exact rfl); (· (first | assumption | exact rfl))) | (apply T_ifF; (· exact rfl); (· (first | assumption | exact rfl))) | apply S_move | apply S_assign | apply S_lss | apply S_gtr | apply S_add | exact gt_any rfl | assumption | exact rfl | fail)
        refine N_againS (k + 1) ?_ (by omega) (by omega)
        rw [e1, e2]
        exact ((weak_of (by repeat' (first | exact keepE_nil | refine keepE_cons rfl ?_)) (by repeat' (first | exact keepB_nil | refine keepB_cons (by first | rfl | exact congrArg (fun l => some (Box.mk l _ _ _)) hset) ?_)) (Nat.le_refl _))).sub
      · have d3 := decide_eq_false g
        have e := hbf g
        repeat' (first | refine T_seq ?_ | refine N_then ?_ | refine N_thenE ?_ | refine N_block ?_ | refine N_blockE ?_ | refine N_againSE ?_ | refine T_regX tyOk ?_ | refine S_nil ?_ | refine T_skip ?_ | refine T_exit ?_ | (apply T_ifF; (· exact rfl); (· (first | assumption | exact rfl))) | apply S_move | apply S_lss | apply S_gtr | apply S_add | exact gt_any rfl | assumption | exact rfl | fail)
        refine N_againS (k + 1) ?_ (by omega) (by omega)
        rw [e]
        exact ((weak_of (by repeat' (first | exact keepE_nil | refine keepE_cons rfl ?_)) (by repeat' (first | exact keepB_nil | refine keepB_cons (by first | rfl | exact congrArg (fun l => some (Box.mk l _ _ _)) hset) ?_)) (Nat.le_refl _))).sub
  · have d1 : decide ((k : Int) < ((hs.map hdA).length : Int)) = false := decide_eq_false (by omega)
    obtain rfl : k = hs.length := by omega
    repeat' (first | refine T_seq ?_ | refine N_then ?_ | refine N_thenE ?_ | refine N_blockE ?_ | refine N_againSE ?_ | refine T_regX tyOk ?_ | refine S_nil ?_ | refine T_ret ?_ | refine T_exit ?_ | (apply E_tmp; (· exact rfl); (· (repeat' (first | exact pure_int _ _ | exact pure_bool _ | exact pure_str _); done))) | (apply T_ifF; (· exact rfl); (· (first | assumption | exact rfl))) | apply S_move | apply S_assign | apply S_lss | exact gt_any rfl | exact rfl | fail)

end Go.Proofs.Ytaolmfgpebncjaa
