/- Sets of validators. -/
import Derived.Test.YthfikpgbddpmoaaRe
import Derived.Test.YthfikpgbddpmoaaZc
import Derived.Test.YthfikpgbddpmoaaZh
set_option maxRecDepth 100000
set_option maxHeartbeats 3200000
set_option linter.unusedSimpArgs false
set_option linter.unusedVariables false
namespace Go.Proofs.Ythfikpgbddpmoaa
open Go.Av
attribute [local irreducible] T thenQ blockQ againQ againS WX retV retR Gt Gts GtsP okCells CV CR Av.Pure
attribute [local irreducible] sha

theorem indexVld_cv (g : Nat) (caps : List AV) (l : List Vld) (p : Vld → Bool) (hp : PureC (.fn g caps)) (hv : ViewL [] caps caps) (hl : l.length ≤ 1000000000) (hc : ∀ x ∈ l, CV Try.prog g (vldA x :: caps) (· = .bool (p x))) :
    CV Try.prog 209 [vldAS l, .fn g caps] (· = .int .i64 (idxL p l)) := by
  refine CV_intro tyOk Try.func209 (by kernel_rfl) rfl 19 rfl (by simp) [.tmp 4] rfl ?_
  intro w0 ok0
  have hml : (l.map vldA).length = l.length := by simp
  have hF : idxL p l = fiGo p (l.drop 0) 0 := rfl
  repeat' (first | refine T_seq ?_ | refine N_then ?_ | refine T_regX tyOk ?_ | refine S_nil ?_ | refine T_block ?_ | apply S_move | apply S_assign | (apply S_len_ls; (· exact rfl); (· exact gt_any rfl)) | exact gt_any rfl | exact rfl | fail)
  refine T_roundsS (α := Nat) (fun k => ⟨[(0, vldAS l), (1, .fn g caps), (7, .int .i64 (l.map vldA).length), (8, .int .i64 k)], [], 0⟩)
    (fun k => l.length - k) (fun k => k ≤ l.length ∧ idxL p l = fiGo p (l.drop k) k) 0 ((weak_of (by repeat' (first | exact keepE_nil | refine keepE_cons rfl ?_)) (by repeat' (first | exact keepB_nil | refine keepB_cons (by first | rfl | exact congrArg (fun l => some (Box.mk l _ _ _)) hset) ?_)) (Nat.le_refl _))).sub ⟨by omega, hF⟩ ?_
  rintro k ⟨hk, hI⟩
  by_cases hkl : k < l.length
  · have d : decide ((k : Int) < ((l.map vldA).length : Int)) = true := by simp only [decide_eq_true_eq]; omega
    have hget := map_getD vldA l Vld0 (k := k) (by omega)
    rw [fiGo_step p l Vld0 hkl] at hI
    have c0 := hc _ (getD_mem l Vld0 hkl)
    by_cases he : p (l.getD k Vld0) = true
    · rw [if_pos he] at hI
      rw [hI]
      rw [he] at c0
      repeat' (first | refine T_seq ?_ | refine N_then ?_ | refine N_thenR ?_ | refine N_blockR ?_ | refine N_againSR ?_ | refine T_regX tyOk ?_ | refine S_nil ?_ | refine T_skip ?_ | refine T_ret ?_ | refine T_block ?_ | (apply E_tmp; (· exact rfl); (· (repeat' (first | exact pure_int _ _ | exact pure_bool _ | exact pure_str _); done))) | (apply T_ifT; (· exact rfl); (· (first | assumption | exact rfl))) | apply S_move | apply S_assign | (apply S_loadVA; (· exact rfl); (· exact gt_any rfl); (· exact rfl); (· exact rfl)) | apply S_lss | (apply S_idxLs; (· exact rfl); (· exact rfl); (· exact gt_any rfl); (· exact gt_any rfl)) | apply S_callFC | apply c0 | apply viewL_cons | (apply View.pure; exact PureC.out) | exact FlatC.out | exact gt_any rfl | exact gts_nil | (apply gts_cons; (· exact gt_any rfl)) | assumption | (refine ⟨?_, ?_⟩ <;> omega) | exact rfl | fail)
    · rw [if_neg he] at hI
      simp only [Bool.not_eq_true] at he
      rw [he] at c0
      have hw : IntKind.wrap .i64 ((k : Int) + 1) = ((k + 1 : Nat) : Int) := by rw [wrap_i64 (by omega) (by omega)]; omega
      repeat' (first | refine T_seq ?_ | refine N_then ?_ | refine N_block ?_ | refine T_regX tyOk ?_ | refine S_nil ?_ | refine T_skip ?_ | refine T_block ?_ | (apply T_ifT; (· exact rfl); (· (first | assumption | exact rfl))) | (apply T_ifF; (· exact rfl); (· (first | assumption | exact rfl))) | apply S_move | apply S_assign | (apply S_loadVA; (· exact rfl); (· exact gt_any rfl); (· exact rfl); (· exact rfl)) | apply S_lss | apply S_add | (apply S_idxLs; (· exact rfl); (· exact rfl); (· exact gt_any rfl); (· exact gt_any rfl)) | apply S_callFC | apply c0 | apply viewL_cons | (apply View.pure; exact PureC.out) | exact FlatC.out | exact gt_any rfl | exact gts_nil | (apply gts_cons; (· exact gt_any rfl)) | assumption | (refine ⟨?_, ?_⟩ <;> omega) | exact rfl | fail)
      exact N_againS (k + 1) ((weak_of (by repeat' (first | exact keepE_nil | refine keepE_cons rfl ?_)) (by repeat' (first | exact keepB_nil | refine keepB_cons (by first | rfl | exact congrArg (fun l => some (Box.mk l _ _ _)) hset) ?_)) (Nat.le_refl _))).sub ⟨by omega, hI⟩ (by omega)
  · have d : decide ((k : Int) < ((l.map vldA).length : Int)) = false := by simp only [decide_eq_false_iff_not]; omega
    obtain rfl : k = l.length := by omega
    rw [List.drop_length] at hI
    rw [hI]
    repeat' (first | refine T_seq ?_ | refine N_then ?_ | refine N_thenE ?_ | refine N_blockE ?_ | refine N_againSE ?_ | refine T_regX tyOk ?_ | refine S_nil ?_ | refine T_ret ?_ | refine T_exit ?_ | (apply E_tmp; (· exact rfl); (· (repeat' (first | exact pure_int _ _ | exact pure_bool _ | exact pure_str _); done))) | (apply T_ifF; (· exact rfl); (· (first | assumption | exact rfl))) | apply S_assign | apply S_lss | exact gt_any rfl | exact rfl | fail)

def hasKey (key : List UInt8) (v : Vld) : Bool := decide (v.key = key)

theorem keyAt1_cv (v : Vld) (key : List UInt8) : CV Try.prog 210 [vldA v, .vp [byA key]] (· = .bool (hasKey key v)) := by
  refine CV_intro tyOk Try.func210 (by kernel_rfl) rfl 8 rfl (by simp) [.tmp 3] rfl ?_
  intro w0 ok0
  have c0 := equal_cv v.key key
  unfold hasKey
  repeat' (first | refine T_seq ?_ | refine N_then ?_ | refine T_regX tyOk ?_ | refine S_nil ?_ | refine T_ret ?_ | (apply E_tmp; (· exact rfl); (· (repeat' (first | exact pure_int _ _ | exact pure_bool _ | exact pure_str _); done))) | apply S_assign | (apply S_loadP; (· exact rfl); (· exact gt_any rfl); (· exact rfl); (· exact rfl); (· exact rfl); (· (first | exact ⟨rfl, rfl⟩ | exact ⟨rfl, trivial⟩ | assumption))) | (apply S_loadV; (· exact rfl); (· exact gt_any rfl); (· exact rfl); (· (first | exact ⟨rfl, rfl⟩ | exact ⟨rfl, trivial⟩ | assumption))) | (apply S_fieldP; (· exact rfl); (· exact rfl); (· exact rfl); (· exact rfl); (· exact gt_any rfl)) | apply S_box | apply S_callQ (f := 141) | apply c0 | exact viewL_nil | apply viewL_cons | (apply View.pure; exact PureC.out) | exact FlatC.out | exact gt_any rfl | exact gts_nil | (apply gts_cons; (· exact gt_any rfl)) | exact okCells_of rfl rfl | exact rfl | fail)

theorem keyAt_cv (l : List Vld) (key : List UInt8) (h : l.length ≤ 1000000) : CV Try.prog 192 [vldAS l, byA key] (· = .int .i64 (idxL (hasKey key) l)) := by
  refine CV_intro tyOk Try.func192 (by kernel_rfl) rfl 8 rfl (by simp) [.tmp 4] rfl ?_
  intro w0 ok0
  have hl : (l.map vldA).length = l.length := by simp
  have c0 := indexVld_cv 210 [.vp [byA key]] l (hasKey key) inferInstance (by repeat' (first | exact viewL_nil | apply viewL_cons | (apply View.pure; exact PureC.out))) (by omega) (fun x _ => keyAt1_cv x key)
  repeat' (first | refine T_seq ?_ | refine N_then ?_ | refine T_regX tyOk ?_ | refine S_nil ?_ | refine T_ret ?_ | (apply E_tmp; (· exact rfl); (· (repeat' (first | exact pure_int _ _ | exact pure_bool _ | exact pure_str _); done))) | apply S_move | apply S_assign | apply S_box | apply S_mkfn | apply S_callQ (f := 209) | apply c0 | exact viewL_nil | apply viewL_cons | (apply View.pure; exact PureC.out) | (apply view_ptr; (· exact rfl); (· exact rfl)) | exact FlatC.out | apply view_fn | exact gt_any rfl | exact gts_nil | (apply gts_cons; (· exact gt_any rfl)) | exact okCells_of rfl rfl | exact rfl | fail)

def setStep (l : List Vld) (i : Nat) : Int :=
  if ¬ (l.getD i Vld0).key.length = 32 then 1 else if ¬ (1 ≤ (l.getD i Vld0).power ∧ (l.getD i Vld0).power ≤ 1000) then 3 else if (l.take i).any (hasKey (l.getD i Vld0).key) then 7 else 0
def setGo (l : List Vld) : Nat → Nat → Int
  | 0, _ => 0
  | n + 1, i => if setStep l i = 0 then setGo l n (i + 1) else setStep l i
def setFault (l : List Vld) : Int := if l.length = 0 then 4 else if 5 < l.length then 2 else setGo l l.length 0
theorem setStep_key {l : List Vld} {i : Nat} (h : ¬ (l.getD i Vld0).key.length = 32) : setStep l i = 1 := if_pos h
theorem setStep_pow {l : List Vld} {i : Nat} (h : (l.getD i Vld0).key.length = 32) (h2 : ¬ (1 ≤ (l.getD i Vld0).power ∧ (l.getD i Vld0).power ≤ 1000)) : setStep l i = 3 := by
  unfold setStep; rw [if_neg (fun k => k h), if_pos h2]
theorem setStep_tak {l : List Vld} {i : Nat} (h : (l.getD i Vld0).key.length = 32) (h2 : 1 ≤ (l.getD i Vld0).power ∧ (l.getD i Vld0).power ≤ 1000) (h3 : (l.take i).any (hasKey (l.getD i Vld0).key) = true) : setStep l i = 7 := by
  unfold setStep; rw [if_neg (fun k => k h), if_neg (fun k => k h2), if_pos h3]
theorem setStep_ok {l : List Vld} {i : Nat} (h : (l.getD i Vld0).key.length = 32) (h2 : 1 ≤ (l.getD i Vld0).power ∧ (l.getD i Vld0).power ≤ 1000) (h3 : (l.take i).any (hasKey (l.getD i Vld0).key) = false) : setStep l i = 0 := by
  unfold setStep; rw [if_neg (fun k => k h), if_neg (fun k => k h2), if_neg (by rw [h3]; decide)]
theorem setGo_ok (l : List Vld) : ∀ (n i : Nat), setGo l n i = 0 → ∀ j, i ≤ j → j < i + n → setStep l j = 0
  | 0, i, _, j, h1, h2 => by omega
  | n + 1, i, h, j, h1, h2 => by
    rw [setGo] at h
    by_cases h0 : setStep l i = 0
    · rw [if_pos h0] at h
      by_cases e : j = i
      · rw [e]; exact h0
      · exact setGo_ok l n (i + 1) h j (by omega) (by omega)
    · rw [if_neg h0] at h; exact absurd h h0
theorem setStep_zero {l : List Vld} {i : Nat} (h : setStep l i = 0) : (l.getD i Vld0).key.length = 32 ∧ (1 ≤ (l.getD i Vld0).power ∧ (l.getD i Vld0).power ≤ 1000) ∧ (l.take i).any (hasKey (l.getD i Vld0).key) = false := by
  unfold setStep at h
  split at h
  · cases h
  · split at h
    · cases h
    · split at h
      · cases h
      · rename_i a b c
        exact ⟨Classical.not_not.1 a, Classical.not_not.1 b, by simpa using c⟩
theorem setFault_zero {l : List Vld} (h : setFault l = 0) : 1 ≤ l.length ∧ l.length ≤ 5 ∧ ∀ i, i < l.length → (l.getD i Vld0).key.length = 32 ∧ (1 ≤ (l.getD i Vld0).power ∧ (l.getD i Vld0).power ≤ 1000) ∧ (l.take i).any (hasKey (l.getD i Vld0).key) = false := by
  unfold setFault at h
  split at h
  · cases h
  · split at h
    · cases h
    · rename_i a b
      exact ⟨by omega, by omega, fun i hi => setStep_zero (setGo_ok l l.length 0 h i (by omega) (by omega))⟩

theorem setFault_cv (l : List Vld) (h : l.length ≤ 1048576) : CV Try.prog 140 [vldAS l] (· = .int .i64 (setFault l)) := by
  refine CV_intro tyOk Try.func140 (by kernel_rfl) rfl 39 rfl (by simp) [.tmp 2] rfl ?_
  intro w0 ok0
  have hl : (l.map vldA).length = l.length := by simp
  by_cases h0 : l.length = 0
  · have d0 : decide (((l.map vldA).length : Int) = 0) = true := decide_eq_true (by omega)
    rw [show setFault l = 4 from if_pos h0]
    repeat' (first | refine T_seq ?_ | refine N_then ?_ | refine N_thenR ?_ | refine N_blockR ?_ | refine T_regX tyOk ?_ | refine S_nil ?_ | refine T_ret ?_ | refine T_block ?_ | (apply E_tmp; (· exact rfl); (· (repeat' (first | exact pure_int _ _ | exact pure_bool _ | exact pure_str _); done))) | (apply T_ifT; (· exact rfl); (· (first | assumption | exact rfl))) | apply S_move | apply S_assign | (apply S_eql; (· exact gt_any rfl); (· exact gt_any rfl)) | (apply S_len_ls; (· exact rfl); (· exact gt_any rfl)) | exact gt_any rfl | exact rfl | fail)
  have d0 : decide (((l.map vldA).length : Int) = 0) = false := decide_eq_false (by omega)
  by_cases h5 : 5 < l.length
  · have d1 : decide ((5 : Int) < ((l.map vldA).length : Int)) = true := decide_eq_true (by omega)
    rw [show setFault l = 2 by unfold setFault; rw [if_neg h0, if_pos h5]]
    repeat' (first | refine T_seq ?_ | refine N_then ?_ | refine N_thenR ?_ | refine N_blockR ?_ | refine T_regX tyOk ?_ | refine S_nil ?_ | refine T_ret ?_ | refine T_block ?_ | (apply E_tmp; (· exact rfl); (· (repeat' (first | exact pure_int _ _ | exact pure_bool _ | exact pure_str _); done))) | (apply T_ifT; (· exact rfl); (· (first | assumption | exact rfl))) | (apply T_ifF; (· exact rfl); (· (first | assumption | exact rfl))) | apply S_move | apply S_assign | apply S_gtr | (apply S_eql; (· exact gt_any rfl); (· exact gt_any rfl)) | (apply S_len_ls; (· exact rfl); (· exact gt_any rfl)) | exact gt_any rfl | exact rfl | fail)
  have d1 : decide ((5 : Int) < ((l.map vldA).length : Int)) = false := decide_eq_false (by omega)
  have hF : setFault l = setGo l (l.length - 0) 0 := by unfold setFault; rw [if_neg h0, if_neg h5]; rfl
  rw [hF]
  generalize hR : setGo l (l.length - 0) 0 = R at *
  repeat' (first | refine T_seq ?_ | refine N_then ?_ | refine N_block ?_ | refine T_regX tyOk ?_ | refine S_nil ?_ | refine T_skip ?_ | refine T_block ?_ | (apply T_ifF; (· exact rfl); (· (first | assumption | exact rfl))) | apply S_move | apply S_assign | apply S_gtr | (apply S_eql; (· exact gt_any rfl); (· exact gt_any rfl)) | (apply S_len_ls; (· exact rfl); (· exact gt_any rfl)) | exact gt_any rfl | exact rfl | fail)
  refine T_roundsS (α := Nat) (fun k => ⟨[(0, vldAS l), (13, vldAS l), (14, .int .i64 (l.map vldA).length), (15, .int .i64 k)], [], 0⟩)
    (fun k => l.length - k) (fun k => k ≤ l.length ∧ R = setGo l (l.length - k) k) 0 ((weak_of (by repeat' (first | exact keepE_nil | refine keepE_cons rfl ?_)) (by repeat' (first | exact keepB_nil | refine keepB_cons (by first | rfl | exact congrArg (fun l => some (Box.mk l _ _ _)) hset) ?_)) (Nat.le_refl _))).sub ⟨by omega, hR.symm⟩ ?_
  rintro k ⟨hk, hI⟩
  by_cases hkl : k < l.length
  · have d2 : decide ((k : Int) < ((l.map vldA).length : Int)) = true := decide_eq_true (by omega)
    have hget := map_getD vldA l Vld0 (k := k) (by omega)
    have hw : IntKind.wrap .i64 ((k : Int) + 1) = ((k + 1 : Nat) : Int) := by rw [wrap_i64 (by omega) (by omega)]; omega
    have t1 := map_takeF vldA l k
    have c0 := isDigest_cv (l.getD k Vld0).key
    have c1 := keyAt_cv (l.take k) (l.getD k Vld0).key (by rw [List.length_take]; omega)
    have hany := idxL_any (hasKey (l.getD k Vld0).key) (l.take k)
    rw [show l.length - k = (l.length - (k + 1)) + 1 by omega, setGo] at hI
    by_cases g1 : (l.getD k Vld0).key.length = 32
    · have e1 : (!decide ((l.getD k Vld0).key.length = 32)) = false := by rw [decide_eq_true g1]; rfl
      by_cases g2 : 1 ≤ (l.getD k Vld0).power ∧ (l.getD k Vld0).power ≤ 1000
      · have e2 : (!(decide (1 ≤ (l.getD k Vld0).power) && decide ((l.getD k Vld0).power ≤ 1000))) = false := rng_t g2
        cases g3 : (l.take k).any (hasKey (l.getD k Vld0).key) with
        | true =>
          rw [g3] at hany
          rw [setStep_tak g1 g2 g3, if_neg (by decide)] at hI
          rw [hI]
          repeat' (first | refine T_seq ?_ | refine N_then ?_ | refine N_thenR ?_ | refine N_blockR ?_ | refine N_againSR ?_ | refine T_regX tyOk ?_ | (apply T_drawM (id := 12) 5 tyOk mixed; (· exact rfl); (· exact rfl); (· kernel_rfl); (· exact Nat.le_of_ble_eq_true rfl)) | refine S_nil ?_ | refine T_skip ?_ | refine T_ret ?_ | refine T_block ?_ | (apply E_tmp; (· exact rfl); (· (repeat' (first | exact pure_int _ _ | exact pure_bool _ | exact pure_str _); done))) | (apply T_ifT; (· exact rfl); (· (first | assumption | exact rfl))) | (apply T_ifF; (· exact rfl); (· (first | assumption | exact rfl))) | apply S_move | apply S_assign | (apply S_loadP; (· exact rfl); (· exact gt_any rfl); (· exact rfl); (· exact rfl); (· exact rfl); (· (first | exact ⟨rfl, rfl⟩ | exact ⟨rfl, trivial⟩ | assumption))) | (apply S_loadVA; (· exact rfl); (· exact gt_any rfl); (· exact rfl); (· exact rfl)) | (apply S_fieldP; (· exact rfl); (· exact rfl); (· exact rfl); (· exact rfl); (· exact gt_any rfl)) | apply S_lss | apply S_geq | apply S_not | apply S_alloc | (apply S_store1; (· exact rfl); (· exact gt_any rfl); (· exact rfl); (· exact rfl); (· exact rfl); (· exact rfl)) | (apply S_idxLs; (· exact rfl); (· exact rfl); (· exact gt_any rfl); (· exact gt_any rfl)) | (apply M_slLs; (· exact rfl); (· exact rfl); (· exact gt_any rfl); (· exact rfl)) | apply S_callQ (f := 145) | apply c0 | apply S_callQ (f := 192) | apply c1 | apply S_callQ (f := 86) | apply in_cv | exact viewL_nil | apply viewL_cons | (apply View.pure; exact PureC.out) | (apply mtake; first | assumption | exact take_full (by first | rfl | (simp; done)) | exact rfl) | exact FlatC.out | (apply mlen; first | exact rfl | assumption | exact Nat.le_of_ble_eq_true rfl | omega | (simp [bA_length]; done) | (simp [bA_length]; omega)) | (apply mtake; first | assumption | exact take_full (by first | rfl | (simp; done)) | exact rfl) | (apply mnat; first | exact Int.toNat_natCast _ | exact rfl) | exact Bd.no _ | (apply bd_at; (· exact gt_any rfl)) | exact gt_any rfl | exact gts_nil | (apply gts_cons; (· exact gt_any rfl)) | exact okCells_of rfl rfl | assumption | (refine ⟨?_, ?_⟩ <;> omega) | omega | exact rfl | fail)
        | false =>
          rw [g3] at hany
          rw [setStep_ok g1 g2 g3, if_pos rfl] at hI
          repeat' (first | refine T_seq ?_ | refine N_then ?_ | refine N_block ?_ | refine T_regX tyOk ?_ | (apply T_drawM (id := 12) 5 tyOk mixed; (· exact rfl); (· exact rfl); (· kernel_rfl); (· exact Nat.le_of_ble_eq_true rfl)) | refine S_nil ?_ | refine T_skip ?_ | refine T_block ?_ | (apply T_ifT; (· exact rfl); (· (first | assumption | exact rfl))) | (apply T_ifF; (· exact rfl); (· (first | assumption | exact rfl))) | apply S_move | apply S_assign | (apply S_loadP; (· exact rfl); (· exact gt_any rfl); (· exact rfl); (· exact rfl); (· exact rfl); (· (first | exact ⟨rfl, rfl⟩ | exact ⟨rfl, trivial⟩ | assumption))) | (apply S_loadVA; (· exact rfl); (· exact gt_any rfl); (· exact rfl); (· exact rfl)) | (apply S_fieldP; (· exact rfl); (· exact rfl); (· exact rfl); (· exact rfl); (· exact gt_any rfl)) | apply S_lss | apply S_geq | apply S_add | apply S_not | apply S_alloc | (apply S_store1; (· exact rfl); (· exact gt_any rfl); (· exact rfl); (· exact rfl); (· exact rfl); (· exact rfl)) | (apply S_idxLs; (· exact rfl); (· exact rfl); (· exact gt_any rfl); (· exact gt_any rfl)) | (apply M_slLs; (· exact rfl); (· exact rfl); (· exact gt_any rfl); (· exact rfl)) | apply S_callQ (f := 145) | apply c0 | apply S_callQ (f := 192) | apply c1 | apply S_callQ (f := 86) | apply in_cv | exact viewL_nil | apply viewL_cons | (apply View.pure; exact PureC.out) | (apply mtake; first | assumption | exact take_full (by first | rfl | (simp; done)) | exact rfl) | exact FlatC.out | (apply mlen; first | exact rfl | assumption | exact Nat.le_of_ble_eq_true rfl | omega | (simp [bA_length]; done) | (simp [bA_length]; omega)) | (apply mtake; first | assumption | exact take_full (by first | rfl | (simp; done)) | exact rfl) | (apply mnat; first | exact Int.toNat_natCast _ | exact rfl) | exact Bd.no _ | (apply bd_at; (· exact gt_any rfl)) | exact gt_any rfl | exact gts_nil | (apply gts_cons; (· exact gt_any rfl)) | exact okCells_of rfl rfl | assumption | (refine ⟨?_, ?_⟩ <;> omega) | omega | exact rfl | fail)
          exact N_againS (k + 1) (sub_drop (by repeat' (first | exact keepE_nil | refine keepE_cons rfl ?_)) (by repeat' (first | exact keepB_nil | refine keepB_cons rfl ?_)) (by repeat' (first | exact lowE_nil | apply lowE_cons | exact Low.sl _ _ _ _ (by decide) | exact Low.ptr _ _ _ (by decide) | (apply Low.pure; (first | exact PureC.out | exact PureLC.out | assumption)) | exact lowL_nil | apply lowL_cons | apply low_agg | apply low_tup)) (by repeat' (first | exact lowB_nil | refine lowB_cons (by decide) (by (apply PureB.low; exact PureEC.out)) ?_)) (Nat.zero_le _)) ⟨by omega, hI⟩ (by omega)
      · have e2 : (!(decide (1 ≤ (l.getD k Vld0).power) && decide ((l.getD k Vld0).power ≤ 1000))) = true := rng_f g2
        rw [setStep_pow g1 g2, if_neg (by decide)] at hI
        rw [hI]
        repeat' (first | refine T_seq ?_ | refine N_then ?_ | refine N_thenR ?_ | refine N_blockR ?_ | refine N_againSR ?_ | refine T_regX tyOk ?_ | refine S_nil ?_ | refine T_skip ?_ | refine T_ret ?_ | refine T_block ?_ | (apply E_tmp; (· exact rfl); (· (repeat' (first | exact pure_int _ _ | exact pure_bool _ | exact pure_str _); done))) | (apply T_ifT; (· exact rfl); (· (first | assumption | exact rfl))) | (apply T_ifF; (· exact rfl); (· (first | assumption | exact rfl))) | apply S_move | apply S_assign | (apply S_loadP; (· exact rfl); (· exact gt_any rfl); (· exact rfl); (· exact rfl); (· exact rfl); (· (first | exact ⟨rfl, rfl⟩ | exact ⟨rfl, trivial⟩ | assumption))) | (apply S_loadVA; (· exact rfl); (· exact gt_any rfl); (· exact rfl); (· exact rfl)) | (apply S_fieldP; (· exact rfl); (· exact rfl); (· exact rfl); (· exact rfl); (· exact gt_any rfl)) | apply S_lss | apply S_not | apply S_alloc | (apply S_store1; (· exact rfl); (· exact gt_any rfl); (· exact rfl); (· exact rfl); (· exact rfl); (· exact rfl)) | (apply S_idxLs; (· exact rfl); (· exact rfl); (· exact gt_any rfl); (· exact gt_any rfl)) | apply S_callQ (f := 145) | apply c0 | apply S_callQ (f := 86) | apply in_cv | exact viewL_nil | apply viewL_cons | (apply View.pure; exact PureC.out) | exact FlatC.out | exact gt_any rfl | exact gts_nil | (apply gts_cons; (· exact gt_any rfl)) | exact okCells_of rfl rfl | assumption | (refine ⟨?_, ?_⟩ <;> omega) | exact rfl | fail)
    · have e1 : (!decide ((l.getD k Vld0).key.length = 32)) = true := by rw [decide_eq_false g1]; rfl
      rw [setStep_key g1, if_neg (by decide)] at hI
      rw [hI]
      repeat' (first | refine T_seq ?_ | refine N_then ?_ | refine N_thenR ?_ | refine N_blockR ?_ | refine N_againSR ?_ | refine T_regX tyOk ?_ | refine S_nil ?_ | refine T_skip ?_ | refine T_ret ?_ | refine T_block ?_ | (apply E_tmp; (· exact rfl); (· (repeat' (first | exact pure_int _ _ | exact pure_bool _ | exact pure_str _); done))) | (apply T_ifT; (· exact rfl); (· (first | assumption | exact rfl))) | apply S_move | apply S_assign | (apply S_loadP; (· exact rfl); (· exact gt_any rfl); (· exact rfl); (· exact rfl); (· exact rfl); (· (first | exact ⟨rfl, rfl⟩ | exact ⟨rfl, trivial⟩ | assumption))) | (apply S_loadVA; (· exact rfl); (· exact gt_any rfl); (· exact rfl); (· exact rfl)) | (apply S_fieldP; (· exact rfl); (· exact rfl); (· exact rfl); (· exact rfl); (· exact gt_any rfl)) | apply S_lss | apply S_not | apply S_alloc | (apply S_store1; (· exact rfl); (· exact gt_any rfl); (· exact rfl); (· exact rfl); (· exact rfl); (· exact rfl)) | (apply S_idxLs; (· exact rfl); (· exact rfl); (· exact gt_any rfl); (· exact gt_any rfl)) | apply S_callQ (f := 145) | apply c0 | exact viewL_nil | apply viewL_cons | (apply View.pure; exact PureC.out) | exact FlatC.out | exact gt_any rfl | exact gts_nil | (apply gts_cons; (· exact gt_any rfl)) | exact okCells_of rfl rfl | assumption | (refine ⟨?_, ?_⟩ <;> omega) | exact rfl | fail)
  · have d2 : decide ((k : Int) < ((l.map vldA).length : Int)) = false := decide_eq_false (by omega)
    obtain rfl : k = l.length := by omega
    rw [Nat.sub_self, setGo] at hI
    rw [hI]
    repeat' (first | refine T_seq ?_ | refine N_then ?_ | refine N_thenE ?_ | refine N_blockE ?_ | refine N_againSE ?_ | refine T_regX tyOk ?_ | refine S_nil ?_ | refine T_ret ?_ | refine T_exit ?_ | (apply E_tmp; (· exact rfl); (· (repeat' (first | exact pure_int _ _ | exact pure_bool _ | exact pure_str _); done))) | (apply T_ifF; (· exact rfl); (· (first | assumption | exact rfl))) | apply S_assign | apply S_lss | exact gt_any rfl | exact rfl | fail)

theorem specSetFault_cv (l : List Vld) (h : l.length ≤ 1048576) (hk : ∀ v ∈ l, v.key.length ≤ 1048576) : CV Try.prog 134 [vldAS l] (· = .int .i64 (setFault l)) := by
  refine CV_intro tyOk Try.func134 (by kernel_rfl) rfl 47 rfl (by simp) [.tmp 2] rfl ?_
  intro w0 ok0
  have hl : (l.map vldA).length = l.length := by simp
  by_cases h0 : l.length = 0
  · have d0 : decide (((l.map vldA).length : Int) = 0) = true := decide_eq_true (by omega)
    rw [show setFault l = 4 from if_pos h0]
    repeat' (first | refine T_seq ?_ | refine N_then ?_ | refine N_thenR ?_ | refine T_regX tyOk ?_ | refine S_nil ?_ | refine T_ret ?_ | (apply E_tmp; (· exact rfl); (· (repeat' (first | exact pure_int _ _ | exact pure_bool _ | exact pure_str _); done))) | (apply T_ifT; (· exact rfl); (· (first | assumption | exact rfl))) | apply S_move | apply S_assign | (apply S_eql; (· exact gt_any rfl); (· exact gt_any rfl)) | (apply S_len_ls; (· exact rfl); (· exact gt_any rfl)) | exact gt_any rfl | exact rfl | fail)
  have d0 : decide (((l.map vldA).length : Int) = 0) = false := decide_eq_false (by omega)
  by_cases h5 : 5 < l.length
  · have d1 : decide ((5 : Int) < ((l.map vldA).length : Int)) = true := decide_eq_true (by omega)
    rw [show setFault l = 2 by unfold setFault; rw [if_neg h0, if_pos h5]]
    repeat' (first | refine T_seq ?_ | refine N_then ?_ | refine N_thenR ?_ | refine T_regX tyOk ?_ | refine S_nil ?_ | refine T_skip ?_ | refine T_ret ?_ | (apply E_tmp; (· exact rfl); (· (repeat' (first | exact pure_int _ _ | exact pure_bool _ | exact pure_str _); done))) | (apply T_ifT; (· exact rfl); (· (first | assumption | exact rfl))) | (apply T_ifF; (· exact rfl); (· (first | assumption | exact rfl))) | apply S_move | apply S_assign | apply S_gtr | (apply S_eql; (· exact gt_any rfl); (· exact gt_any rfl)) | (apply S_len_ls; (· exact rfl); (· exact gt_any rfl)) | exact gt_any rfl | exact rfl | fail)
  have d1 : decide ((5 : Int) < ((l.map vldA).length : Int)) = false := decide_eq_false (by omega)
  have hF : setFault l = setGo l (l.length - 0) 0 := by unfold setFault; rw [if_neg h0, if_neg h5]; rfl
  rw [hF]
  generalize hR : setGo l (l.length - 0) 0 = R at *
  repeat' (first | refine T_seq ?_ | refine N_then ?_ | refine T_regX tyOk ?_ | refine S_nil ?_ | refine T_skip ?_ | refine T_block ?_ | (apply T_ifF; (· exact rfl); (· (first | assumption | exact rfl))) | apply S_move | apply S_assign | apply S_gtr | (apply S_eql; (· exact gt_any rfl); (· exact gt_any rfl)) | (apply S_len_ls; (· exact rfl); (· exact gt_any rfl)) | exact gt_any rfl | exact rfl | fail)
  refine T_roundsS (α := Nat) (fun k => ⟨[(0, vldAS l), (3, .int .i64 k)], [], 0⟩)
    (fun k => l.length - k) (fun k => k ≤ l.length ∧ R = setGo l (l.length - k) k) 0 ((weak_of (by repeat' (first | exact keepE_nil | refine keepE_cons rfl ?_)) (by repeat' (first | exact keepB_nil | refine keepB_cons (by first | rfl | exact congrArg (fun l => some (Box.mk l _ _ _)) hset) ?_)) (Nat.le_refl _))).sub ⟨by omega, hR.symm⟩ ?_
  rintro k ⟨hk', hI⟩
  by_cases hkl : k < l.length
  · have d2 : decide ((k : Int) < ((l.map vldA).length : Int)) = true := decide_eq_true (by omega)
    have hget := map_getD vldA l Vld0 (k := k) (by omega)
    have hw : IntKind.wrap .i64 ((k : Int) + 1) = ((k + 1 : Nat) : Int) := by rw [wrap_i64 (by omega) (by omega)]; omega
    have hkb := hk _ (getD_mem l Vld0 hkl)
    have hbl := bA_length (l.getD k Vld0).key
    rw [show l.length - k = (l.length - (k + 1)) + 1 by omega, setGo] at hI
    by_cases g1 : (l.getD k Vld0).key.length = 32
    · have e1 : (!decide (((bA (l.getD k Vld0).key).length : Int) = 32)) = false := by rw [decide_eq_true (by omega)]; rfl
      by_cases g2 : 1 ≤ (l.getD k Vld0).power ∧ (l.getD k Vld0).power ≤ 1000
      · have e2 : (!(decide (1 ≤ (l.getD k Vld0).power) && decide ((l.getD k Vld0).power ≤ 1000))) = false := rng_t g2
        repeat' (first | refine T_seq ?_ | refine N_then ?_ | refine T_regX tyOk ?_ | refine S_nil ?_ | refine T_skip ?_ | refine T_block ?_ | (apply T_ifT; (· exact rfl); (· (first | assumption | exact rfl))) | (apply T_ifF; (· exact rfl); (· (first | assumption | exact rfl))) | apply S_move | apply S_assign | (apply S_loadV; (· exact rfl); (· exact gt_any rfl); (· exact rfl); (· (first | exact ⟨rfl, rfl⟩ | exact ⟨rfl, trivial⟩ | assumption))) | (apply S_fieldV; (· exact rfl); (· exact rfl); (· exact rfl); (· exact rfl); (· exact gt_any rfl)) | apply S_lss | (apply S_neq; (· exact gt_any rfl); (· exact gt_any rfl)) | apply S_not | (apply S_len_ls; (· exact rfl); (· exact gt_any rfl)) | (apply S_idxLs; (· exact rfl); (· exact rfl); (· exact gt_any rfl); (· exact gt_any rfl)) | apply S_callQ (f := 88) | apply l1In_cv | exact viewL_nil | apply viewL_cons | (apply View.pure; exact PureC.out) | exact FlatC.out | exact gt_any rfl | exact gts_nil | (apply gts_cons; (· exact gt_any rfl)) | assumption | (refine ⟨?_, ?_⟩ <;> omega) | exact rfl | fail)
        refine T_roundsS (α := Nat) (fun j => ⟨[(0, vldAS l), (3, .int .i64 k), (4, .int .i64 j)], [], 0⟩)
          (fun j => k - j) (fun j => j ≤ k ∧ (l.take k).any (hasKey (l.getD k Vld0).key) = ((l.take k).drop j).any (hasKey (l.getD k Vld0).key)) 0 ((weak_of (by repeat' (first | exact keepE_nil | refine keepE_cons rfl ?_)) (by repeat' (first | exact keepB_nil | refine keepB_cons (by first | rfl | exact congrArg (fun l => some (Box.mk l _ _ _)) hset) ?_)) (Nat.le_refl _))).sub ⟨by omega, rfl⟩ ?_
        rintro j ⟨hj, hJ⟩
        have htl : (l.take k).length = k := by rw [List.length_take]; omega
        by_cases hjk : j < k
        · have d3 : decide ((j : Int) < (k : Int)) = true := decide_eq_true (by omega)
          have hget2 := map_getD vldA l Vld0 (k := j) (by omega)
          have hst := any_step (hasKey (l.getD k Vld0).key) (l.take k) Vld0 (k := j) (by omega)
          rw [getD_take l Vld0 hjk] at hst
          have hw2 : IntKind.wrap .i64 ((j : Int) + 1) = ((j + 1 : Nat) : Int) := by rw [wrap_i64 (by omega) (by omega)]; omega
          have hkb2 := hk _ (getD_mem l Vld0 (by omega : j < l.length))
          have c0 := same_cv (l.getD j Vld0).key (l.getD k Vld0).key (by omega) (by omega)
          by_cases g4 : (l.getD j Vld0).key = (l.getD k Vld0).key
          · rw [decide_eq_true g4] at c0
            have g3 : (l.take k).any (hasKey (l.getD k Vld0).key) = true := by
              rw [hJ, hst, show hasKey (l.getD k Vld0).key (l.getD j Vld0) = true from decide_eq_true g4, Bool.true_or]
            rw [setStep_tak g1 g2 g3, if_neg (by decide)] at hI
            rw [hI]
            repeat' (first | refine T_seq ?_ | refine N_then ?_ | refine N_thenR ?_ | refine N_blockR ?_ | refine N_againSR ?_ | refine T_regX tyOk ?_ | (apply T_drawM (id := 15) 10 tyOk mixed; (· exact rfl); (· exact rfl); (· kernel_rfl); (· exact Nat.le_of_ble_eq_true rfl)) | refine S_nil ?_ | refine T_skip ?_ | refine T_ret ?_ | refine T_block ?_ | (apply E_tmp; (· exact rfl); (· (repeat' (first | exact pure_int _ _ | exact pure_bool _ | exact pure_str _); done))) | (apply T_ifT; (· exact rfl); (· (first | assumption | exact rfl))) | apply S_move | apply S_assign | (apply S_loadV; (· exact rfl); (· exact gt_any rfl); (· exact rfl); (· (first | exact ⟨rfl, rfl⟩ | exact ⟨rfl, trivial⟩ | assumption))) | (apply S_fieldV; (· exact rfl); (· exact rfl); (· exact rfl); (· exact rfl); (· exact gt_any rfl)) | apply S_lss | (apply S_idxLs; (· exact rfl); (· exact rfl); (· exact gt_any rfl); (· exact gt_any rfl)) | apply S_callQ (f := 135) | apply c0 | exact viewL_nil | apply viewL_cons | (apply View.pure; exact PureC.out) | exact FlatC.out | exact gt_any rfl | exact gts_nil | (apply gts_cons; (· exact gt_any rfl)) | assumption | (refine ⟨?_, ?_⟩ <;> omega) | exact rfl | fail)
          · rw [decide_eq_false g4] at c0
            rw [show hasKey (l.getD k Vld0).key (l.getD j Vld0) = false from decide_eq_false g4, Bool.false_or] at hst
            repeat' (first | refine T_seq ?_ | refine N_then ?_ | refine N_block ?_ | refine T_regX tyOk ?_ | (apply T_drawM (id := 15) 10 tyOk mixed; (· exact rfl); (· exact rfl); (· kernel_rfl); (· exact Nat.le_of_ble_eq_true rfl)) | refine S_nil ?_ | refine T_skip ?_ | refine T_block ?_ | (apply T_ifT; (· exact rfl); (· (first | assumption | exact rfl))) | (apply T_ifF; (· exact rfl); (· (first | assumption | exact rfl))) | apply S_move | apply S_assign | (apply S_loadV; (· exact rfl); (· exact gt_any rfl); (· exact rfl); (· (first | exact ⟨rfl, rfl⟩ | exact ⟨rfl, trivial⟩ | assumption))) | (apply S_fieldV; (· exact rfl); (· exact rfl); (· exact rfl); (· exact rfl); (· exact gt_any rfl)) | apply S_lss | apply S_add | (apply S_idxLs; (· exact rfl); (· exact rfl); (· exact gt_any rfl); (· exact gt_any rfl)) | apply S_callQ (f := 135) | apply c0 | exact viewL_nil | apply viewL_cons | (apply View.pure; exact PureC.out) | exact FlatC.out | exact gt_any rfl | exact gts_nil | (apply gts_cons; (· exact gt_any rfl)) | assumption | (refine ⟨?_, ?_⟩ <;> omega) | exact rfl | fail)
            exact N_againS (j + 1) ((weak_of (by repeat' (first | exact keepE_nil | refine keepE_cons rfl ?_)) (by repeat' (first | exact keepB_nil | refine keepB_cons (by first | rfl | exact congrArg (fun l => some (Box.mk l _ _ _)) hset) ?_)) (Nat.le_refl _))).sub ⟨by omega, hJ.trans hst⟩ (by omega)
        · have d3 : decide ((j : Int) < (k : Int)) = false := decide_eq_false (by omega)
          have g3 : (l.take k).any (hasKey (l.getD k Vld0).key) = false := by
            rw [hJ, List.drop_of_length_le (by omega)]; rfl
          rw [setStep_ok g1 g2 g3, if_pos rfl] at hI
          repeat' (first | refine T_seq ?_ | refine N_then ?_ | refine N_thenE ?_ | refine N_block ?_ | refine N_blockE ?_ | refine N_againSE ?_ | refine T_regX tyOk ?_ | refine S_nil ?_ | refine T_exit ?_ | (apply T_ifF; (· exact rfl); (· (first | assumption | exact rfl))) | apply S_move | apply S_assign | apply S_lss | apply S_add | exact gt_any rfl | assumption | exact rfl | fail)
          exact N_againS (k + 1) ((weak_of (by repeat' (first | exact keepE_nil | refine keepE_cons rfl ?_)) (by repeat' (first | exact keepB_nil | refine keepB_cons (by first | rfl | exact congrArg (fun l => some (Box.mk l _ _ _)) hset) ?_)) (Nat.le_refl _))).sub ⟨by omega, hI⟩ (by omega)
      · have e2 : (!(decide (1 ≤ (l.getD k Vld0).power) && decide ((l.getD k Vld0).power ≤ 1000))) = true := rng_f g2
        rw [setStep_pow g1 g2, if_neg (by decide)] at hI
        rw [hI]
        repeat' (first | refine T_seq ?_ | refine N_then ?_ | refine N_thenR ?_ | refine N_blockR ?_ | refine N_againSR ?_ | refine T_regX tyOk ?_ | refine S_nil ?_ | refine T_skip ?_ | refine T_ret ?_ | refine T_block ?_ | (apply E_tmp; (· exact rfl); (· (repeat' (first | exact pure_int _ _ | exact pure_bool _ | exact pure_str _); done))) | (apply T_ifT; (· exact rfl); (· (first | assumption | exact rfl))) | (apply T_ifF; (· exact rfl); (· (first | assumption | exact rfl))) | apply S_move | apply S_assign | (apply S_loadV; (· exact rfl); (· exact gt_any rfl); (· exact rfl); (· (first | exact ⟨rfl, rfl⟩ | exact ⟨rfl, trivial⟩ | assumption))) | (apply S_fieldV; (· exact rfl); (· exact rfl); (· exact rfl); (· exact rfl); (· exact gt_any rfl)) | apply S_lss | (apply S_neq; (· exact gt_any rfl); (· exact gt_any rfl)) | apply S_not | (apply S_len_ls; (· exact rfl); (· exact gt_any rfl)) | (apply S_idxLs; (· exact rfl); (· exact rfl); (· exact gt_any rfl); (· exact gt_any rfl)) | apply S_callQ (f := 88) | apply l1In_cv | exact viewL_nil | apply viewL_cons | (apply View.pure; exact PureC.out) | exact FlatC.out | exact gt_any rfl | exact gts_nil | (apply gts_cons; (· exact gt_any rfl)) | assumption | (refine ⟨?_, ?_⟩ <;> omega) | exact rfl | fail)
    · have e1 : (!decide (((bA (l.getD k Vld0).key).length : Int) = 32)) = true := by rw [decide_eq_false (by omega)]; rfl
      rw [setStep_key g1, if_neg (by decide)] at hI
      rw [hI]
      repeat' (first | refine T_seq ?_ | refine N_then ?_ | refine N_thenR ?_ | refine N_blockR ?_ | refine N_againSR ?_ | refine T_regX tyOk ?_ | refine S_nil ?_ | refine T_skip ?_ | refine T_ret ?_ | refine T_block ?_ | (apply E_tmp; (· exact rfl); (· (repeat' (first | exact pure_int _ _ | exact pure_bool _ | exact pure_str _); done))) | (apply T_ifT; (· exact rfl); (· (first | assumption | exact rfl))) | apply S_move | apply S_assign | (apply S_loadV; (· exact rfl); (· exact gt_any rfl); (· exact rfl); (· (first | exact ⟨rfl, rfl⟩ | exact ⟨rfl, trivial⟩ | assumption))) | (apply S_fieldV; (· exact rfl); (· exact rfl); (· exact rfl); (· exact rfl); (· exact gt_any rfl)) | apply S_lss | (apply S_neq; (· exact gt_any rfl); (· exact gt_any rfl)) | (apply S_len_ls; (· exact rfl); (· exact gt_any rfl)) | (apply S_idxLs; (· exact rfl); (· exact rfl); (· exact gt_any rfl); (· exact gt_any rfl)) | exact gt_any rfl | assumption | (refine ⟨?_, ?_⟩ <;> omega) | exact rfl | fail)
  · have d2 : decide ((k : Int) < ((l.map vldA).length : Int)) = false := decide_eq_false (by omega)
    obtain rfl : k = l.length := by omega
    rw [Nat.sub_self, setGo] at hI
    rw [hI]
    repeat' (first | refine T_seq ?_ | refine N_then ?_ | refine N_thenE ?_ | refine N_blockE ?_ | refine N_againSE ?_ | refine T_regX tyOk ?_ | refine S_nil ?_ | refine T_ret ?_ | refine T_exit ?_ | (apply E_tmp; (· exact rfl); (· (repeat' (first | exact pure_int _ _ | exact pure_bool _ | exact pure_str _); done))) | (apply T_ifF; (· exact rfl); (· (first | assumption | exact rfl))) | apply S_move | apply S_assign | apply S_lss | (apply S_len_ls; (· exact rfl); (· exact gt_any rfl)) | exact gt_any rfl | exact rfl | fail)

end Go.Proofs.Ythfikpgbddpmoaa
