/- Heads: ways from the first one. -/
import Derived.Test.YtaolmfgpebncjaaGreatZs
set_option maxRecDepth 100000
set_option maxHeartbeats 3200000
set_option linter.unusedSimpArgs false
set_option linter.unusedVariables false
namespace Go.Proofs.YtaolmfgpebncjaaGreat
open Go.Av
attribute [local irreducible] T thenQ blockQ againQ againS WX retV retR Gt Gts GtsP okCells CV CR Av.Pure
attribute [local irreducible] sha zerosL lz8 hdD hdFault

abbrev natA (j : Nat) : AV := .int .i64 (j : Int)
instance : ElemF natA := ⟨fun a y hy => by simp [natA, AV.cells] at hy; subst hy; exact ⟨pure_int _ _, rfl⟩⟩
instance : OwnF natA := ⟨fun a y hy => by simp [natA, AV.cells] at hy; subst hy; exact (flat_int _ _).own⟩

def revAt (l : List Nat) (i : Nat) : List Nat := (List.range l.length).map fun p => if p < i ∨ l.length - i ≤ p then l.getD (l.length - 1 - p) 0 else l.getD p 0
theorem revAt_length (l : List Nat) (i : Nat) : (revAt l i).length = l.length := by simp [revAt]
theorem revAt_get (l : List Nat) (i : Nat) {p : Nat} (h : p < l.length) : (revAt l i)[p]? = some (if p < i ∨ l.length - i ≤ p then l.getD (l.length - 1 - p) 0 else l.getD p 0) := by
  unfold revAt
  rw [List.getElem?_map, List.getElem?_range h]
  rfl
theorem revAt_zero (l : List Nat) : revAt l 0 = l := by
  apply List.ext_getElem?
  intro p
  by_cases h : p < l.length
  · rw [revAt_get l 0 h, if_neg (by omega), List.getD_eq_getElem?_getD, List.getElem?_eq_getElem h]; rfl
  · rw [List.getElem?_eq_none (by rw [revAt_length]; omega), List.getElem?_eq_none (by omega)]
theorem revAt_all (l : List Nat) {i : Nat} (h : l.length ≤ 2 * i + 1) : revAt l i = l.reverse := by
  apply List.ext_getElem?
  intro p
  by_cases hp : p < l.length
  · rw [revAt_get l i hp, List.getElem?_reverse hp]
    have e : l[l.length - 1 - p]? = some (l.getD (l.length - 1 - p) 0) := by
      rw [List.getD_eq_getElem?_getD, List.getElem?_eq_getElem (by omega)]; rfl
    rw [e]
    by_cases q : p < i ∨ l.length - i ≤ p
    · rw [if_pos q]
    · rw [if_neg q]
      have : l.length - 1 - p = p := by omega
      rw [this]
  · rw [List.getElem?_eq_none (by rw [revAt_length]; omega), List.getElem?_eq_none (by rw [List.length_reverse]; omega)]
theorem revAt_step (l : List Nat) {i : Nat} (h : 2 * i + 1 < l.length) : ((revAt l i).set i (l.getD (l.length - 1 - i) 0)).set (l.length - 1 - i) (l.getD i 0) = revAt l (i + 1) := by
  apply List.ext_getElem?
  intro p
  by_cases hp : p < l.length
  · rw [revAt_get l (i + 1) hp, List.getElem?_set, List.getElem?_set, revAt_get l i hp, revAt_length, List.length_set, revAt_length]
    by_cases h1 : l.length - 1 - i = p
    · rw [if_pos h1, if_pos (by omega), if_pos (by omega)]
      have : l.length - 1 - p = i := by omega
      rw [this]
    · rw [if_neg h1]
      by_cases h2 : i = p
      · rw [if_pos h2, if_pos (by omega), if_pos (by omega), h2]
      · rw [if_neg h2]
        by_cases h3 : p < i ∨ l.length - i ≤ p
        · rw [if_pos h3, if_pos (by omega)]
        · rw [if_neg h3, if_neg (by omega)]
  · rw [List.getElem?_eq_none (by rw [List.length_set, List.length_set, revAt_length]; omega), List.getElem?_eq_none (by rw [revAt_length]; omega)]
theorem revAt_mid (l : List Nat) {i p : Nat} (h : i ≤ p) (h2 : p < l.length - i) : (revAt l i).getD p 0 = l.getD p 0 := by
  rw [List.getD_eq_getElem?_getD, revAt_get l i (by omega), if_neg (by omega)]
  rfl
theorem natA_get (l : List Nat) {p : Nat} (h : p < l.length) : (l.map natA)[p]? = some (natA (l.getD p 0)) := by
  simp [List.getD_eq_getElem?_getD, List.getElem?_map, List.getElem?_eq_getElem h]
theorem natA_set (l : List Nat) (p v : Nat) : (l.map natA).set p (natA v) = (l.set p v).map natA := by rw [List.map_set]

theorem reverse_cr (l : List Nat) (h : l.length ≤ 1000000) : CR Tryz.prog 118 [.sl 0 0 l.length l.length] [(0, some ⟨l.map natA, 1, true, false⟩)] 1 (Is (.tup []) [(0, some ⟨l.reverse.map natA, 1, true, false⟩)] 1) := by
  refine CR_introU tyOk Tryz.func118 (by kernel_rfl) rfl 28 rfl (by simp) [] rfl ?_
  intro w0 ok0 wr φ0
  have w0 : IntKind.wrap .i64 ((l.length : Int) - 1) = (l.length : Int) - 1 - (0 : Nat) := by rw [wrap_i64 (by omega) (by omega)]; omega
  have z0 : l.map natA = (revAt l 0).map natA := by rw [revAt_zero]
  rw [z0]
  repeat' (first | refine T_seq ?_ | refine N_then ?_ | refine T_regX tyOk ?_ | refine S_nil ?_ | refine T_block ?_ | apply S_move | apply S_assign | apply S_sub | (apply S_len_sl; (· exact rfl); (· exact gt_any rfl)) | exact gt_any rfl | assumption | exact rfl | fail)
  refine T_roundsS (α := Nat) (fun i => ⟨[(0, .sl 0 0 l.length l.length), (2, .int .i64 i), (3, .int .i64 ((l.length : Int) - 1 - (i : Int)))], [(0, some ⟨(revAt l i).map natA, 1, true, false⟩)], 1⟩)
    (fun i => l.length - i) (fun i => 2 * i ≤ l.length + 1) 0 ((weak_of (by repeat' (first | exact keepE_nil | refine keepE_cons rfl ?_)) (by repeat' (first | exact keepB_nil | refine keepB_cons (by first | rfl | exact congrArg (fun l => some (Box.mk l _ _ _)) hset) ?_)) (Nat.le_refl _))).sub (by omega) ?_
  intro i hi
  have hm : ((revAt l i).map natA).length = l.length := by rw [List.length_map, revAt_length]
  by_cases hil : 2 * i + 1 < l.length
  · have d1 : decide ((i : Int) < (l.length : Int) - 1 - (i : Int)) = true := decide_eq_true (by omega)
    have e1 : ((l.length : Int) - 1 - (i : Int)).toNat = l.length - 1 - i := by omega
    have r0 : (0 : Int) ≤ (l.length : Int) - 1 - (i : Int) ∧ (l.length : Int) - 1 - (i : Int) < (l.length : Int) := by omega
    have g1 : ((revAt l i).map natA)[0 + ((i : Int)).toNat]? = some (natA (l.getD i 0)) := by
      rw [Nat.zero_add, Int.toNat_natCast, natA_get _ (by rw [revAt_length]; omega), revAt_mid l (by omega) (by omega)]
    have g2 : ((revAt l i).map natA)[0 + ((l.length : Int) - 1 - (i : Int)).toNat]? = some (natA (l.getD (l.length - 1 - i) 0)) := by
      rw [Nat.zero_add, e1, natA_get _ (by rw [revAt_length]; omega), revAt_mid l (by omega) (by omega)]
    have hset : (((revAt l i).map natA).set (0 + ((i : Int)).toNat) (natA (l.getD (l.length - 1 - i) 0))).set (0 + ((l.length : Int) - 1 - (i : Int)).toNat) (natA (l.getD i 0)) = (revAt l (i + 1)).map natA := by
      rw [Nat.zero_add, Nat.zero_add, Int.toNat_natCast, e1, natA_set, natA_set, revAt_step l hil]
    have i1 : 0 + ((i : Int)).toNat < ((revAt l i).map natA).length := by rw [hm]; omega
    have i2 : 0 + ((l.length : Int) - 1 - (i : Int)).toNat < (((revAt l i).map natA).set (0 + ((i : Int)).toNat) (natA (l.getD (l.length - 1 - i) 0))).length := by rw [List.length_set, hm]; omega
    have w1 : IntKind.wrap .i64 ((i : Int) + 1) = ((i + 1 : Nat) : Int) := by rw [wrap_i64 (by omega) (by omega)]; omega
    have w2 : IntKind.wrap .i64 ((l.length : Int) - 1 - (i : Int) - 1) = (l.length : Int) - 1 - ((i + 1 : Nat) : Int) := by rw [wrap_i64 (by omega) (by omega)]; omega
    repeat' (first | refine T_seq ?_ | refine N_then ?_ | refine N_block ?_ | refine T_regX tyOk ?_ | (apply T_drawW (id := 3) 14 (fun k => [13].contains k) tyOk mixed; (· exact rfl); (· exact rfl); (· exact rfl); (· kernel_rfl); (· kernel_rfl); (· exact Nat.le_of_ble_eq_true rfl); (· kernel_rfl)) | refine S_nil ?_ | refine T_skip ?_ | refine T_block ?_ | (apply M_loadP; (· exact rfl); (· exact gt_any rfl); (· exact rfl); (· (repeat' (first | assumption | apply get_set_same))); (· exact rfl); (· (first | exact ⟨rfl, rfl⟩ | exact ⟨rfl, trivial⟩ | assumption))) | (apply T_ifT; (· exact rfl); (· (first | assumption | exact rfl))) | apply S_move | apply S_assign | apply S_lss | apply S_add | apply S_sub | (apply S_idxSl; (· exact rfl); (· exact rfl); (· exact gt_any rfl); (· exact rfl); (· exact gt_any rfl)) | (apply S_storeE; (· exact rfl); (· exact gt_any rfl); (· exact rfl); (· exact rfl); (· exact rfl)) | (apply L_storeE tyOk; (· exact rfl); (· exact gt_any rfl); (· exact rfl); (· exact rfl); (· exact rfl)) | exact gt_any rfl | exact okCells_of rfl rfl | assumption | (refine ⟨?_, ?_⟩ <;> omega) | exact rfl | fail)
    exact N_againS (i + 1) ((weak_of (by repeat' (first | exact keepE_nil | refine keepE_cons rfl ?_)) (by repeat' (first | exact keepB_nil | refine keepB_cons (by first | rfl | exact congrArg (fun l => some (Box.mk l _ _ _)) hset) ?_)) (Nat.le_refl _))).sub (by omega) (by omega)
  · have d1 : decide ((i : Int) < (l.length : Int) - 1 - (i : Int)) = false := decide_eq_false (by omega)
    rw [revAt_all l (by omega)]
    repeat' (first | refine T_seq ?_ | refine N_then ?_ | refine N_thenE ?_ | refine N_blockE ?_ | refine N_againSE ?_ | refine T_regX tyOk ?_ | refine S_nil ?_ | refine T_exit ?_ | (apply T_ifF; (· exact rfl); (· (first | assumption | exact rfl))) | apply S_move | apply S_lss | exact gt_any rfl | exact rfl | fail)
    refine retR_normal ?_
    (apply E_U0 [(0, 0)] <;> repeat' (first | exact resL_nil | (apply resL_tmp; (· exact rfl)) | (apply resL_cell; (· exact rfl); (· exact rfl); (· exact rfl); (· exact rfl); (· exact rfl); (· exact rfl)) | (apply resL_arr; (· exact rfl); (· exact rfl); (· exact rfl); (· exact rfl); (· (first | assumption | exact rfl))) | exact Ren.sl _ _ _ _ | (apply ren_slE; (· first | exact rfl | omega); (· first | exact rfl | assumption | (simp [bA_length]; done) | (simp [bA_length]; omega)); (· first | exact rfl | assumption | (simp [bA_length]; done) | (simp [bA_length]; omega))) | exact Ren.ptr _ _ _ | exact renL_nil | apply renL_cons | (apply Ren.pure; exact PureC.out) | apply ren_agg | apply ren_tup | exact Low.sl _ _ _ _ (by decide) | exact Low.ptr _ _ _ (by decide) | exact lowL_nil | apply lowL_cons | (apply Low.pure; exact PureC.out) | apply low_agg | apply low_tup | exact pullB_nil | (apply pullB_pureE; (· exact rfl); (· first | exact rfl | assumption | (simp [bA]; done)); (· exact PureEC.out)) | (apply pullB_one; (· exact rfl)) | exact lowBs_nil | apply lowBs_cons | (apply PureB.low; exact PureEC.out) | apply lowX_one | exact lowX_nil | exact rfl))

theorem reverse_at (l : List Nat) (h : l.length ≤ 1000000) (id N : Nat) (hid : id < N) : CR Tryz.prog 118 [.sl id 0 l.length l.length] [(id, some ⟨l.map natA, 1, true, false⟩)] N (Is (.tup []) [(id, some ⟨l.reverse.map natA, 1, true, false⟩)] N) :=
  (CR.toI (reverse_cr l h) [id] rfl (by simp [*] <;> omega) _ (by simp [*] <;> omega) (by repeat' (first | exact Ren.sl _ _ _ _ | exact Ren.ptr _ _ _ | exact renL_nil | apply renL_cons | (apply Ren.pure; exact PureC.out) | apply ren_agg | apply ren_tup | exact renBs_nil | (apply renBs_pure; (· exact rfl); (· exact PureEC.out)) | (apply renBs_one; (· exact rfl)))) (by repeat' (first | exact Ren.sl _ _ _ _ | exact Ren.ptr _ _ _ | exact renL_nil | apply renL_cons | (apply Ren.pure; exact PureC.out) | apply ren_agg | apply ren_tup | exact renBs_nil | (apply renBs_pure; (· exact rfl); (· exact PureEC.out)) | (apply renBs_one; (· exact rfl)))) (by omega) (by repeat' (first | exact Ren.sl _ _ _ _ | exact Ren.ptr _ _ _ | exact renL_nil | apply renL_cons | (apply Ren.pure; exact PureC.out) | apply ren_agg | apply ren_tup | exact renBs_nil | (apply renBs_pure; (· exact rfl); (· exact PureEC.out)) | (apply renBs_one; (· exact rfl)))) (by repeat' (first | exact Ren.sl _ _ _ _ | exact Ren.ptr _ _ _ | exact renL_nil | apply renL_cons | (apply Ren.pure; exact PureC.out) | apply ren_agg | apply ren_tup | exact renBs_nil | (apply renBs_pure; (· exact rfl); (· exact PureEC.out)) | (apply renBs_one; (· exact rfl)))))

end Go.Proofs.YtaolmfgpebncjaaGreat
