/- Lists of numbers and of bytes, and what the helpers of the laws make of them. -/
import Derived.Test.YtmaginepopldnaaDoorTy
set_option maxRecDepth 100000
set_option maxHeartbeats 3200000
set_option linter.unusedSimpArgs false
set_option linter.unusedVariables false
namespace Go.Proofs.YtmaginepopldnaaDoor
open Go.Av
attribute [local irreducible] T thenQ blockQ againQ againS WX retV retR Gt Gts GtsP okCells CV CR Av.Pure

theorem mixed : Tryd.prog.follows .mixedOrders = true := by kernel_rfl

def szAfter (left n : Int) : Int := if left - n < 0 then -1 else left - n

theorem getD_mem {α : Type} (l : List α) (d : α) {k : Nat} (h : k < l.length) : l.getD k d ∈ l := by
  rw [List.getD_eq_getElem?_getD, List.getElem?_eq_getElem h]
  exact List.getElem_mem h

theorem byte_inj {a b : UInt8} (h : (a.toNat : Int) = (b.toNat : Int)) : a = b := UInt8.toNat.inj (by omega)

abbrev u8A (b : UInt8) : AV := .int .u8 (b.toNat : Int)

abbrev numA (x : Int) : AV := .int .i64 x

instance : ElemF u8A := ⟨fun a y hy => by simp [u8A, AV.cells] at hy; subst hy; exact ⟨pure_int _ _, rfl⟩⟩

instance : OwnF u8A := ⟨fun a y hy => by simp [u8A, AV.cells] at hy; subst hy; exact (flat_int _ _).own⟩

instance : ElemF numA := ⟨fun a y hy => by simp [numA, AV.cells] at hy; subst hy; exact ⟨pure_int _ _, rfl⟩⟩

instance : OwnF numA := ⟨fun a y hy => by simp [numA, AV.cells] at hy; subst hy; exact (flat_int _ _).own⟩

theorem toByteS_cv (q : List UInt8) (h : q.length ≤ 1048576) : CV Tryd.prog 17 [sl1 (q.map u8A)] (· = sl1 (q.map u8A)) := by
  refine CV_intro tyOk Tryd.func17 (by kernel_rfl) rfl 22 rfl (by simp) [.tmp 2] rfl ?_
  intro w0 ok0
  have hl : (q.map u8A).length = q.length := by simp
  repeat' (first | refine T_seq ?_ | refine N_then ?_ | refine T_regX tyOk ?_ | refine S_nil ?_ | refine T_block ?_ | apply S_move | apply S_assign | (apply S_len_ls; (· exact rfl); (· exact gt_any rfl)) | (apply S_make; (· exact rfl); (· exact rfl); (· exact gt_any rfl); (· exact gt_any rfl); (· exact rfl); (· (first | assumption | omega)); (· (first | assumption | omega | (dsimp only; omega) | (simp; omega))); (· (first | assumption | omega | (dsimp only; omega) | (simp; omega))); (· (first | assumption | omega | (dsimp only; omega) | (simp; omega))); (· (first | exact okCells_of rfl rfl | assumption)); (· (first | exact Nat.le_of_ble_eq_true rfl | omega | decide))) | exact gt_any rfl | exact rfl | fail)
  refine T_roundsS (α := Nat) (fun k => ⟨[(0, sl1 (q.map u8A)), (3, .sl 0 0 (q.map u8A).length (q.map u8A).length), (4, .int .i64 k)], [(0, some ⟨(q.map u8A).take k ++ List.replicate ((q.map u8A).length - k) (u8A 0), 1, false, false⟩)], 1⟩)
    (fun k => (q.map u8A).length - k) (fun k => k ≤ (q.map u8A).length) 0 ((weak_of (by repeat' (first | exact keepE_nil | refine keepE_cons rfl ?_)) (by repeat' (first | exact keepB_nil | refine keepB_cons (by first | rfl | exact congrArg (fun l => some (Box.mk l _ _ _)) hset) ?_)) (Nat.le_refl _))).sub (by omega) ?_
  intro k hk
  by_cases hkl : k < (q.map u8A).length
  · have hc : decide ((k : Int) < ((q.map u8A).length : Int)) = true := by simp only [decide_eq_true_eq]; omega
    have hget := map_getD u8A q 0 (k := k) (by omega)
    have hat := map_at u8A q 0 (k := k) (by omega)
    have hset := copy_step (q.map u8A) (u8A 0) hkl hat
    have hin : 0 + ((k : Int)).toNat < ((q.map u8A).take k ++ List.replicate ((q.map u8A).length - k) (u8A 0)).length := by
      simp only [List.length_append, List.length_take, List.length_replicate]; omega
    have okk : okCells 1 (u8A (q.getD k 0)) := okCells_of rfl rfl
    repeat' (first | refine T_seq ?_ | refine N_then ?_ | refine N_block ?_ | refine T_regX tyOk ?_ | refine S_nil ?_ | refine T_skip ?_ | refine T_block ?_ | (apply T_ifT; (· exact rfl); (· (first | assumption | exact rfl))) | apply S_move | apply S_assign | (apply S_loadV; (· exact rfl); (· exact gt_any rfl); (· exact rfl); (· (first | exact ⟨rfl, rfl⟩ | exact ⟨rfl, trivial⟩ | assumption))) | apply S_lss | apply S_add | (apply S_len_ls; (· exact rfl); (· exact gt_any rfl)) | (apply S_idxLs; (· exact rfl); (· exact rfl); (· exact gt_any rfl); (· exact gt_any rfl)) | (apply S_idxSl; (· exact rfl); (· exact rfl); (· exact gt_any rfl); (· exact rfl); (· exact gt_any rfl)) | (apply S_storeE; (· exact rfl); (· exact gt_any rfl); (· exact rfl); (· exact rfl); (· exact rfl)) | exact gt_any rfl | exact okCells_of rfl rfl | assumption | (apply wrap_i64; (· omega); (· omega)) | (refine ⟨?_, ?_⟩ <;> omega) | exact rfl | fail)
    exact N_againS (k + 1) ((weak_of (by repeat' (first | exact keepE_nil | refine keepE_cons rfl ?_)) (by repeat' (first | exact keepB_nil | refine keepB_cons (by first | rfl | exact congrArg (fun l => some (Box.mk l _ _ _)) hset) ?_)) (Nat.le_refl _))).sub (by omega) (by omega)
  · have hc : decide ((k : Int) < ((q.map u8A).length : Int)) = false := by simp only [decide_eq_false_iff_not]; omega
    obtain rfl : k = (q.map u8A).length := by omega
    have he : (q.map u8A).take (q.map u8A).length ++ List.replicate ((q.map u8A).length - (q.map u8A).length) (u8A 0) = q.map u8A := by
      rw [Nat.sub_self, List.replicate_zero, List.append_nil, List.take_length]
    repeat' (first | refine T_seq ?_ | refine N_then ?_ | refine N_thenE ?_ | refine N_blockE ?_ | refine N_againSE ?_ | refine T_regX tyOk ?_ | refine S_nil ?_ | refine T_ret ?_ | refine T_exit ?_ | (apply T_ifF; (· exact rfl); (· (first | assumption | exact rfl))) | apply S_move | apply S_assign | apply S_lss | (apply S_len_ls; (· exact rfl); (· exact gt_any rfl)) | exact gt_any rfl | exact rfl | fail)
    rw [he]
    (apply E_X <;> repeat' (first | exact resL_nil | (apply resL_tmp; (· exact rfl)) | (apply resL_cell; (· exact rfl); (· exact rfl); (· exact rfl); (· exact rfl); (· exact rfl); (· exact rfl)) | (apply resL_arr; (· exact rfl); (· exact rfl); (· exact rfl); (· exact rfl); (· (first | assumption | exact rfl))) | exact viewL_nil | apply viewL_cons | apply view_nothingE | (apply view_slE; (· exact rfl); (· first | exact rfl | assumption | (simp [bA_length]; done) | (simp [bA_length]; omega) | omega); (· exact PureEC.out)) | (apply view_loose; (· exact PureEC.out)) | apply view_agg | apply view_tup | (apply View.ofEq; (· exact PureC.out)) | exact rfl))

theorem eqByteS_cv (us vs : List UInt8) (h : us.length ≤ 4611686018427387904) : CV Tryd.prog 20 [sl1 (us.map u8A), sl1 (vs.map u8A)] (· = .bool (decide (us = vs))) := by
  refine CV_intro tyOk Tryd.func20 (by kernel_rfl) rfl 26 rfl (by simp) [.tmp 4] rfl ?_
  intro w0 ok0
  have hl : (us.map u8A).length = us.length := by simp
  have hl' : (vs.map u8A).length = vs.length := by simp
  by_cases hlen : us.length = vs.length
  · have hc0 : (!decide (((us.map u8A).length : Int) = ((vs.map u8A).length : Int))) = false := by simp; omega
    repeat' (first | refine T_seq ?_ | refine N_then ?_ | refine T_regX tyOk ?_ | refine S_nil ?_ | refine T_skip ?_ | refine T_block ?_ | (apply T_ifF; (· exact rfl); (· (first | assumption | exact rfl))) | apply S_move | apply S_assign | (apply S_neq; (· exact gt_any rfl); (· exact gt_any rfl)) | (apply S_len_ls; (· exact rfl); (· exact gt_any rfl)) | exact gt_any rfl | exact rfl | fail)
    refine T_rounds (α := Nat) (fun k => ⟨[(0, sl1 (us.map u8A)), (1, sl1 (vs.map u8A)), (5, .int .i64 k)], [], 0⟩)
      (fun k => (us.map u8A).length - k) (fun k => k ≤ (us.map u8A).length ∧ us.take k = vs.take k) 0 (weak_of (by repeat' (first | exact keepE_nil | refine keepE_cons rfl ?_)) (by repeat' (first | exact keepB_nil | refine keepB_cons (by first | rfl | exact congrArg (fun l => some (Box.mk l _ _ _)) hset) ?_)) (Nat.le_refl _)) (by simp) ?_
    rintro k ⟨hk, hpre⟩
    by_cases hkl : k < (us.map u8A).length
    · have hc : decide ((k : Int) < ((us.map u8A).length : Int)) = true := by simp only [decide_eq_true_eq]; omega
      have hget := map_getD u8A us 0 (k := k) (by omega)
      have hget' := map_getD u8A vs 0 (k := k) (by omega)
      repeat' (first | refine T_seq ?_ | refine N_then ?_ | refine N_thenR ?_ | refine N_block ?_ | refine N_blockR ?_ | refine N_againR ?_ | refine T_regX tyOk ?_ | (apply T_drawAll tyOk mixed; (· kernel_rfl)) | refine S_nil ?_ | refine T_skip ?_ | refine T_ret ?_ | refine T_block ?_ | (apply E_tmp; (· exact rfl); (· (repeat' (first | exact pure_int _ _ | exact pure_bool _ | exact pure_str _); done))) | (apply T_ifT; (· exact rfl); (· (first | assumption | exact rfl))) | refine T_if rfl (fun _ => ?_) (fun _ => ?_) | apply S_move | apply S_assign | (apply S_loadV; (· exact rfl); (· exact gt_any rfl); (· exact rfl); (· (first | exact ⟨rfl, rfl⟩ | exact ⟨rfl, trivial⟩ | assumption))) | apply S_lss | (apply S_neq; (· exact gt_any rfl); (· exact gt_any rfl)) | apply S_add | (apply S_len_ls; (· exact rfl); (· exact gt_any rfl)) | (apply S_idxLs; (· exact rfl); (· exact rfl); (· exact gt_any rfl); (· exact gt_any rfl)) | exact gt_any rfl | assumption | (apply wrap_i64; (· omega); (· omega)) | (refine ⟨?_, ?_⟩ <;> omega) | exact rfl | fail)
      · rename_i hne
        have hne' : us.getD k 0 ≠ vs.getD k 0 := by intro e; rw [e] at hne; simp at hne
        have : us ≠ vs := by rintro rfl; exact hne' rfl
        simp [this]
      · rename_i heq
        refine N_again (k + 1) (weak_of (by repeat' (first | exact keepE_nil | refine keepE_cons rfl ?_)) (by repeat' (first | exact keepB_nil | refine keepB_cons (by first | rfl | exact congrArg (fun l => some (Box.mk l _ _ _)) hset) ?_)) (Nat.le_refl _)) ⟨by omega, ?_⟩ (by omega)
        exact take_step 0 (by omega) (by omega) hpre (by simp only [Bool.not_eq_false', decide_eq_true_eq] at heq; exact byte_inj heq)
    · have hc : decide ((k : Int) < ((us.map u8A).length : Int)) = false := by simp only [decide_eq_false_iff_not]; omega
      obtain rfl : k = (us.map u8A).length := by omega
      repeat' (first | refine T_seq ?_ | refine N_then ?_ | refine N_thenE ?_ | refine N_blockE ?_ | refine N_againE ?_ | refine T_regX tyOk ?_ | refine S_nil ?_ | refine T_ret ?_ | refine T_exit ?_ | (apply E_tmp; (· exact rfl); (· (repeat' (first | exact pure_int _ _ | exact pure_bool _ | exact pure_str _); done))) | (apply T_ifF; (· exact rfl); (· (first | assumption | exact rfl))) | apply S_move | apply S_assign | apply S_lss | (apply S_len_ls; (· exact rfl); (· exact gt_any rfl)) | exact gt_any rfl | exact rfl | fail)
      rw [hl] at hpre
      rw [List.take_length, hlen, List.take_length] at hpre
      simp [hpre]
  · have hc0 : (!decide (((us.map u8A).length : Int) = ((vs.map u8A).length : Int))) = true := by simp; omega
    repeat' (first | refine T_seq ?_ | refine N_then ?_ | refine N_thenR ?_ | refine T_regX tyOk ?_ | refine S_nil ?_ | refine T_ret ?_ | (apply E_tmp; (· exact rfl); (· (repeat' (first | exact pure_int _ _ | exact pure_bool _ | exact pure_str _); done))) | (apply T_ifT; (· exact rfl); (· (first | assumption | exact rfl))) | apply S_move | apply S_assign | (apply S_neq; (· exact gt_any rfl); (· exact gt_any rfl)) | (apply S_len_ls; (· exact rfl); (· exact gt_any rfl)) | exact gt_any rfl | exact rfl | fail)
    have : us ≠ vs := by rintro rfl; exact hlen rfl
    simp [this]

end Go.Proofs.YtmaginepopldnaaDoor
