/- A relayer settles. -/
import Derived.Test.YtgakkecaflppfaaWq
set_option maxRecDepth 100000
set_option maxHeartbeats 3200000
set_option linter.unusedSimpArgs false
set_option linter.unusedVariables false
namespace Go.Proofs.Ytgakkecaflppfaa
open Go.Av
attribute [local irreducible] T thenQ blockQ againQ againS WX retV retR Gt Gts GtsP okCells CV CR Av.Pure

def settleCode (q : List Itm) (n : Int) : Int := if findI q n < 0 then 4 else 0
def settleQ (q : List Itm) (n : Int) : List Itm := q.eraseIdx (findI q n).toNat
theorem settleCode_ok {q : List Itm} {n : Int} (h : settleCode q n = 0) : ∃ i : Nat, findI q n = i ∧ i < q.length := by
  unfold settleCode at h
  split at h
  · omega
  · rcases findI_range q n with e | e
    · omega
    · exact ⟨(findI q n).toNat, by omega, by omega⟩

theorem specSettle_err (c : Int) (q : List Itm) (n : Int) (hq : q.length ≤ 12) (he : settleCode q n ≠ 0) :
    CR Try.prog 111 [.ptr 0 0 0, .int .i64 n] [(0, boxR (relB 1 c q.length)), (1, boxQ q)] 2 (Is (.int .i64 (settleCode q n)) [(0, boxR (relB 1 c q.length)), (1, boxQ q)] 2) := by
  refine CR_introU tyOk Try.func111 (by kernel_rfl) rfl 30 rfl (by simp) [.tmp 4] rfl ?_
  intro w0 ok0 wr φ0
  have c0 := l11Find_cv c q n (by omega)
  have hl : (q.map itemA).length = q.length := by simp
  unfold settleCode at he ⊢
  by_cases h2 : findI q n < 0
  · have d2 : decide (findI q n < 0) = true := by simpa using h2
    rw [if_pos h2]
    repeat' (first | refine T_seq ?_ | refine N_then ?_ | refine N_thenR ?_ | refine T_regX tyOk ?_ | refine S_nil ?_ | refine T_ret ?_ | (apply T_ifT; (· exact rfl); (· (first | assumption | exact rfl))) | apply S_move | apply S_assign | apply S_lss | apply S_callQ (f := 115) | apply c0 | exact viewL_nil | apply viewL_cons | (apply View.pure; exact PureC.out) | (apply view_slM; (· exact rfl); (· (apply mlen; first | exact rfl | assumption | exact Nat.le_of_ble_eq_true rfl | omega | (simp [bA_length]; done) | (simp [bA_length]; omega))); (· exact PureEC.out)) | (apply view_ptr; (· exact rfl); (· exact rfl)) | exact FlatC.out | exact gt_any rfl | exact gts_nil | (apply gts_cons; (· exact gt_any rfl)) | exact rfl | fail)
    (apply E_U0 [(0, 0), (1, 1)] <;> repeat' (first | exact resL_nil | (apply resL_tmp; (· exact rfl)) | (apply resL_cell; (· exact rfl); (· exact rfl); (· exact rfl); (· exact rfl); (· exact rfl); (· exact rfl)) | (apply resL_arr; (· exact rfl); (· exact rfl); (· exact rfl); (· exact rfl); (· (first | assumption | exact rfl))) | exact Ren.sl _ _ _ _ | (apply ren_slE; (· first | exact rfl | omega); (· first | exact rfl | assumption | (simp [bA_length]; done) | (simp [bA_length]; omega)); (· first | exact rfl | assumption | (simp [bA_length]; done) | (simp [bA_length]; omega))) | exact Ren.ptr _ _ _ | exact renL_nil | apply renL_cons | (apply Ren.pure; exact PureC.out) | apply ren_agg | apply ren_tup | exact Low.sl _ _ _ _ (by decide) | exact Low.ptr _ _ _ (by decide) | exact lowL_nil | apply lowL_cons | (apply Low.pure; exact PureC.out) | apply low_agg | apply low_tup | exact pullB_nil | (apply pullB_pureE; (· exact rfl); (· first | exact rfl | assumption | (simp [bA]; done)); (· exact PureEC.out)) | (apply pullB_one; (· exact rfl)) | exact lowBs_nil | apply lowBs_cons | (apply PureB.low; exact PureEC.out) | apply lowX_one | exact lowX_nil | exact rfl))
  · rw [if_neg h2] at he; exact absurd rfl he

theorem specSettle_ok (c : Int) (q : List Itm) (n : Int) (hq : q.length ≤ 12) (he : settleCode q n = 0) :
    CR Try.prog 111 [.ptr 0 0 0, .int .i64 n] [(0, boxR (relB 1 c q.length)), (1, boxQ q)] 2 (Is (.int .i64 0) [(0, boxR (relB 2 c (settleQ q n).length)), (2, boxQ (settleQ q n))] 3) := by
  refine CR_introU tyOk Try.func111 (by kernel_rfl) rfl 30 rfl (by simp) [.tmp 4] rfl ?_
  intro w0 ok0 wr φ0
  have c0 := l11Find_cv c q n (by omega)
  have hl : (q.map itemA).length = q.length := by simp
  obtain ⟨i, hf, hi⟩ := settleCode_ok he
  unfold settleQ
  rw [hf] at c0 ⊢
  rw [Int.toNat_natCast]
  have d2 : decide ((i : Int) < 0) = false := by simp <;> omega
  have hw : IntKind.wrap .i64 ((i : Int) + 1) = ((i + 1 : Nat) : Int) := by rw [wrap_i64 (by omega) (by omega)]; omega
  have h1 : List.take (i - 0) (List.drop (0 + 0) (q.map itemA)) = (q.take i).map itemA := by simp
  have h2 : List.take (q.length - (i + 1)) (List.drop (0 + (i + 1)) (q.map itemA)) = (q.drop (i + 1)).map itemA := by
    rw [Nat.zero_add, ← List.map_drop, List.take_of_length_le (by simp)]
  have h1l : ((q.take i).map itemA).length = i := by simp; omega
  have h2l : ((q.drop (i + 1)).map itemA).length = q.length - (i + 1) := by simp
  have he1 : (q.eraseIdx i).map itemA = (q.take i).map itemA ++ (q.drop (i + 1)).map itemA := by rw [List.eraseIdx_eq_take_drop_succ, List.map_append]
  have he2 : (q.eraseIdx i).length = ((q.take i).map itemA).length + ((q.drop (i + 1)).map itemA).length := by rw [← List.length_append, ← he1, List.length_map]
  unfold boxQ
  rw [he1, he2]
  repeat' (first | refine T_seq ?_ | refine N_then ?_ | refine T_regX tyOk ?_ | (apply T_drawQ (id := 4) 17 [8, 16] tyOk mixed; (· exact rfl); (· exact rfl); (· exact rfl); (· kernel_rfl); (· kernel_rfl); (· exact Nat.le_of_ble_eq_true rfl)) | refine S_nil ?_ | refine T_skip ?_ | refine T_ret ?_ | (apply T_ifF; (· exact rfl); (· (first | assumption | exact rfl))) | apply S_move | apply S_assign | (apply S_loadP; (· exact rfl); (· exact gt_any rfl); (· exact rfl); (· exact rfl); (· exact rfl); (· (first | exact ⟨rfl, rfl⟩ | exact ⟨rfl, trivial⟩ | assumption))) | (apply S_fieldP; (· exact rfl); (· exact rfl); (· exact rfl); (· exact rfl); (· exact gt_any rfl)) | apply S_lss | apply S_add | (apply S_storeF; (· exact rfl); (· exact gt_any rfl); (· exact rfl); (· exact rfl); (· exact rfl); (· exact rfl); (· exact gt_any rfl); (· exact rfl); (· exact rfl); (· (repeat' constructor))) | (apply S_nilP; (· exact gt_any rfl)) | (apply S_buildV tyOk; (· exact rfl); (· exact rfl)) | (apply M_slSl; (· exact rfl); (· exact rfl); (· exact gt_any rfl); (· exact rfl); (· exact rfl)) | (apply L_appB tyOk; (· exact rfl); (· exact rfl); (· exact gt_any rfl)) | (apply L_appN tyOk; (· exact rfl); (· exact rfl); (· exact gt_any rfl)) | apply S_callQ (f := 115) | apply c0 | exact viewL_nil | apply viewL_cons | (apply View.pure; exact PureC.out) | (apply view_slM; (· exact rfl); (· (apply mlen; first | exact rfl | assumption | exact Nat.le_of_ble_eq_true rfl | omega | (simp [bA_length]; done) | (simp [bA_length]; omega))); (· exact PureEC.out)) | (apply view_ptr; (· exact rfl); (· exact rfl)) | (apply mtake; first | assumption | exact take_full (by first | rfl | (simp; done)) | exact rfl) | exact FlatC.out | (apply mlen; first | exact rfl | assumption | exact Nat.le_of_ble_eq_true rfl | omega | (simp [bA_length]; done) | (simp [bA_length]; omega)) | (apply msz; first | assumption | exact Nat.le_of_ble_eq_true rfl | (dsimp only; simp only [List.length_append, List.length_map, List.length_cons, List.length_nil, bA_length, List.length_take, List.length_drop, List.length_replicate] at *; omega) | (dsimp only; omega)) | (apply mnorm; first | with_reducible exact app_nil0 _ | exact app_norm _ _ | exact rfl) | (apply mtake; first | assumption | exact take_full (by first | rfl | (simp; done)) | exact rfl) | (apply src_sl; (· exact rfl); (· exact rfl); (· exact rfl)) | (dsimp only; omega) | (apply mnat; first | exact Int.toNat_natCast _ | exact rfl) | exact Bd.no _ | (apply bd_at; (· exact gt_any rfl)) | exact gtsI_nil | exact elts_nil | exact gt_any rfl | exact gts_nil | (apply gts_cons; (· exact gt_any rfl)) | assumption | omega | exact rfl | fail)
  (apply E_U0 [(0, 0), (2, 3)] <;> repeat' (first | exact resL_nil | (apply resL_tmp; (· exact rfl)) | (apply resL_cell; (· exact rfl); (· exact rfl); (· exact rfl); (· exact rfl); (· exact rfl); (· exact rfl)) | (apply resL_arr; (· exact rfl); (· exact rfl); (· exact rfl); (· exact rfl); (· (first | assumption | exact rfl))) | exact Ren.sl _ _ _ _ | (apply ren_slE; (· first | exact rfl | omega); (· first | exact rfl | assumption | (simp [bA_length]; done) | (simp [bA_length]; omega)); (· first | exact rfl | assumption | (simp [bA_length]; done) | (simp [bA_length]; omega))) | exact Ren.ptr _ _ _ | exact renL_nil | apply renL_cons | (apply Ren.pure; exact PureC.out) | apply ren_agg | apply ren_tup | exact Low.sl _ _ _ _ (by decide) | exact Low.ptr _ _ _ (by decide) | exact lowL_nil | apply lowL_cons | (apply Low.pure; exact PureC.out) | apply low_agg | apply low_tup | exact pullB_nil | (apply pullB_pureE; (· exact rfl); (· first | exact rfl | assumption | (simp [bA]; done)); (· exact PureEC.out)) | (apply pullB_one; (· exact rfl)) | exact lowBs_nil | apply lowBs_cons | (apply PureB.low; exact PureEC.out) | apply lowX_one | exact lowX_nil | exact rfl))

theorem specSettle_errAt (c : Int) (q : List Itm) (n : Int) (hq : q.length ≤ 12) (he : settleCode q n ≠ 0) (i j N : Nat) (hi : i < N) (hj : j < N) (hij : i ≠ j) :
    CR Try.prog 111 [.ptr i 0 0, .int .i64 n] [(i, boxR (relB j c q.length)), (j, boxQ q)] N (Is (.int .i64 (settleCode q n)) [(i, boxR (relB j c q.length)), (j, boxQ q)] N) :=
  (CR.toI (specSettle_err c q n hq he) [i, j] rfl (by simp [*] <;> omega) _ (by simp [*] <;> omega) (by repeat' (first | exact Ren.sl _ _ _ _ | exact Ren.ptr _ _ _ | exact renL_nil | apply renL_cons | (apply Ren.pure; exact PureC.out) | apply ren_agg | apply ren_tup | exact renBs_nil | (apply renBs_pure; (· exact rfl); (· exact PureEC.out)) | (apply renBs_one; (· exact rfl)))) (by repeat' (first | exact Ren.sl _ _ _ _ | exact Ren.ptr _ _ _ | exact renL_nil | apply renL_cons | (apply Ren.pure; exact PureC.out) | apply ren_agg | apply ren_tup | exact renBs_nil | (apply renBs_pure; (· exact rfl); (· exact PureEC.out)) | (apply renBs_one; (· exact rfl)))) (by omega) (by repeat' (first | exact Ren.sl _ _ _ _ | exact Ren.ptr _ _ _ | exact renL_nil | apply renL_cons | (apply Ren.pure; exact PureC.out) | apply ren_agg | apply ren_tup | exact renBs_nil | (apply renBs_pure; (· exact rfl); (· exact PureEC.out)) | (apply renBs_one; (· exact rfl)))) (by repeat' (first | exact Ren.sl _ _ _ _ | exact Ren.ptr _ _ _ | exact renL_nil | apply renL_cons | (apply Ren.pure; exact PureC.out) | apply ren_agg | apply ren_tup | exact renBs_nil | (apply renBs_pure; (· exact rfl); (· exact PureEC.out)) | (apply renBs_one; (· exact rfl)))))

theorem specSettle_okAt (c : Int) (q : List Itm) (n : Int) (hq : q.length ≤ 12) (he : settleCode q n = 0) (i j N : Nat) (hi : i < N) (hj : j < N) (hij : i ≠ j) :
    CR Try.prog 111 [.ptr i 0 0, .int .i64 n] [(i, boxR (relB j c q.length)), (j, boxQ q)] N (Is (.int .i64 0) [(i, boxR (relB N c (settleQ q n).length)), (N, boxQ (settleQ q n))] (N + 1)) :=
  (CR.toI (specSettle_ok c q n hq he) [i, j] rfl (by simp [*] <;> omega) _ (by simp [*] <;> omega) (by repeat' (first | exact Ren.sl _ _ _ _ | exact Ren.ptr _ _ _ | exact renL_nil | apply renL_cons | (apply Ren.pure; exact PureC.out) | apply ren_agg | apply ren_tup | exact renBs_nil | (apply renBs_pure; (· exact rfl); (· exact PureEC.out)) | (apply renBs_one; (· exact rfl)))) (by repeat' (first | exact Ren.sl _ _ _ _ | exact Ren.ptr _ _ _ | exact renL_nil | apply renL_cons | (apply Ren.pure; exact PureC.out) | apply ren_agg | apply ren_tup | exact renBs_nil | (apply renBs_pure; (· exact rfl); (· exact PureEC.out)) | (apply renBs_one; (· exact rfl)))) (by omega) (by repeat' (first | exact Ren.sl _ _ _ _ | exact Ren.ptr _ _ _ | exact renL_nil | apply renL_cons | (apply Ren.pure; exact PureC.out) | apply ren_agg | apply ren_tup | exact renBs_nil | (apply renBs_pure; (· exact rfl); (· exact PureEC.out)) | (apply renBs_one; (· exact rfl)))) (by repeat' (first | exact Ren.sl _ _ _ _ | exact Ren.ptr _ _ _ | exact renL_nil | apply renL_cons | (apply Ren.pure; exact PureC.out) | apply ren_agg | apply ren_tup | exact renBs_nil | (apply renBs_pure; (· exact rfl); (· exact PureEC.out)) | (apply renBs_one; (· exact rfl)))))

def stCode (c : Int) (q : List Itm) (n : Int) : Int := if relFault c q ≠ 0 then relFault c q else settleCode q n
def stC (c : Int) (q : List Itm) (n : Int) : Int := if stCode c q n = 0 then c else 0
def stQ (c : Int) (q : List Itm) (n : Int) : List Itm := if stCode c q n = 0 then settleQ q n else []
end Go.Proofs.Ytgakkecaflppfaa
