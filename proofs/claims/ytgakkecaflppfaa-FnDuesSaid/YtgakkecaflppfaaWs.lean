/- A relayer tries. -/
import Derived.Test.YtgakkecaflppfaaWq
set_option maxRecDepth 100000
set_option maxHeartbeats 3200000
set_option linter.unusedSimpArgs false
set_option linter.unusedVariables false
namespace Go.Proofs.Ytgakkecaflppfaa
open Go.Av
attribute [local irreducible] T thenQ blockQ againQ againS WX retV retR Gt Gts GtsP okCells CV CR Av.Pure

instance (E : List AV) (i : Nat) (v : AV) [h : PureEC E] [k : PureEC [v]] : PureEC (E.set i v) := ⟨fun x hx => by
  rcases List.mem_or_eq_of_mem_set hx with e | e
  · exact h.out x e
  · subst e; exact k.out _ (List.mem_cons_self ..)⟩

instance (E : List AV) (i : Nat) (v : AV) [h : OwnEC E] [k : OwnEC [v]] : OwnEC (E.set i v) := ⟨fun x hx => by
  rcases List.mem_or_eq_of_mem_set hx with e | e
  · exact h.out x e
  · subst e; exact k.out _ (List.mem_cons_self ..)⟩

def tryCode (q : List Itm) (n t : Int) : Int := if ¬ (0 ≤ t ∧ t ≤ 1099511627776) then 3 else if findI q n < 0 then 4 else 0
abbrev tryM (x : Itm) : Int := if 8 < x.tries + 1 then 8 else x.tries + 1
abbrev tryItm (x : Itm) (t : Int) : Itm := ⟨x.nonce, tryM x, t + 2 ^ (tryM x).toNat⟩
def tryQ (q : List Itm) (n t : Int) : List Itm := q.set (findI q n).toNat (tryItm (q.getD (findI q n).toNat it0) t)

theorem tryQ_length (q : List Itm) (n t : Int) : (tryQ q n t).length = q.length := by simp [tryQ]
theorem tryCode_ok {q : List Itm} {n t : Int} (h : tryCode q n t = 0) : (0 ≤ t ∧ t ≤ 1099511627776) ∧ 0 ≤ findI q n ∧ findI q n < q.length := by
  unfold tryCode at h
  split at h
  · omega
  · split at h
    · omega
    · rcases findI_range q n with e | e <;> omega

theorem pow_le9 {m : Int} (h0 : 0 ≤ m) (h1 : m ≤ 8) : (0 : Int) ≤ 2 ^ m.toNat ∧ (2 : Int) ^ m.toNat ≤ 256 ∧ IntKind.wrap .i64 (1 * 2 ^ min m.toNat IntKind.i64.bits) = 2 ^ m.toNat := by
  have : m = 0 ∨ m = 1 ∨ m = 2 ∨ m = 3 ∨ m = 4 ∨ m = 5 ∨ m = 6 ∨ m = 7 ∨ m = 8 := by omega
  rcases this with rfl | rfl | rfl | rfl | rfl | rfl | rfl | rfl | rfl <;> decide

theorem specTry_err (c : Int) (q : List Itm) (n t : Int) (hq : q.length ≤ 12) (he : tryCode q n t ≠ 0) :
    CR Try.prog 110 [.ptr 0 0 0, .int .i64 n, .int .i64 t] [(0, boxR (relB 1 c q.length)), (1, boxQ q)] 2 (Is (.int .i64 (tryCode q n t)) [(0, boxR (relB 1 c q.length)), (1, boxQ q)] 2) := by
  refine CR_introU tyOk Try.func110 (by kernel_rfl) rfl 43 rfl (by simp) [.tmp 6] rfl ?_
  intro w0 ok0 wr φ0
  have c0 := l11Find_cv c q n (by omega)
  have hl : (q.map itemA).length = q.length := by simp
  unfold tryCode at he ⊢
  by_cases h1 : 0 ≤ t ∧ t ≤ 1099511627776
  · have d1 : (!(decide (0 ≤ t) && decide (t ≤ 1099511627776))) = false := by simpa using h1
    rw [if_neg (fun k => k h1)] at he ⊢
    have h2 : findI q n < 0 := by
      by_cases h : findI q n < 0
      · exact h
      · rw [if_neg h] at he; exact absurd rfl he
    have d2 : decide (findI q n < 0) = true := by simpa using h2
    rw [if_pos h2]
    repeat' (first | refine T_seq ?_ | refine N_then ?_ | refine N_thenR ?_ | refine T_regX tyOk ?_ | refine S_nil ?_ | refine T_skip ?_ | refine T_ret ?_ | (apply T_ifT; (· exact rfl); (· (first | assumption | exact rfl))) | (apply T_ifF; (· exact rfl); (· (first | assumption | exact rfl))) | apply S_move | apply S_assign | apply S_lss | apply S_not | apply S_callQ (f := 115) | apply c0 | apply S_callQ (f := 60) | apply l1In_cv | exact viewL_nil | apply viewL_cons | (apply View.pure; exact PureC.out) | (apply view_slM; (· exact rfl); (· (apply mlen; first | exact rfl | assumption | exact Nat.le_of_ble_eq_true rfl | omega | (simp [bA_length]; done) | (simp [bA_length]; omega))); (· exact PureEC.out)) | (apply view_ptr; (· exact rfl); (· exact rfl)) | exact FlatC.out | exact gt_any rfl | exact gts_nil | (apply gts_cons; (· exact gt_any rfl)) | exact rfl | fail)
    (apply E_U0 [(0, 0), (1, 1)] <;> repeat' (first | exact resL_nil | (apply resL_tmp; (· exact rfl)) | (apply resL_cell; (· exact rfl); (· exact rfl); (· exact rfl); (· exact rfl); (· exact rfl); (· exact rfl)) | (apply resL_arr; (· exact rfl); (· exact rfl); (· exact rfl); (· exact rfl); (· (first | assumption | exact rfl))) | exact Ren.sl _ _ _ _ | (apply ren_slE; (· first | exact rfl | omega); (· first | exact rfl | assumption | (simp [bA_length]; done) | (simp [bA_length]; omega)); (· first | exact rfl | assumption | (simp [bA_length]; done) | (simp [bA_length]; omega))) | exact Ren.ptr _ _ _ | exact renL_nil | apply renL_cons | (apply Ren.pure; exact PureC.out) | apply ren_agg | apply ren_tup | exact Low.sl _ _ _ _ (by decide) | exact Low.ptr _ _ _ (by decide) | exact lowL_nil | apply lowL_cons | (apply Low.pure; exact PureC.out) | apply low_agg | apply low_tup | exact pullB_nil | (apply pullB_pureE; (· exact rfl); (· first | exact rfl | assumption | (simp [bA]; done)); (· exact PureEC.out)) | (apply pullB_one; (· exact rfl)) | exact lowBs_nil | apply lowBs_cons | (apply PureB.low; exact PureEC.out) | apply lowX_one | exact lowX_nil | exact rfl))
  · have d1 : (!(decide (0 ≤ t) && decide (t ≤ 1099511627776))) = true := by simp; omega
    rw [if_pos h1]
    repeat' (first | refine T_seq ?_ | refine N_then ?_ | refine N_thenR ?_ | refine T_regX tyOk ?_ | refine S_nil ?_ | refine T_ret ?_ | (apply T_ifT; (· exact rfl); (· (first | assumption | exact rfl))) | apply S_move | apply S_assign | apply S_not | apply S_callQ (f := 60) | apply l1In_cv | exact viewL_nil | apply viewL_cons | (apply View.pure; exact PureC.out) | exact FlatC.out | exact gt_any rfl | exact gts_nil | (apply gts_cons; (· exact gt_any rfl)) | exact rfl | fail)
    (apply E_U0 [(0, 0), (1, 1)] <;> repeat' (first | exact resL_nil | (apply resL_tmp; (· exact rfl)) | (apply resL_cell; (· exact rfl); (· exact rfl); (· exact rfl); (· exact rfl); (· exact rfl); (· exact rfl)) | (apply resL_arr; (· exact rfl); (· exact rfl); (· exact rfl); (· exact rfl); (· (first | assumption | exact rfl))) | exact Ren.sl _ _ _ _ | (apply ren_slE; (· first | exact rfl | omega); (· first | exact rfl | assumption | (simp [bA_length]; done) | (simp [bA_length]; omega)); (· first | exact rfl | assumption | (simp [bA_length]; done) | (simp [bA_length]; omega))) | exact Ren.ptr _ _ _ | exact renL_nil | apply renL_cons | (apply Ren.pure; exact PureC.out) | apply ren_agg | apply ren_tup | exact Low.sl _ _ _ _ (by decide) | exact Low.ptr _ _ _ (by decide) | exact lowL_nil | apply lowL_cons | (apply Low.pure; exact PureC.out) | apply low_agg | apply low_tup | exact pullB_nil | (apply pullB_pureE; (· exact rfl); (· first | exact rfl | assumption | (simp [bA]; done)); (· exact PureEC.out)) | (apply pullB_one; (· exact rfl)) | exact lowBs_nil | apply lowBs_cons | (apply PureB.low; exact PureEC.out) | apply lowX_one | exact lowX_nil | exact rfl))

theorem specTry_ok (c : Int) (q : List Itm) (n t : Int) (hq : q.length ≤ 12) (hit : ∀ j, j < q.length → itemOk c (q.getD j it0)) (he : tryCode q n t = 0) :
    CR Try.prog 110 [.ptr 0 0 0, .int .i64 n, .int .i64 t] [(0, boxR (relB 1 c q.length)), (1, boxQ q)] 2 (Is (.int .i64 0) [(0, boxR (relB 1 c q.length)), (1, boxQ (tryQ q n t))] 2) := by
  obtain ⟨h1, h2, h3⟩ := tryCode_ok he
  have hk := hit (findI q n).toNat (by omega)
  have hx : q[0 + (findI q n).toNat]? = some (q.getD (findI q n).toNat it0) := by rw [Nat.zero_add, List.getD_eq_getElem?_getD, List.getElem?_eq_getElem (by omega)]; rfl
  have hset : (q.map itemA).set (0 + (findI q n).toNat) (itemA (tryItm (q.getD (findI q n).toNat it0) t)) = (tryQ q n t).map itemA := by
    rw [Nat.zero_add, tryQ, List.map_set]
  have hat : (q.map itemA)[0 + (findI q n).toNat]? = some (itemA (q.getD (findI q n).toNat it0)) := by rw [List.getElem?_map, hx]; rfl
  unfold boxQ
  rw [← hset]
  clear hset
  generalize hgx : q.getD (findI q n).toNat it0 = x at *
  unfold itemOk at hk
  refine CR_introU tyOk Try.func110 (by kernel_rfl) rfl 43 rfl (by simp) [.tmp 6] rfl ?_
  intro w0 ok0 wr φ0
  have c0 := l11Find_cv c q n (by omega)
  have hl : (q.map itemA).length = q.length := by simp
  have d1 : (!(decide (0 ≤ t) && decide (t ≤ 1099511627776))) = false := by simpa using h1
  have d2 : decide (findI q n < 0) = false := by simp; omega
  have hrg : 0 ≤ findI q n ∧ findI q n < ((q.length : Nat) : Int) := ⟨h2, h3⟩
  have hin : 0 + (findI q n).toNat < (q.map itemA).length := by omega
  have hw1 : IntKind.wrap .i64 (x.tries + 1) = x.tries + 1 := wrap_i64 (by omega) (by omega)
  have hb : 0 ≤ (if 8 < x.tries + 1 then 8 else x.tries + 1) := by split <;> omega
  have hb2 : (if 8 < x.tries + 1 then 8 else x.tries + 1) ≤ 8 := by split <;> omega
  obtain ⟨p1, p2, p3⟩ := pow_le9 hb hb2
  have hu : IntKind.wrap .u64 (if 8 < x.tries + 1 then 8 else x.tries + 1) = (if 8 < x.tries + 1 then 8 else x.tries + 1) := wrap_u64 (by omega) (by omega)
  have hw2 : IntKind.wrap .i64 (t + 2 ^ (if 8 < x.tries + 1 then 8 else x.tries + 1).toNat) = t + 2 ^ (if 8 < x.tries + 1 then 8 else x.tries + 1).toNat := wrap_i64 (by omega) (by omega)
  repeat' (first | refine T_seq ?_ | refine N_then ?_ | refine T_regX tyOk ?_ | (apply T_drawM (id := 9) 7 tyOk mixed; (· exact rfl); (· exact rfl); (· kernel_rfl); (· exact Nat.le_of_ble_eq_true rfl)) | refine S_nil ?_ | refine T_skip ?_ | refine T_ret ?_ | (apply M_loadA; (· exact rfl); (· exact rfl); (· exact gt_any rfl); (· exact rfl); (· (repeat' (first | assumption | apply get_set_same))); (· (repeat' constructor))) | (apply T_ifF; (· exact rfl); (· (first | assumption | exact rfl))) | apply S_move | apply S_assign | (apply S_loadP; (· exact rfl); (· exact gt_any rfl); (· exact rfl); (· exact rfl); (· exact rfl); (· (first | exact ⟨rfl, rfl⟩ | exact ⟨rfl, trivial⟩ | assumption))) | (apply S_loadW; (· exact rfl); (· exact gt_any rfl); (· exact rfl); (· exact rfl); (· exact rfl); (· exact rfl); (· exact rfl); (· exact rfl)) | (apply S_fieldP; (· exact rfl); (· exact rfl); (· exact rfl); (· exact rfl); (· exact gt_any rfl)) | apply S_lss | apply S_add | apply S_not | (apply S_conv; (· exact rfl); (· exact rfl); (· exact gt_any rfl)) | apply S_alloc | (apply S_store1; (· exact rfl); (· exact gt_any rfl); (· exact rfl); (· exact rfl); (· exact rfl); (· exact rfl)) | (apply S_storeF; (· exact rfl); (· exact gt_any rfl); (· exact rfl); (· exact rfl); (· exact rfl); (· exact rfl); (· exact gt_any rfl); (· exact rfl); (· exact rfl); (· (repeat' constructor))) | apply S_shlW | (apply S_idxSl; (· exact rfl); (· exact rfl); (· exact gt_any rfl); (· exact rfl); (· exact gt_any rfl)) | (apply S_storeE; (· exact rfl); (· exact gt_any rfl); (· exact rfl); (· exact rfl); (· exact rfl)) | (apply S_nilP; (· exact gt_any rfl)) | apply S_callQ (f := 115) | apply c0 | apply S_callQ (f := 60) | apply l1In_cv | apply S_callQ (f := 61) | apply l1Min_cv | exact viewL_nil | apply viewL_cons | (apply View.pure; exact PureC.out) | (apply view_slM; (· exact rfl); (· (apply mlen; first | exact rfl | assumption | exact Nat.le_of_ble_eq_true rfl | omega | (simp [bA_length]; done) | (simp [bA_length]; omega))); (· exact PureEC.out)) | (apply view_ptr; (· exact rfl); (· exact rfl)) | exact FlatC.out | exact gt_any rfl | exact gts_nil | (apply gts_cons; (· exact gt_any rfl)) | exact okCells_of rfl rfl | assumption | exact rfl | fail)
  (apply E_U0 [(0, 0), (1, 1)] <;> repeat' (first | exact resL_nil | (apply resL_tmp; (· exact rfl)) | (apply resL_cell; (· exact rfl); (· exact rfl); (· exact rfl); (· exact rfl); (· exact rfl); (· exact rfl)) | (apply resL_arr; (· exact rfl); (· exact rfl); (· exact rfl); (· exact rfl); (· (first | assumption | exact rfl))) | exact Ren.sl _ _ _ _ | (apply ren_slE; (· first | exact rfl | omega); (· first | exact rfl | assumption | (simp [bA_length]; done) | (simp [bA_length]; omega)); (· first | exact rfl | assumption | (simp [bA_length]; done) | (simp [bA_length]; omega))) | exact Ren.ptr _ _ _ | exact renL_nil | apply renL_cons | (apply Ren.pure; exact PureC.out) | apply ren_agg | apply ren_tup | exact Low.sl _ _ _ _ (by decide) | exact Low.ptr _ _ _ (by decide) | exact lowL_nil | apply lowL_cons | (apply Low.pure; exact PureC.out) | apply low_agg | apply low_tup | exact pullB_nil | (apply pullB_pureE; (· exact rfl); (· first | exact rfl | assumption | (simp [bA]; done)); (· exact PureEC.out)) | (apply pullB_one; (· exact rfl)) | exact lowBs_nil | apply lowBs_cons | (apply PureB.low; exact PureEC.out) | apply lowX_one | exact lowX_nil | exact rfl))

theorem specTry_errAt (c : Int) (q : List Itm) (n t : Int) (hq : q.length ≤ 12) (he : tryCode q n t ≠ 0) (i j N : Nat) (hi : i < N) (hj : j < N) (hij : i ≠ j) :
    CR Try.prog 110 [.ptr i 0 0, .int .i64 n, .int .i64 t] [(i, boxR (relB j c q.length)), (j, boxQ q)] N (Is (.int .i64 (tryCode q n t)) [(i, boxR (relB j c q.length)), (j, boxQ q)] N) :=
  (CR.toI (specTry_err c q n t hq he) [i, j] rfl (by simp [*] <;> omega) _ (by simp [*] <;> omega) (by repeat' (first | exact Ren.sl _ _ _ _ | exact Ren.ptr _ _ _ | exact renL_nil | apply renL_cons | (apply Ren.pure; exact PureC.out) | apply ren_agg | apply ren_tup | exact renBs_nil | (apply renBs_pure; (· exact rfl); (· exact PureEC.out)) | (apply renBs_one; (· exact rfl)))) (by repeat' (first | exact Ren.sl _ _ _ _ | exact Ren.ptr _ _ _ | exact renL_nil | apply renL_cons | (apply Ren.pure; exact PureC.out) | apply ren_agg | apply ren_tup | exact renBs_nil | (apply renBs_pure; (· exact rfl); (· exact PureEC.out)) | (apply renBs_one; (· exact rfl)))) (by omega) (by repeat' (first | exact Ren.sl _ _ _ _ | exact Ren.ptr _ _ _ | exact renL_nil | apply renL_cons | (apply Ren.pure; exact PureC.out) | apply ren_agg | apply ren_tup | exact renBs_nil | (apply renBs_pure; (· exact rfl); (· exact PureEC.out)) | (apply renBs_one; (· exact rfl)))) (by repeat' (first | exact Ren.sl _ _ _ _ | exact Ren.ptr _ _ _ | exact renL_nil | apply renL_cons | (apply Ren.pure; exact PureC.out) | apply ren_agg | apply ren_tup | exact renBs_nil | (apply renBs_pure; (· exact rfl); (· exact PureEC.out)) | (apply renBs_one; (· exact rfl)))))

theorem specTry_okAt (c : Int) (q : List Itm) (n t : Int) (hq : q.length ≤ 12) (hit : ∀ j, j < q.length → itemOk c (q.getD j it0)) (he : tryCode q n t = 0) (i j N : Nat) (hi : i < N) (hj : j < N) (hij : i ≠ j) :
    CR Try.prog 110 [.ptr i 0 0, .int .i64 n, .int .i64 t] [(i, boxR (relB j c q.length)), (j, boxQ q)] N (Is (.int .i64 0) [(i, boxR (relB j c q.length)), (j, boxQ (tryQ q n t))] N) :=
  (CR.toI (specTry_ok c q n t hq hit he) [i, j] rfl (by simp [*] <;> omega) _ (by simp [*] <;> omega) (by repeat' (first | exact Ren.sl _ _ _ _ | exact Ren.ptr _ _ _ | exact renL_nil | apply renL_cons | (apply Ren.pure; exact PureC.out) | apply ren_agg | apply ren_tup | exact renBs_nil | (apply renBs_pure; (· exact rfl); (· exact PureEC.out)) | (apply renBs_one; (· exact rfl)))) (by repeat' (first | exact Ren.sl _ _ _ _ | exact Ren.ptr _ _ _ | exact renL_nil | apply renL_cons | (apply Ren.pure; exact PureC.out) | apply ren_agg | apply ren_tup | exact renBs_nil | (apply renBs_pure; (· exact rfl); (· exact PureEC.out)) | (apply renBs_one; (· exact rfl)))) (by omega) (by repeat' (first | exact Ren.sl _ _ _ _ | exact Ren.ptr _ _ _ | exact renL_nil | apply renL_cons | (apply Ren.pure; exact PureC.out) | apply ren_agg | apply ren_tup | exact renBs_nil | (apply renBs_pure; (· exact rfl); (· exact PureEC.out)) | (apply renBs_one; (· exact rfl)))) (by repeat' (first | exact Ren.sl _ _ _ _ | exact Ren.ptr _ _ _ | exact renL_nil | apply renL_cons | (apply Ren.pure; exact PureC.out) | apply ren_agg | apply ren_tup | exact renBs_nil | (apply renBs_pure; (· exact rfl); (· exact PureEC.out)) | (apply renBs_one; (· exact rfl)))))

def tnCode (c : Int) (q : List Itm) (n t : Int) : Int := if relFault c q ≠ 0 then relFault c q else tryCode q n t
def tnC (c : Int) (q : List Itm) (n t : Int) : Int := if tnCode c q n t = 0 then c else 0
def tnQ (c : Int) (q : List Itm) (n t : Int) : List Itm := if tnCode c q n t = 0 then tryQ q n t else []
end Go.Proofs.Ytgakkecaflppfaa
