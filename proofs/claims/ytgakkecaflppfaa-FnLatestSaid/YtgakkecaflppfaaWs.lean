/- A relayer tries. -/
import Derived.Test.YtgakkecaflppfaaWq
set_option maxRecDepth 100000
set_option maxHeartbeats 3200000
set_option linter.unusedSimpArgs false
set_option linter.unusedVariables false
namespace Go.Proofs.Ytgakkecaflppfaa
open Go.Av
attribute [local irreducible] T thenQ blockQ againQ againS WX retV retR Gt Gts GtsP okCells CV CR Av.Pure

instance (E : List AV) (i : Nat) (v : AV) [h : PureEC E] [k : PureEC [v]] : PureEC (E.set i v) := ⟨fun x hx => by
  rcases List.mem_or_eq_of_mem_set hx with e | e
  · exact h.out x e
  · subst e; exact k.out _ (List.mem_cons_self ..)⟩

instance (E : List AV) (i : Nat) (v : AV) [h : OwnEC E] [k : OwnEC [v]] : OwnEC (E.set i v) := ⟨fun x hx => by
  rcases List.mem_or_eq_of_mem_set hx with e | e
  · exact h.out x e
  · subst e; exact k.out _ (List.mem_cons_self ..)⟩

/-- What a try in a relayer that is whole answers. -/
def tryCode (q : List Itm) (n t : Int) : Int := if ¬ (0 ≤ t ∧ t ≤ 1099511627776) then 3 else if findI q n < 0 then 4 else 0
abbrev tryM (x : Itm) : Int := if 8 < x.tries + 1 then 8 else x.tries + 1
abbrev tryItm (x : Itm) (t : Int) : Itm := ⟨x.nonce, tryM x, t + 2 ^ (tryM x).toNat⟩
def tryQ (q : List Itm) (n t : Int) : List Itm := q.set (findI q n).toNat (tryItm (q.getD (findI q n).toNat it0) t)

theorem tryQ_length (q : List Itm) (n t : Int) : (tryQ q n t).length = q.length := by simp [tryQ]
theorem tryCode_ok {q : List Itm} {n t : Int} (h : tryCode q n t = 0) : (0 ≤ t ∧ t ≤ 1099511627776) ∧ 0 ≤ findI q n ∧ findI q n < q.length := by
  unfold tryCode at h
  split at h
  · omega
  · split at h
    · omega
    · rcases findI_range q n with e | e <;> omega

theorem pow_le9 {m : Int} (h0 : 0 ≤ m) (h1 : m ≤ 8) : (0 : Int) ≤ 2 ^ m.toNat ∧ (2 : Int) ^ m.toNat ≤ 256 ∧ IntKind.wrap .i64 (1 * 2 ^ min m.toNat IntKind.i64.bits) = 2 ^ m.toNat := by
  have : m = 0 ∨ m = 1 ∨ m = 2 ∨ m = 3 ∨ m = 4 ∨ m = 5 ∨ m = 6 ∨ m = 7 ∨ m = 8 := by omega
  rcases this with rfl | rfl | rfl | rfl | rfl | rfl | rfl | rfl | rfl <;> decide

theorem implTry_err (c : Int) (q : List Itm) (n t : Int) (hq : q.length ≤ 12) (he : tryCode q n t ≠ 0) :
    CR Try.prog 92 [.ptr 0 0 0, .int .i64 n, .int .i64 t] [(0, boxR (relB 1 c q.length)), (1, boxQ q)] 2 (Is (.int .i64 (tryCode q n t)) [(0, boxR (relB 1 c q.length)), (1, boxQ q)] 2) := by
  refine CR_introU tyOk Try.func92 (by kernel_rfl) rfl 46 rfl (by simp) [.tmp 6] rfl ?_
  intro w0 ok0 wr φ0
  have c0 := relFind_cv c q n (by omega)
  have hl : (q.map itemA).length = q.length := by simp
  unfold tryCode at he ⊢
  by_cases h1 : 0 ≤ t ∧ t ≤ 1099511627776
  · have d1 : (!(decide (0 ≤ t) && decide (t ≤ 1099511627776))) = false := by simpa using h1
    rw [if_neg (fun k => k h1)] at he ⊢
    have h2 : findI q n < 0 := by
      by_cases h : findI q n < 0
      · exact h
      · rw [if_neg h] at he; exact absurd rfl he
    have d2 : decide (findI q n < 0) = true := by simpa using h2
    rw [if_pos h2]
    repeat' (first | refine T_seq ?_ | refine N_then ?_ | refine N_thenR ?_ | refine N_blockR ?_ | refine T_regX tyOk ?_ | refine S_nil ?_ | refine T_ret ?_ | refine T_block ?_ | (apply T_ifT; (· exact rfl); (· (first | assumption | exact rfl))) | (apply T_ifF; (· exact rfl); (· (first | assumption | exact rfl))) | apply S_move | apply S_assign | (apply S_loadW; (· exact rfl); (· exact gt_any rfl); (· exact rfl); (· exact rfl); (· exact rfl); (· exact rfl); (· exact rfl); (· exact rfl)) | apply S_lss | apply S_not | (apply S_nilP; (· exact gt_any rfl)) | apply S_callQ (f := 106) | apply c0 | apply S_callQ (f := 62) | apply in_cv | exact viewL_nil | apply viewL_cons | (apply View.pure; exact PureC.out) | (apply view_slM; (· exact rfl); (· (apply mlen; first | exact rfl | assumption | exact Nat.le_of_ble_eq_true rfl | omega | (simp [bA_length]; done) | (simp [bA_length]; omega))); (· exact PureEC.out)) | apply view_agg | exact FlatC.out | exact gt_any rfl | exact gts_nil | (apply gts_cons; (· exact gt_any rfl)) | exact rfl | fail)
    (apply E_U0 [(0, 0), (1, 1)] <;> repeat' (first | exact resL_nil | (apply resL_tmp; (· exact rfl)) | (apply resL_cell; (· exact rfl); (· exact rfl); (· exact rfl); (· exact rfl); (· exact rfl); (· exact rfl)) | (apply resL_arr; (· exact rfl); (· exact rfl); (· exact rfl); (· exact rfl); (· (first | assumption | exact rfl))) | exact Ren.sl _ _ _ _ | (apply ren_slE; (· first | exact rfl | omega); (· first | exact rfl | assumption | (simp [bA_length]; done) | (simp [bA_length]; omega)); (· first | exact rfl | assumption | (simp [bA_length]; done) | (simp [bA_length]; omega))) | exact Ren.ptr _ _ _ | exact renL_nil | apply renL_cons | (apply Ren.pure; exact PureC.out) | apply ren_agg | apply ren_tup | exact Low.sl _ _ _ _ (by decide) | exact Low.ptr _ _ _ (by decide) | exact lowL_nil | apply lowL_cons | (apply Low.pure; exact PureC.out) | apply low_agg | apply low_tup | exact pullB_nil | (apply pullB_pureE; (· exact rfl); (· first | exact rfl | assumption | (simp [bA]; done)); (· exact PureEC.out)) | (apply pullB_one; (· exact rfl)) | exact lowBs_nil | apply lowBs_cons | (apply PureB.low; exact PureEC.out) | apply lowX_one | exact lowX_nil | exact rfl))
  · have d1 : (!(decide (0 ≤ t) && decide (t ≤ 1099511627776))) = true := by simp; omega
    rw [if_pos h1]
    repeat' (first | refine T_seq ?_ | refine N_then ?_ | refine N_thenR ?_ | refine N_blockR ?_ | refine T_regX tyOk ?_ | refine S_nil ?_ | refine T_ret ?_ | refine T_block ?_ | (apply T_ifT; (· exact rfl); (· (first | assumption | exact rfl))) | apply S_move | apply S_assign | (apply S_loadW; (· exact rfl); (· exact gt_any rfl); (· exact rfl); (· exact rfl); (· exact rfl); (· exact rfl); (· exact rfl); (· exact rfl)) | apply S_not | (apply S_nilP; (· exact gt_any rfl)) | apply S_callQ (f := 106) | apply c0 | apply S_callQ (f := 62) | apply in_cv | exact viewL_nil | apply viewL_cons | (apply View.pure; exact PureC.out) | (apply view_slM; (· exact rfl); (· (apply mlen; first | exact rfl | assumption | exact Nat.le_of_ble_eq_true rfl | omega | (simp [bA_length]; done) | (simp [bA_length]; omega))); (· exact PureEC.out)) | apply view_agg | exact FlatC.out | exact gt_any rfl | exact gts_nil | (apply gts_cons; (· exact gt_any rfl)) | exact rfl | fail)
    (apply E_U0 [(0, 0), (1, 1)] <;> repeat' (first | exact resL_nil | (apply resL_tmp; (· exact rfl)) | (apply resL_cell; (· exact rfl); (· exact rfl); (· exact rfl); (· exact rfl); (· exact rfl); (· exact rfl)) | (apply resL_arr; (· exact rfl); (· exact rfl); (· exact rfl); (· exact rfl); (· (first | assumption | exact rfl))) | exact Ren.sl _ _ _ _ | (apply ren_slE; (· first | exact rfl | omega); (· first | exact rfl | assumption | (simp [bA_length]; done) | (simp [bA_length]; omega)); (· first | exact rfl | assumption | (simp [bA_length]; done) | (simp [bA_length]; omega))) | exact Ren.ptr _ _ _ | exact renL_nil | apply renL_cons | (apply Ren.pure; exact PureC.out) | apply ren_agg | apply ren_tup | exact Low.sl _ _ _ _ (by decide) | exact Low.ptr _ _ _ (by decide) | exact lowL_nil | apply lowL_cons | (apply Low.pure; exact PureC.out) | apply low_agg | apply low_tup | exact pullB_nil | (apply pullB_pureE; (· exact rfl); (· first | exact rfl | assumption | (simp [bA]; done)); (· exact PureEC.out)) | (apply pullB_one; (· exact rfl)) | exact lowBs_nil | apply lowBs_cons | (apply PureB.low; exact PureEC.out) | apply lowX_one | exact lowX_nil | exact rfl))

theorem implTry_ok (c : Int) (q : List Itm) (n t : Int) (hq : q.length ≤ 12) (hit : ∀ j, j < q.length → itemOk c (q.getD j it0)) (he : tryCode q n t = 0) :
    CR Try.prog 92 [.ptr 0 0 0, .int .i64 n, .int .i64 t] [(0, boxR (relB 1 c q.length)), (1, boxQ q)] 2 (Is (.int .i64 0) [(0, boxR (relB 1 c q.length)), (1, boxQ (tryQ q n t))] 2) := by
  obtain ⟨h1, h2, h3⟩ := tryCode_ok he
  have hk := hit (findI q n).toNat (by omega)
  have hx : q[0 + (findI q n).toNat]? = some (q.getD (findI q n).toNat it0) := by rw [Nat.zero_add, List.getD_eq_getElem?_getD, List.getElem?_eq_getElem (by omega)]; rfl
  have hset : ∀ v, ((q.map itemA).set (0 + (findI q n).toNat) v).set (0 + (findI q n).toNat) (itemA (tryItm (q.getD (findI q n).toNat it0) t)) = (tryQ q n t).map itemA := by
    intro v; rw [List.set_set, Nat.zero_add, tryQ, List.map_set]
  have hat : (q.map itemA)[0 + (findI q n).toNat]? = some (itemA (q.getD (findI q n).toNat it0)) := by rw [List.getElem?_map, hx]; rfl
  unfold boxQ
  rw [← hset (.agg [.int .i64 (q.getD (findI q n).toNat it0).nonce, .int .i64 (tryM (q.getD (findI q n).toNat it0)), .int .i64 (q.getD (findI q n).toNat it0).after])]
  clear hset
  generalize hgx : q.getD (findI q n).toNat it0 = x at *
  unfold itemOk at hk
  refine CR_introU tyOk Try.func92 (by kernel_rfl) rfl 46 rfl (by simp) [.tmp 6] rfl ?_
  intro w0 ok0 wr φ0
  have c0 := relFind_cv c q n (by omega)
  have hl : (q.map itemA).length = q.length := by simp
  have d1 : (!(decide (0 ≤ t) && decide (t ≤ 1099511627776))) = false := by simpa using h1
  have d2 : decide (findI q n < 0) = false := by simp; omega
  have hrg : 0 ≤ findI q n ∧ findI q n < ((q.length : Nat) : Int) := ⟨h2, h3⟩
  have hw1 : IntKind.wrap .i64 (x.tries + 1) = x.tries + 1 := wrap_i64 (by omega) (by omega)
  have hb : 0 ≤ (if 8 < x.tries + 1 then 8 else x.tries + 1) := by split <;> omega
  have hb2 : (if 8 < x.tries + 1 then 8 else x.tries + 1) ≤ 8 := by split <;> omega
  obtain ⟨p1, p2, p3⟩ := pow_le9 hb hb2
  have hw2 : IntKind.wrap .i64 (t + 2 ^ (if 8 < x.tries + 1 then 8 else x.tries + 1).toNat) = t + 2 ^ (if 8 < x.tries + 1 then 8 else x.tries + 1).toNat := wrap_i64 (by omega) (by omega)
  repeat' (first | refine T_seq ?_ | refine N_then ?_ | refine N_block ?_ | refine T_regX tyOk ?_ | refine S_nil ?_ | refine T_skip ?_ | refine T_ret ?_ | refine T_block ?_ | (apply M_loadP; (· exact rfl); (· exact gt_any rfl); (· exact rfl); (· (repeat' (first | assumption | apply get_set_same))); (· exact rfl); (· (first | exact ⟨rfl, rfl⟩ | exact ⟨rfl, trivial⟩ | assumption))) | (apply M_storeP; (· exact rfl); (· exact gt_any rfl); (· exact rfl); (· (repeat' (first | assumption | apply get_set_same))); (· exact rfl); (· exact rfl); (· exact rfl); (· exact gt_any rfl); (· exact rfl); (· exact rfl); (· (repeat' constructor))) | (apply T_ifF; (· exact rfl); (· (first | assumption | exact rfl))) | apply S_move | apply S_assign | (apply S_loadP; (· exact rfl); (· exact gt_any rfl); (· exact rfl); (· exact rfl); (· exact rfl); (· (first | exact ⟨rfl, rfl⟩ | exact ⟨rfl, trivial⟩ | assumption))) | (apply S_loadW; (· exact rfl); (· exact gt_any rfl); (· exact rfl); (· exact rfl); (· exact rfl); (· exact rfl); (· exact rfl); (· exact rfl)) | (apply S_fieldP; (· exact rfl); (· exact rfl); (· exact rfl); (· exact rfl); (· exact gt_any rfl)) | apply S_lss | apply S_add | apply S_not | apply S_min | apply S_shlW | (apply S_idxSl; (· exact rfl); (· exact rfl); (· exact gt_any rfl); (· exact rfl); (· exact gt_any rfl)) | (apply S_nilP; (· exact gt_any rfl)) | apply S_callQ (f := 106) | apply c0 | apply S_callQ (f := 62) | apply in_cv | exact viewL_nil | apply viewL_cons | (apply View.pure; exact PureC.out) | (apply view_slM; (· exact rfl); (· (apply mlen; first | exact rfl | assumption | exact Nat.le_of_ble_eq_true rfl | omega | (simp [bA_length]; done) | (simp [bA_length]; omega))); (· exact PureEC.out)) | apply view_agg | exact FlatC.out | exact gt_any rfl | exact gts_nil | (apply gts_cons; (· exact gt_any rfl)) | assumption | exact rfl | fail)
  (apply E_U0 [(0, 0), (1, 1)] <;> repeat' (first | exact resL_nil | (apply resL_tmp; (· exact rfl)) | (apply resL_cell; (· exact rfl); (· exact rfl); (· exact rfl); (· exact rfl); (· exact rfl); (· exact rfl)) | (apply resL_arr; (· exact rfl); (· exact rfl); (· exact rfl); (· exact rfl); (· (first | assumption | exact rfl))) | exact Ren.sl _ _ _ _ | (apply ren_slE; (· first | exact rfl | omega); (· first | exact rfl | assumption | (simp [bA_length]; done) | (simp [bA_length]; omega)); (· first | exact rfl | assumption | (simp [bA_length]; done) | (simp [bA_length]; omega))) | exact Ren.ptr _ _ _ | exact renL_nil | apply renL_cons | (apply Ren.pure; exact PureC.out) | apply ren_agg | apply ren_tup | exact Low.sl _ _ _ _ (by decide) | exact Low.ptr _ _ _ (by decide) | exact lowL_nil | apply lowL_cons | (apply Low.pure; exact PureC.out) | apply low_agg | apply low_tup | exact pullB_nil | (apply pullB_pureE; (· exact rfl); (· first | exact rfl | assumption | (simp [bA]; done)); (· exact PureEC.out)) | (apply pullB_one; (· exact rfl)) | exact lowBs_nil | apply lowBs_cons | (apply PureB.low; exact PureEC.out) | apply lowX_one | exact lowX_nil | exact rfl))

theorem specTry_err (c : Int) (q : List Itm) (n t : Int) (hq : q.length ≤ 12) (he : tryCode q n t ≠ 0) :
    CR Try.prog 110 [.ptr 0 0 0, .int .i64 n, .int .i64 t] [(0, boxR (relB 1 c q.length)), (1, boxQ q)] 2 (Is (.int .i64 (tryCode q n t)) [(0, boxR (relB 1 c q.length)), (1, boxQ q)] 2) := by
  refine CR_introU tyOk Try.func110 (by kernel_rfl) rfl 43 rfl (by simp) [.tmp 6] rfl ?_
  intro w0 ok0 wr φ0
  have c0 := l11Find_cv c q n (by omega)
  have hl : (q.map itemA).length = q.length := by simp
  unfold tryCode at he ⊢
  by_cases h1 : 0 ≤ t ∧ t ≤ 1099511627776
  · have d1 : (!(decide (0 ≤ t) && decide (t ≤ 1099511627776))) = false := by simpa using h1
    rw [if_neg (fun k => k h1)] at he ⊢
    have h2 : findI q n < 0 := by
      by_cases h : findI q n < 0
      · exact h
      · rw [if_neg h] at he; exact absurd rfl he
    have d2 : decide (findI q n < 0) = true := by simpa using h2
    rw [if_pos h2]
    repeat' (first | refine T_seq ?_ | refine N_then ?_ | refine N_thenR ?_ | refine T_regX tyOk ?_ | refine S_nil ?_ | refine T_skip ?_ | refine T_ret ?_ | (apply T_ifT; (· exact rfl); (· (first | assumption | exact rfl))) | (apply T_ifF; (· exact rfl); (· (first | assumption | exact rfl))) | apply S_move | apply S_assign | apply S_lss | apply S_not | apply S_callQ (f := 115) | apply c0 | apply S_callQ (f := 60) | apply l1In_cv | exact viewL_nil | apply viewL_cons | (apply View.pure; exact PureC.out) | (apply view_slM; (· exact rfl); (· (apply mlen; first | exact rfl | assumption | exact Nat.le_of_ble_eq_true rfl | omega | (simp [bA_length]; done) | (simp [bA_length]; omega))); (· exact PureEC.out)) | (apply view_ptr; (· exact rfl); (· exact rfl)) | exact FlatC.out | exact gt_any rfl | exact gts_nil | (apply gts_cons; (· exact gt_any rfl)) | exact rfl | fail)
    (apply E_U0 [(0, 0), (1, 1)] <;> repeat' (first | exact resL_nil | (apply resL_tmp; (· exact rfl)) | (apply resL_cell; (· exact rfl); (· exact rfl); (· exact rfl); (· exact rfl); (· exact rfl); (· exact rfl)) | (apply resL_arr; (· exact rfl); (· exact rfl); (· exact rfl); (· exact rfl); (· (first | assumption | exact rfl))) | exact Ren.sl _ _ _ _ | (apply ren_slE; (· first | exact rfl | omega); (· first | exact rfl | assumption | (simp [bA_length]; done) | (simp [bA_length]; omega)); (· first | exact rfl | assumption | (simp [bA_length]; done) | (simp [bA_length]; omega))) | exact Ren.ptr _ _ _ | exact renL_nil | apply renL_cons | (apply Ren.pure; exact PureC.out) | apply ren_agg | apply ren_tup | exact Low.sl _ _ _ _ (by decide) | exact Low.ptr _ _ _ (by decide) | exact lowL_nil | apply lowL_cons | (apply Low.pure; exact PureC.out) | apply low_agg | apply low_tup | exact pullB_nil | (apply pullB_pureE; (· exact rfl); (· first | exact rfl | assumption | (simp [bA]; done)); (· exact PureEC.out)) | (apply pullB_one; (· exact rfl)) | exact lowBs_nil | apply lowBs_cons | (apply PureB.low; exact PureEC.out) | apply lowX_one | exact lowX_nil | exact rfl))
  · have d1 : (!(decide (0 ≤ t) && decide (t ≤ 1099511627776))) = true := by simp; omega
    rw [if_pos h1]
    repeat' (first | refine T_seq ?_ | refine N_then ?_ | refine N_thenR ?_ | refine T_regX tyOk ?_ | refine S_nil ?_ | refine T_ret ?_ | (apply T_ifT; (· exact rfl); (· (first | assumption | exact rfl))) | apply S_move | apply S_assign | apply S_not | apply S_callQ (f := 60) | apply l1In_cv | exact viewL_nil | apply viewL_cons | (apply View.pure; exact PureC.out) | exact FlatC.out | exact gt_any rfl | exact gts_nil | (apply gts_cons; (· exact gt_any rfl)) | exact rfl | fail)
    (apply E_U0 [(0, 0), (1, 1)] <;> repeat' (first | exact resL_nil | (apply resL_tmp; (· exact rfl)) | (apply resL_cell; (· exact rfl); (· exact rfl); (· exact rfl); (· exact rfl); (· exact rfl); (· exact rfl)) | (apply resL_arr; (· exact rfl); (· exact rfl); (· exact rfl); (· exact rfl); (· (first | assumption | exact rfl))) | exact Ren.sl _ _ _ _ | (apply ren_slE; (· first | exact rfl | omega); (· first | exact rfl | assumption | (simp [bA_length]; done) | (simp [bA_length]; omega)); (· first | exact rfl | assumption | (simp [bA_length]; done) | (simp [bA_length]; omega))) | exact Ren.ptr _ _ _ | exact renL_nil | apply renL_cons | (apply Ren.pure; exact PureC.out) | apply ren_agg | apply ren_tup | exact Low.sl _ _ _ _ (by decide) | exact Low.ptr _ _ _ (by decide) | exact lowL_nil | apply lowL_cons | (apply Low.pure; exact PureC.out) | apply low_agg | apply low_tup | exact pullB_nil | (apply pullB_pureE; (· exact rfl); (· first | exact rfl | assumption | (simp [bA]; done)); (· exact PureEC.out)) | (apply pullB_one; (· exact rfl)) | exact lowBs_nil | apply lowBs_cons | (apply PureB.low; exact PureEC.out) | apply lowX_one | exact lowX_nil | exact rfl))

theorem specTry_ok (c : Int) (q : List Itm) (n t : Int) (hq : q.length ≤ 12) (hit : ∀ j, j < q.length → itemOk c (q.getD j it0)) (he : tryCode q n t = 0) :
    CR Try.prog 110 [.ptr 0 0 0, .int .i64 n, .int .i64 t] [(0, boxR (relB 1 c q.length)), (1, boxQ q)] 2 (Is (.int .i64 0) [(0, boxR (relB 1 c q.length)), (1, boxQ (tryQ q n t))] 2) := by
  obtain ⟨h1, h2, h3⟩ := tryCode_ok he
  have hk := hit (findI q n).toNat (by omega)
  have hx : q[0 + (findI q n).toNat]? = some (q.getD (findI q n).toNat it0) := by rw [Nat.zero_add, List.getD_eq_getElem?_getD, List.getElem?_eq_getElem (by omega)]; rfl
  have hset : (q.map itemA).set (0 + (findI q n).toNat) (itemA (tryItm (q.getD (findI q n).toNat it0) t)) = (tryQ q n t).map itemA := by
    rw [Nat.zero_add, tryQ, List.map_set]
  have hat : (q.map itemA)[0 + (findI q n).toNat]? = some (itemA (q.getD (findI q n).toNat it0)) := by rw [List.getElem?_map, hx]; rfl
  unfold boxQ
  rw [← hset]
  clear hset
  generalize hgx : q.getD (findI q n).toNat it0 = x at *
  unfold itemOk at hk
  refine CR_introU tyOk Try.func110 (by kernel_rfl) rfl 43 rfl (by simp) [.tmp 6] rfl ?_
  intro w0 ok0 wr φ0
  have c0 := l11Find_cv c q n (by omega)
  have hl : (q.map itemA).length = q.length := by simp
  have d1 : (!(decide (0 ≤ t) && decide (t ≤ 1099511627776))) = false := by simpa using h1
  have d2 : decide (findI q n < 0) = false := by simp; omega
  have hrg : 0 ≤ findI q n ∧ findI q n < ((q.length : Nat) : Int) := ⟨h2, h3⟩
  have hin : 0 + (findI q n).toNat < (q.map itemA).length := by omega
  have hw1 : IntKind.wrap .i64 (x.tries + 1) = x.tries + 1 := wrap_i64 (by omega) (by omega)
  have hb : 0 ≤ (if 8 < x.tries + 1 then 8 else x.tries + 1) := by split <;> omega
  have hb2 : (if 8 < x.tries + 1 then 8 else x.tries + 1) ≤ 8 := by split <;> omega
  obtain ⟨p1, p2, p3⟩ := pow_le9 hb hb2
  have hu : IntKind.wrap .u64 (if 8 < x.tries + 1 then 8 else x.tries + 1) = (if 8 < x.tries + 1 then 8 else x.tries + 1) := wrap_u64 (by omega) (by omega)
  have hw2 : IntKind.wrap .i64 (t + 2 ^ (if 8 < x.tries + 1 then 8 else x.tries + 1).toNat) = t + 2 ^ (if 8 < x.tries + 1 then 8 else x.tries + 1).toNat := wrap_i64 (by omega) (by omega)
  repeat' (first | refine T_seq ?_ | refine N_then ?_ | refine T_regX tyOk ?_ | (apply T_drawM (id := 9) 7 tyOk mixed; (· exact rfl); (· exact rfl); (· kernel_rfl); (· exact Nat.le_of_ble_eq_true rfl)) | refine S_nil ?_ | refine T_skip ?_ | refine T_ret ?_ | (apply M_loadA; (· exact rfl); (· exact rfl); (· exact gt_any rfl); (· exact rfl); (· (repeat' (first | assumption | apply get_set_same))); (· (repeat' constructor))) | (apply T_ifF; (· exact rfl); (· (first | assumption | exact rfl))) | apply S_move | apply S_assign | (apply S_loadP; (· exact rfl); (· exact gt_any rfl); (· exact rfl); (· exact rfl); (· exact rfl); (· (first | exact ⟨rfl, rfl⟩ | exact ⟨rfl, trivial⟩ | assumption))) | (apply S_loadW; (· exact rfl); (· exact gt_any rfl); (· exact rfl); (· exact rfl); (· exact rfl); (· exact rfl); (· exact rfl); (· exact rfl)) | (apply S_fieldP; (· exact rfl); (· exact rfl); (· exact rfl); (· exact rfl); (· exact gt_any rfl)) | apply S_lss | apply S_add | apply S_not | (apply S_conv; (· exact rfl); (· exact rfl); (· exact gt_any rfl)) | apply S_alloc | (apply S_store1; (· exact rfl); (· exact gt_any rfl); (· exact rfl); (· exact rfl); (· exact rfl); (· exact rfl)) | (apply S_storeF; (· exact rfl); (· exact gt_any rfl); (· exact rfl); (· exact rfl); (· exact rfl); (· exact rfl); (· exact gt_any rfl); (· exact rfl); (· exact rfl); (· (repeat' constructor))) | apply S_shlW | (apply S_idxSl; (· exact rfl); (· exact rfl); (· exact gt_any rfl); (· exact rfl); (· exact gt_any rfl)) | (apply S_storeE; (· exact rfl); (· exact gt_any rfl); (· exact rfl); (· exact rfl); (· exact rfl)) | (apply S_nilP; (· exact gt_any rfl)) | apply S_callQ (f := 115) | apply c0 | apply S_callQ (f := 60) | apply l1In_cv | apply S_callQ (f := 61) | apply l1Min_cv | exact viewL_nil | apply viewL_cons | (apply View.pure; exact PureC.out) | (apply view_slM; (· exact rfl); (· (apply mlen; first | exact rfl | assumption | exact Nat.le_of_ble_eq_true rfl | omega | (simp [bA_length]; done) | (simp [bA_length]; omega))); (· exact PureEC.out)) | (apply view_ptr; (· exact rfl); (· exact rfl)) | exact FlatC.out | exact gt_any rfl | exact gts_nil | (apply gts_cons; (· exact gt_any rfl)) | exact okCells_of rfl rfl | assumption | exact rfl | fail)
  (apply E_U0 [(0, 0), (1, 1)] <;> repeat' (first | exact resL_nil | (apply resL_tmp; (· exact rfl)) | (apply resL_cell; (· exact rfl); (· exact rfl); (· exact rfl); (· exact rfl); (· exact rfl); (· exact rfl)) | (apply resL_arr; (· exact rfl); (· exact rfl); (· exact rfl); (· exact rfl); (· (first | assumption | exact rfl))) | exact Ren.sl _ _ _ _ | (apply ren_slE; (· first | exact rfl | omega); (· first | exact rfl | assumption | (simp [bA_length]; done) | (simp [bA_length]; omega)); (· first | exact rfl | assumption | (simp [bA_length]; done) | (simp [bA_length]; omega))) | exact Ren.ptr _ _ _ | exact renL_nil | apply renL_cons | (apply Ren.pure; exact PureC.out) | apply ren_agg | apply ren_tup | exact Low.sl _ _ _ _ (by decide) | exact Low.ptr _ _ _ (by decide) | exact lowL_nil | apply lowL_cons | (apply Low.pure; exact PureC.out) | apply low_agg | apply low_tup | exact pullB_nil | (apply pullB_pureE; (· exact rfl); (· first | exact rfl | assumption | (simp [bA]; done)); (· exact PureEC.out)) | (apply pullB_one; (· exact rfl)) | exact lowBs_nil | apply lowBs_cons | (apply PureB.low; exact PureEC.out) | apply lowX_one | exact lowX_nil | exact rfl))

theorem try1_err (c : Int) (q : List Itm) (n t : Int) (hq : q.length ≤ 12) (he : tryCode q n t ≠ 0) :
    CR Try.prog 91 [.ptr 0 0 0, .vp [.int .i64 n], .vp [.int .i64 t]] [(0, boxR (relB 1 c q.length)), (1, boxQ q)] 2 (Is (.int .i64 (tryCode q n t)) [(0, boxR (relB 1 c q.length)), (1, boxQ q)] 2) := by
  refine CR_introU tyOk Try.func91 (by kernel_rfl) rfl 9 rfl (by simp) [.tmp 4] rfl ?_
  intro w0 ok0 wr φ0
  have c0 := implTry_err c q n t hq he
  repeat' (first | refine T_seq ?_ | refine N_then ?_ | refine T_regX tyOk ?_ | refine S_nil ?_ | refine T_ret ?_ | apply S_move | apply S_assign | (apply S_loadV; (· exact rfl); (· exact gt_any rfl); (· exact rfl); (· (first | exact ⟨rfl, rfl⟩ | exact ⟨rfl, trivial⟩ | assumption))) | (apply S_callL ([0, 1]) (f := 92); (· repeat' (first | exact gts_nil | exact gt_any rfl | apply gts_cons)); (· exact rfl); (· (apply c0) <;> first | assumption | decide | omega)) | exact gt_any rfl | exact rfl | fail)
  (apply E_U0 [(0, 0), (1, 1)] <;> repeat' (first | exact resL_nil | (apply resL_tmp; (· exact rfl)) | (apply resL_cell; (· exact rfl); (· exact rfl); (· exact rfl); (· exact rfl); (· exact rfl); (· exact rfl)) | (apply resL_arr; (· exact rfl); (· exact rfl); (· exact rfl); (· exact rfl); (· (first | assumption | exact rfl))) | exact Ren.sl _ _ _ _ | (apply ren_slE; (· first | exact rfl | omega); (· first | exact rfl | assumption | (simp [bA_length]; done) | (simp [bA_length]; omega)); (· first | exact rfl | assumption | (simp [bA_length]; done) | (simp [bA_length]; omega))) | exact Ren.ptr _ _ _ | exact renL_nil | apply renL_cons | (apply Ren.pure; exact PureC.out) | apply ren_agg | apply ren_tup | exact Low.sl _ _ _ _ (by decide) | exact Low.ptr _ _ _ (by decide) | exact lowL_nil | apply lowL_cons | (apply Low.pure; exact PureC.out) | apply low_agg | apply low_tup | exact pullB_nil | (apply pullB_pureE; (· exact rfl); (· first | exact rfl | assumption | (simp [bA]; done)); (· exact PureEC.out)) | (apply pullB_one; (· exact rfl)) | exact lowBs_nil | apply lowBs_cons | (apply PureB.low; exact PureEC.out) | apply lowX_one | exact lowX_nil | exact rfl))

theorem try1_ok (c : Int) (q : List Itm) (n t : Int) (hq : q.length ≤ 12) (hit : ∀ j, j < q.length → itemOk c (q.getD j it0)) (he : tryCode q n t = 0) :
    CR Try.prog 91 [.ptr 0 0 0, .vp [.int .i64 n], .vp [.int .i64 t]] [(0, boxR (relB 1 c q.length)), (1, boxQ q)] 2 (Is (.int .i64 0) [(0, boxR (relB 1 c q.length)), (1, boxQ (tryQ q n t))] 2) := by
  refine CR_introU tyOk Try.func91 (by kernel_rfl) rfl 9 rfl (by simp) [.tmp 4] rfl ?_
  intro w0 ok0 wr φ0
  have c0 := implTry_ok c q n t hq hit he
  repeat' (first | refine T_seq ?_ | refine N_then ?_ | refine T_regX tyOk ?_ | refine S_nil ?_ | refine T_ret ?_ | apply S_move | apply S_assign | (apply S_loadV; (· exact rfl); (· exact gt_any rfl); (· exact rfl); (· (first | exact ⟨rfl, rfl⟩ | exact ⟨rfl, trivial⟩ | assumption))) | (apply S_callL ([0, 1]) (f := 92); (· repeat' (first | exact gts_nil | exact gt_any rfl | apply gts_cons)); (· exact rfl); (· (apply c0) <;> first | assumption | decide | omega)) | exact gt_any rfl | exact rfl | fail)
  (apply E_U0 [(0, 0), (1, 1)] <;> repeat' (first | exact resL_nil | (apply resL_tmp; (· exact rfl)) | (apply resL_cell; (· exact rfl); (· exact rfl); (· exact rfl); (· exact rfl); (· exact rfl); (· exact rfl)) | (apply resL_arr; (· exact rfl); (· exact rfl); (· exact rfl); (· exact rfl); (· (first | assumption | exact rfl))) | exact Ren.sl _ _ _ _ | (apply ren_slE; (· first | exact rfl | omega); (· first | exact rfl | assumption | (simp [bA_length]; done) | (simp [bA_length]; omega)); (· first | exact rfl | assumption | (simp [bA_length]; done) | (simp [bA_length]; omega))) | exact Ren.ptr _ _ _ | exact renL_nil | apply renL_cons | (apply Ren.pure; exact PureC.out) | apply ren_agg | apply ren_tup | exact Low.sl _ _ _ _ (by decide) | exact Low.ptr _ _ _ (by decide) | exact lowL_nil | apply lowL_cons | (apply Low.pure; exact PureC.out) | apply low_agg | apply low_tup | exact pullB_nil | (apply pullB_pureE; (· exact rfl); (· first | exact rfl | assumption | (simp [bA]; done)); (· exact PureEC.out)) | (apply pullB_one; (· exact rfl)) | exact lowBs_nil | apply lowBs_cons | (apply PureB.low; exact PureEC.out) | apply lowX_one | exact lowX_nil | exact rfl))

theorem specTry_errAt (c : Int) (q : List Itm) (n t : Int) (hq : q.length ≤ 12) (he : tryCode q n t ≠ 0) (i j N : Nat) (hi : i < N) (hj : j < N) (hij : i ≠ j) :
    CR Try.prog 110 [.ptr i 0 0, .int .i64 n, .int .i64 t] [(i, boxR (relB j c q.length)), (j, boxQ q)] N (Is (.int .i64 (tryCode q n t)) [(i, boxR (relB j c q.length)), (j, boxQ q)] N) :=
  (CR.toI (specTry_err c q n t hq he) [i, j] rfl (by simp [*] <;> omega) _ (by simp [*] <;> omega) (by repeat' (first | exact Ren.sl _ _ _ _ | exact Ren.ptr _ _ _ | exact renL_nil | apply renL_cons | (apply Ren.pure; exact PureC.out) | apply ren_agg | apply ren_tup | exact renBs_nil | (apply renBs_pure; (· exact rfl); (· exact PureEC.out)) | (apply renBs_one; (· exact rfl)))) (by repeat' (first | exact Ren.sl _ _ _ _ | exact Ren.ptr _ _ _ | exact renL_nil | apply renL_cons | (apply Ren.pure; exact PureC.out) | apply ren_agg | apply ren_tup | exact renBs_nil | (apply renBs_pure; (· exact rfl); (· exact PureEC.out)) | (apply renBs_one; (· exact rfl)))) (by omega) (by repeat' (first | exact Ren.sl _ _ _ _ | exact Ren.ptr _ _ _ | exact renL_nil | apply renL_cons | (apply Ren.pure; exact PureC.out) | apply ren_agg | apply ren_tup | exact renBs_nil | (apply renBs_pure; (· exact rfl); (· exact PureEC.out)) | (apply renBs_one; (· exact rfl)))) (by repeat' (first | exact Ren.sl _ _ _ _ | exact Ren.ptr _ _ _ | exact renL_nil | apply renL_cons | (apply Ren.pure; exact PureC.out) | apply ren_agg | apply ren_tup | exact renBs_nil | (apply renBs_pure; (· exact rfl); (· exact PureEC.out)) | (apply renBs_one; (· exact rfl)))))

theorem specTry_okAt (c : Int) (q : List Itm) (n t : Int) (hq : q.length ≤ 12) (hit : ∀ j, j < q.length → itemOk c (q.getD j it0)) (he : tryCode q n t = 0) (i j N : Nat) (hi : i < N) (hj : j < N) (hij : i ≠ j) :
    CR Try.prog 110 [.ptr i 0 0, .int .i64 n, .int .i64 t] [(i, boxR (relB j c q.length)), (j, boxQ q)] N (Is (.int .i64 0) [(i, boxR (relB j c q.length)), (j, boxQ (tryQ q n t))] N) :=
  (CR.toI (specTry_ok c q n t hq hit he) [i, j] rfl (by simp [*] <;> omega) _ (by simp [*] <;> omega) (by repeat' (first | exact Ren.sl _ _ _ _ | exact Ren.ptr _ _ _ | exact renL_nil | apply renL_cons | (apply Ren.pure; exact PureC.out) | apply ren_agg | apply ren_tup | exact renBs_nil | (apply renBs_pure; (· exact rfl); (· exact PureEC.out)) | (apply renBs_one; (· exact rfl)))) (by repeat' (first | exact Ren.sl _ _ _ _ | exact Ren.ptr _ _ _ | exact renL_nil | apply renL_cons | (apply Ren.pure; exact PureC.out) | apply ren_agg | apply ren_tup | exact renBs_nil | (apply renBs_pure; (· exact rfl); (· exact PureEC.out)) | (apply renBs_one; (· exact rfl)))) (by omega) (by repeat' (first | exact Ren.sl _ _ _ _ | exact Ren.ptr _ _ _ | exact renL_nil | apply renL_cons | (apply Ren.pure; exact PureC.out) | apply ren_agg | apply ren_tup | exact renBs_nil | (apply renBs_pure; (· exact rfl); (· exact PureEC.out)) | (apply renBs_one; (· exact rfl)))) (by repeat' (first | exact Ren.sl _ _ _ _ | exact Ren.ptr _ _ _ | exact renL_nil | apply renL_cons | (apply Ren.pure; exact PureC.out) | apply ren_agg | apply ren_tup | exact renBs_nil | (apply renBs_pure; (· exact rfl); (· exact PureEC.out)) | (apply renBs_one; (· exact rfl)))))

theorem try1_errAt (c : Int) (q : List Itm) (n t : Int) (hq : q.length ≤ 12) (he : tryCode q n t ≠ 0) (i j N : Nat) (hi : i < N) (hj : j < N) (hij : i ≠ j) :
    CR Try.prog 91 [.ptr i 0 0, .vp [.int .i64 n], .vp [.int .i64 t]] [(i, boxR (relB j c q.length)), (j, boxQ q)] N (Is (.int .i64 (tryCode q n t)) [(i, boxR (relB j c q.length)), (j, boxQ q)] N) :=
  (CR.toI (try1_err c q n t hq he) [i, j] rfl (by simp [*] <;> omega) _ (by simp [*] <;> omega) (by repeat' (first | exact Ren.sl _ _ _ _ | exact Ren.ptr _ _ _ | exact renL_nil | apply renL_cons | (apply Ren.pure; exact PureC.out) | apply ren_agg | apply ren_tup | exact renBs_nil | (apply renBs_pure; (· exact rfl); (· exact PureEC.out)) | (apply renBs_one; (· exact rfl)))) (by repeat' (first | exact Ren.sl _ _ _ _ | exact Ren.ptr _ _ _ | exact renL_nil | apply renL_cons | (apply Ren.pure; exact PureC.out) | apply ren_agg | apply ren_tup | exact renBs_nil | (apply renBs_pure; (· exact rfl); (· exact PureEC.out)) | (apply renBs_one; (· exact rfl)))) (by omega) (by repeat' (first | exact Ren.sl _ _ _ _ | exact Ren.ptr _ _ _ | exact renL_nil | apply renL_cons | (apply Ren.pure; exact PureC.out) | apply ren_agg | apply ren_tup | exact renBs_nil | (apply renBs_pure; (· exact rfl); (· exact PureEC.out)) | (apply renBs_one; (· exact rfl)))) (by repeat' (first | exact Ren.sl _ _ _ _ | exact Ren.ptr _ _ _ | exact renL_nil | apply renL_cons | (apply Ren.pure; exact PureC.out) | apply ren_agg | apply ren_tup | exact renBs_nil | (apply renBs_pure; (· exact rfl); (· exact PureEC.out)) | (apply renBs_one; (· exact rfl)))))

theorem try1_okAt (c : Int) (q : List Itm) (n t : Int) (hq : q.length ≤ 12) (hit : ∀ j, j < q.length → itemOk c (q.getD j it0)) (he : tryCode q n t = 0) (i j N : Nat) (hi : i < N) (hj : j < N) (hij : i ≠ j) :
    CR Try.prog 91 [.ptr i 0 0, .vp [.int .i64 n], .vp [.int .i64 t]] [(i, boxR (relB j c q.length)), (j, boxQ q)] N (Is (.int .i64 0) [(i, boxR (relB j c q.length)), (j, boxQ (tryQ q n t))] N) :=
  (CR.toI (try1_ok c q n t hq hit he) [i, j] rfl (by simp [*] <;> omega) _ (by simp [*] <;> omega) (by repeat' (first | exact Ren.sl _ _ _ _ | exact Ren.ptr _ _ _ | exact renL_nil | apply renL_cons | (apply Ren.pure; exact PureC.out) | apply ren_agg | apply ren_tup | exact renBs_nil | (apply renBs_pure; (· exact rfl); (· exact PureEC.out)) | (apply renBs_one; (· exact rfl)))) (by repeat' (first | exact Ren.sl _ _ _ _ | exact Ren.ptr _ _ _ | exact renL_nil | apply renL_cons | (apply Ren.pure; exact PureC.out) | apply ren_agg | apply ren_tup | exact renBs_nil | (apply renBs_pure; (· exact rfl); (· exact PureEC.out)) | (apply renBs_one; (· exact rfl)))) (by omega) (by repeat' (first | exact Ren.sl _ _ _ _ | exact Ren.ptr _ _ _ | exact renL_nil | apply renL_cons | (apply Ren.pure; exact PureC.out) | apply ren_agg | apply ren_tup | exact renBs_nil | (apply renBs_pure; (· exact rfl); (· exact PureEC.out)) | (apply renBs_one; (· exact rfl)))) (by repeat' (first | exact Ren.sl _ _ _ _ | exact Ren.ptr _ _ _ | exact renL_nil | apply renL_cons | (apply Ren.pure; exact PureC.out) | apply ren_agg | apply ren_tup | exact renBs_nil | (apply renBs_pure; (· exact rfl); (· exact PureEC.out)) | (apply renBs_one; (· exact rfl)))))

/-- What TryItem answers. -/
def tnCode (c : Int) (q : List Itm) (n t : Int) : Int := if relFault c q ≠ 0 then relFault c q else tryCode q n t
def tnC (c : Int) (q : List Itm) (n t : Int) : Int := if tnCode c q n t = 0 then c else 0
def tnQ (c : Int) (q : List Itm) (n t : Int) : List Itm := if tnCode c q n t = 0 then tryQ q n t else []
theorem tn_bad {c : Int} {q : List Itm} {n t : Int} (h : relFault c q ≠ 0) : tnCode c q n t = relFault c q ∧ tnC c q n t = 0 ∧ tnQ c q n t = [] := by
  have : tnCode c q n t = relFault c q := if_pos h
  exact ⟨this, if_neg (by rw [this]; exact h), if_neg (by rw [this]; exact h)⟩
theorem tn_err {c : Int} {q : List Itm} {n t : Int} (h : relFault c q = 0) (h2 : tryCode q n t ≠ 0) : tnCode c q n t = tryCode q n t ∧ tnC c q n t = 0 ∧ tnQ c q n t = [] := by
  have : tnCode c q n t = tryCode q n t := if_neg (fun k => k h)
  exact ⟨this, if_neg (by rw [this]; exact h2), if_neg (by rw [this]; exact h2)⟩
theorem tn_ok {c : Int} {q : List Itm} {n t : Int} (h : relFault c q = 0) (h2 : tryCode q n t = 0) : tnCode c q n t = 0 ∧ tnC c q n t = c ∧ tnQ c q n t = tryQ q n t := by
  have : tnCode c q n t = 0 := (if_neg (fun k => k h)).trans h2
  exact ⟨this, if_pos this, if_pos this⟩

theorem relFault_items {c : Int} {q : List Itm} (h : relFault c q = 0) : ∀ j, j < q.length → itemOk c (q.getD j it0) :=
  fun j hj => relGo_ok q.length 0 (relFault_ok h).2.2 j (Nat.zero_le _) (by omega)

theorem implTryItem_cr0 (c : Int) (q : List Itm) (n t : Int) (h : q.length ≤ 1048576) : CR Try.prog 46 [relA c q, .int .i64 n, .int .i64 t] [] 0 (Is (relResB 0 (tnCode c q n t) (tnC c q n t) (tnQ c q n t).length) [(0, boxQ (tnQ c q n t))] (0 + 1)) := by
  refine CR_introU tyOk Try.func46 (by kernel_rfl) rfl 10 rfl (by simp) [.cell 6 73] rfl ?_
  intro w0 ok0 wr φ0
  have hp : PureAll [relA c q, .fn 91 [.vp [.int .i64 n], .vp [.int .i64 t]]] := by first | exact PureLC.out | assumption
  by_cases hf : relFault c q = 0
  · obtain ⟨f1, f2, _⟩ := relFault_ok hf
    have hit := relFault_items hf
    by_cases hs : tryCode q n t = 0
    · obtain ⟨e1, e2, e3⟩ := tn_ok hf hs
      rw [e1, e2, e3]
      have c0 := turned_same 91 [.vp [.int .i64 n], .vp [.int .i64 t]] c q c (tryQ q n t) hp h hf (fun i j N hi hj hij => by have := try1_okAt c q n t f2 hit hs i j N hi hj hij; simpa only [tryQ_length] using this)
      repeat' (first | refine T_seq ?_ | refine N_then ?_ | refine T_regX tyOk ?_ | refine S_nil ?_ | refine T_ret ?_ | (apply S_loadW; (· exact rfl); (· exact gt_any rfl); (· exact rfl); (· exact rfl); (· exact rfl); (· exact rfl); (· exact rfl); (· exact rfl)) | apply S_alloc | apply S_box | (apply S_store1; (· exact rfl); (· exact gt_any rfl); (· exact rfl); (· exact rfl); (· exact rfl); (· exact rfl)) | apply S_mkfn | apply S_callI (f := 88) | apply c0 | exact viewL_nil | apply viewL_cons | (apply View.pure; exact PureC.out) | (apply view_ptr; (· exact rfl); (· exact rfl)) | exact OwnC.out | exact ownB_nil | (apply ownB_boxM; (· (apply mlen; first | exact rfl | assumption | exact Nat.le_of_ble_eq_true rfl | omega | (simp [bA_length]; done) | (simp [bA_length]; omega))); (· exact OwnEC.out)) | apply view_fn | exact gt_any rfl | exact gts_nil | (apply gts_cons; (· exact gt_any rfl)) | exact okCells_of rfl rfl | exact rfl | fail)
      (apply E_U0 [(0, 4)] <;> repeat' (first | exact resL_nil | (apply resL_tmp; (· exact rfl)) | (apply resL_cell; (· exact rfl); (· exact rfl); (· exact rfl); (· exact rfl); (· exact rfl); (· exact rfl)) | (apply resL_arr; (· exact rfl); (· exact rfl); (· exact rfl); (· exact rfl); (· (first | assumption | exact rfl))) | exact Ren.sl _ _ _ _ | (apply ren_slE; (· first | exact rfl | omega); (· first | exact rfl | assumption | (simp [bA_length]; done) | (simp [bA_length]; omega)); (· first | exact rfl | assumption | (simp [bA_length]; done) | (simp [bA_length]; omega))) | exact Ren.ptr _ _ _ | exact renL_nil | apply renL_cons | (apply Ren.pure; exact PureC.out) | apply ren_agg | apply ren_tup | exact Low.sl _ _ _ _ (by decide) | exact Low.ptr _ _ _ (by decide) | exact lowL_nil | apply lowL_cons | (apply Low.pure; exact PureC.out) | apply low_agg | apply low_tup | exact pullB_nil | (apply pullB_pureE; (· exact rfl); (· first | exact rfl | assumption | (simp [bA]; done)); (· exact PureEC.out)) | (apply pullB_one; (· exact rfl)) | exact lowBs_nil | apply lowBs_cons | (apply PureB.low; exact PureEC.out) | apply lowX_one | exact lowX_nil | exact rfl))
    · obtain ⟨e1, e2, e3⟩ := tn_err hf hs
      rw [e1, e2, e3]
      have c0 := turned_err 91 [.vp [.int .i64 n], .vp [.int .i64 t]] c q (tryCode q n t) hp h hf hs (fun i j N hi hj hij => try1_errAt c q n t f2 hs i j N hi hj hij)
      repeat' (first | refine T_seq ?_ | refine N_then ?_ | refine T_regX tyOk ?_ | refine S_nil ?_ | refine T_ret ?_ | (apply S_loadW; (· exact rfl); (· exact gt_any rfl); (· exact rfl); (· exact rfl); (· exact rfl); (· exact rfl); (· exact rfl); (· exact rfl)) | apply S_alloc | apply S_box | (apply S_store1; (· exact rfl); (· exact gt_any rfl); (· exact rfl); (· exact rfl); (· exact rfl); (· exact rfl)) | apply S_mkfn | apply S_callI (f := 88) | apply c0 | exact viewL_nil | apply viewL_cons | (apply View.pure; exact PureC.out) | (apply view_ptr; (· exact rfl); (· exact rfl)) | exact OwnC.out | exact ownB_nil | (apply ownB_boxM; (· (apply mlen; first | exact rfl | assumption | exact Nat.le_of_ble_eq_true rfl | omega | (simp [bA_length]; done) | (simp [bA_length]; omega))); (· exact OwnEC.out)) | apply view_fn | exact gt_any rfl | exact gts_nil | (apply gts_cons; (· exact gt_any rfl)) | exact okCells_of rfl rfl | exact rfl | fail)
      (apply E_U0 [(0, 4)] <;> repeat' (first | exact resL_nil | (apply resL_tmp; (· exact rfl)) | (apply resL_cell; (· exact rfl); (· exact rfl); (· exact rfl); (· exact rfl); (· exact rfl); (· exact rfl)) | (apply resL_arr; (· exact rfl); (· exact rfl); (· exact rfl); (· exact rfl); (· (first | assumption | exact rfl))) | exact Ren.sl _ _ _ _ | (apply ren_slE; (· first | exact rfl | omega); (· first | exact rfl | assumption | (simp [bA_length]; done) | (simp [bA_length]; omega)); (· first | exact rfl | assumption | (simp [bA_length]; done) | (simp [bA_length]; omega))) | exact Ren.ptr _ _ _ | exact renL_nil | apply renL_cons | (apply Ren.pure; exact PureC.out) | apply ren_agg | apply ren_tup | exact Low.sl _ _ _ _ (by decide) | exact Low.ptr _ _ _ (by decide) | exact lowL_nil | apply lowL_cons | (apply Low.pure; exact PureC.out) | apply low_agg | apply low_tup | exact pullB_nil | (apply pullB_pureE; (· exact rfl); (· first | exact rfl | assumption | (simp [bA]; done)); (· exact PureEC.out)) | (apply pullB_one; (· exact rfl)) | exact lowBs_nil | apply lowBs_cons | (apply PureB.low; exact PureEC.out) | apply lowX_one | exact lowX_nil | exact rfl))
  · obtain ⟨e1, e2, e3⟩ := tn_bad (n := n) (t := t) hf
    rw [e1, e2, e3]
    have c0 := turned_fault 91 [.vp [.int .i64 n], .vp [.int .i64 t]] c q hp h hf
    repeat' (first | refine T_seq ?_ | refine N_then ?_ | refine T_regX tyOk ?_ | refine S_nil ?_ | refine T_ret ?_ | (apply S_loadW; (· exact rfl); (· exact gt_any rfl); (· exact rfl); (· exact rfl); (· exact rfl); (· exact rfl); (· exact rfl); (· exact rfl)) | apply S_alloc | apply S_box | (apply S_store1; (· exact rfl); (· exact gt_any rfl); (· exact rfl); (· exact rfl); (· exact rfl); (· exact rfl)) | apply S_mkfn | apply S_callI (f := 88) | apply c0 | exact viewL_nil | apply viewL_cons | (apply View.pure; exact PureC.out) | (apply view_ptr; (· exact rfl); (· exact rfl)) | exact OwnC.out | exact ownB_nil | (apply ownB_boxM; (· (apply mlen; first | exact rfl | assumption | exact Nat.le_of_ble_eq_true rfl | omega | (simp [bA_length]; done) | (simp [bA_length]; omega))); (· exact OwnEC.out)) | apply view_fn | exact gt_any rfl | exact gts_nil | (apply gts_cons; (· exact gt_any rfl)) | exact okCells_of rfl rfl | exact rfl | fail)
    (apply E_U0 [(0, 4)] <;> repeat' (first | exact resL_nil | (apply resL_tmp; (· exact rfl)) | (apply resL_cell; (· exact rfl); (· exact rfl); (· exact rfl); (· exact rfl); (· exact rfl); (· exact rfl)) | (apply resL_arr; (· exact rfl); (· exact rfl); (· exact rfl); (· exact rfl); (· (first | assumption | exact rfl))) | exact Ren.sl _ _ _ _ | (apply ren_slE; (· first | exact rfl | omega); (· first | exact rfl | assumption | (simp [bA_length]; done) | (simp [bA_length]; omega)); (· first | exact rfl | assumption | (simp [bA_length]; done) | (simp [bA_length]; omega))) | exact Ren.ptr _ _ _ | exact renL_nil | apply renL_cons | (apply Ren.pure; exact PureC.out) | apply ren_agg | apply ren_tup | exact Low.sl _ _ _ _ (by decide) | exact Low.ptr _ _ _ (by decide) | exact lowL_nil | apply lowL_cons | (apply Low.pure; exact PureC.out) | apply low_agg | apply low_tup | exact pullB_nil | (apply pullB_pureE; (· exact rfl); (· first | exact rfl | assumption | (simp [bA]; done)); (· exact PureEC.out)) | (apply pullB_one; (· exact rfl)) | exact lowBs_nil | apply lowBs_cons | (apply PureB.low; exact PureEC.out) | apply lowX_one | exact lowX_nil | exact rfl))

theorem implTryItem_cr (c : Int) (q : List Itm) (n t : Int) (h : q.length ≤ 1048576) (N : Nat) : CR Try.prog 46 [relA c q, .int .i64 n, .int .i64 t] [] N (Is (relResB N (tnCode c q n t) (tnC c q n t) (tnQ c q n t).length) [(N, boxQ (tnQ c q n t))] (N + 1)) :=
  CR.allN (implTryItem_cr0 c q n t h) N (by first | exact PureC.out | exact PureLC.out | assumption) (by repeat' (first | exact Ren.sl _ _ _ _ | exact Ren.ptr _ _ _ | exact renL_nil | apply renL_cons | (apply Ren.pure; (first | exact PureC.out | exact PureLC.out | assumption)) | apply ren_agg | apply ren_tup)) (by repeat' (first | exact renBs_nil | (apply renBs_pure; (· exact rfl); (· (exact PureEC.out))) | (apply renBs_one; (· exact rfl)) | exact renL_nil | apply renL_cons | exact Ren.sl _ _ _ _ | exact Ren.ptr _ _ _ | (apply Ren.pure; (first | exact PureC.out | exact PureLC.out | assumption)) | apply ren_agg))

end Go.Proofs.Ytgakkecaflppfaa
