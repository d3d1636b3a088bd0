/- Results that are ledgers, and new ledgers. -/
import Derived.Test.YtaolmfgpebncjaaGreatWe
set_option maxRecDepth 100000
set_option maxHeartbeats 3200000
set_option linter.unusedSimpArgs false
set_option linter.unusedVariables false
namespace Go.Proofs.YtaolmfgpebncjaaGreat
open Go.Av
attribute [local irreducible] T thenQ blockQ againQ againS WX retV retR Gt Gts GtsP okCells CV CR Av.Pure

structure Evt where
  kind : Int
  nonce : Int
  amount : Int
  to : ByteArray

abbrev evtA (e : Evt) : AV := .agg [.int .i64 e.kind, .int .i64 e.nonce, .int .i64 e.amount, .str e.to]
abbrev ledResA (c : Int) (l : Ldg) (e : Evt) : AV := .agg [.int .i64 c, .int .i64 l.kind, .int .i64 l.sent, .int .i64 l.settled, .int .i64 l.next, sl1 (l.done.map numA), .int .i64 l.cap, .bool l.paused, .int .i64 e.kind, .int .i64 e.nonce, .int .i64 e.amount, .str e.to]
abbrev l0 : Ldg := ⟨0, 0, 0, 0, [], 0, false⟩
abbrev e0 : Evt := ⟨0, 0, 0, ⟨#[]⟩⟩

def nlCode (k lim : Int) : Int := if ¬ isKind k then 1 else if ¬ (0 ≤ lim ∧ lim ≤ 1000000000000000) then 3 else 0
def nlLdg (k lim : Int) : Ldg := if nlCode k lim = 0 then ⟨k, 0, 0, 1, [], lim, false⟩ else l0
def marksI (k : Int) (n : Nat) : List Int := (List.range n).map fun i : Nat => k + (i : Int)
theorem marksI_length (k : Int) (n : Nat) : (marksI k n).length = n := by simp [marksI]
theorem marksI_getD (k : Int) (n : Nat) {j : Nat} (h : j < n) : (marksI k n).getD j 0 = k + j := by
  simp [marksI, List.getD_eq_getElem?_getD, h]
theorem marksI_step (q : List Int) (k : Int) {j : Nat} (h : j < q.length) :
    ((marksI k j).map numA ++ (q.drop j).map numA).set (0 + ((j : Int)).toNat) (.int .i64 (k + j)) = (marksI k (j + 1)).map numA ++ (q.drop (j + 1)).map numA := by
  rw [Nat.zero_add, Int.toNat_natCast]
  have hl : ((marksI k j).map numA).length = j := by rw [List.length_map, marksI_length]
  rw [List.drop_eq_getElem_cons h, List.map_cons, List.set_append_right _ _ (by omega), hl, Nat.sub_self, List.set_cons_zero]
  rw [marksI, marksI, List.range_succ, List.map_append]
  simp

theorem markInt64S_cr (q : List Int) (k : Int) (sl : Bool) (hb : q.length ≤ 1073741824) (h0 : 0 ≤ k) (h1 : k ≤ 1152921504606846976) :
    CR Tryz.prog 63 [.sl 0 0 q.length q.length, .int .i64 k] [(0, some ⟨q.map numA, 1, sl, false⟩)] 1 (Is (.int .i64 (k + q.length)) [(0, some ⟨(marksI k q.length).map numA, 1, sl, false⟩)] 1) := by
  refine CR_introU tyOk Tryz.func63 (by kernel_rfl) rfl 19 rfl (by simp) [.tmp 4] rfl ?_
  intro w0 ok0 wr φ0
  repeat' (first | refine T_seq ?_ | refine N_then ?_ | refine T_regX tyOk ?_ | refine S_nil ?_ | refine T_block ?_ | apply S_assign | exact gt_any rfl | exact rfl | fail)
  refine T_roundsS (α := Nat) (fun j => ⟨[(0, .sl 0 0 q.length q.length), (1, .int .i64 (k + j)), (5, .int .i64 j)], [(0, some ⟨(marksI k j).map numA ++ (q.drop j).map numA, 1, sl, false⟩)], 1⟩)
    (fun j => q.length - j) (fun j => j ≤ q.length) 0 (weak_of (keepE_cons rfl (keepE_cons (by rw [Int.natCast_zero, Int.add_zero]; rfl) (keepE_cons rfl keepE_nil))) (keepB_cons rfl keepB_nil) (Nat.le_refl _)).sub (by omega) ?_
  intro j hj
  by_cases hjl : j < q.length
  · have hc : decide ((j : Int) < (q.length : Int)) = true := by simp only [decide_eq_true_eq]; omega
    have hw : IntKind.wrap .i64 (k + (j : Int)) = k + j := wrap_i64 (by omega) (by omega)
    have hset := marksI_step q k hjl
    have hin : 0 + ((j : Int)).toNat < ((marksI k j).map numA ++ (q.drop j).map numA).length := by simp [marksI_length]; omega
    have hk : IntKind.wrap .i64 (k + (j : Int) + 1) = k + ((j + 1 : Nat) : Int) := by rw [wrap_i64 (by omega) (by omega)]; omega
    repeat' (first | refine T_seq ?_ | refine N_then ?_ | refine N_block ?_ | refine T_regX tyOk ?_ | refine S_nil ?_ | refine T_skip ?_ | refine T_block ?_ | (apply T_ifT; (· exact rfl); (· (first | assumption | exact rfl))) | apply S_move | apply S_assign | apply S_lss | apply S_add | (apply S_len_sl; (· exact rfl); (· exact gt_any rfl)) | (apply S_idxSl; (· exact rfl); (· exact rfl); (· exact gt_any rfl); (· exact rfl); (· exact gt_any rfl)) | (apply S_storeE; (· exact rfl); (· exact gt_any rfl); (· exact rfl); (· exact rfl); (· exact rfl)) | exact gt_any rfl | exact okCells_of rfl rfl | assumption | (apply wrap_i64; (· omega); (· omega)) | (refine ⟨?_, ?_⟩ <;> omega) | exact rfl | fail)
    exact N_againS (j + 1) ((weak_of (by repeat' (first | exact keepE_nil | refine keepE_cons rfl ?_)) (by repeat' (first | exact keepB_nil | refine keepB_cons (by first | rfl | exact congrArg (fun l => some (Box.mk l _ _ _)) hset) ?_)) (Nat.le_refl _))).sub (by omega) (by omega)
  · have hc : decide ((j : Int) < (q.length : Int)) = false := by simp only [decide_eq_false_iff_not]; omega
    obtain rfl : j = q.length := by omega
    have he : (marksI k q.length).map numA ++ (q.drop q.length).map numA = (marksI k q.length).map numA := by rw [List.drop_length]; exact List.append_nil _
    repeat' (first | refine T_seq ?_ | refine N_then ?_ | refine N_thenE ?_ | refine N_blockE ?_ | refine N_againSE ?_ | refine T_regX tyOk ?_ | refine S_nil ?_ | refine T_ret ?_ | refine T_exit ?_ | (apply T_ifF; (· exact rfl); (· (first | assumption | exact rfl))) | apply S_move | apply S_assign | apply S_lss | (apply S_len_sl; (· exact rfl); (· exact gt_any rfl)) | exact gt_any rfl | exact rfl | fail)
    rw [he]
    (apply E_U0 [(0, 0)] <;> repeat' (first | exact resL_nil | (apply resL_tmp; (· exact rfl)) | (apply resL_cell; (· exact rfl); (· exact rfl); (· exact rfl); (· exact rfl); (· exact rfl); (· exact rfl)) | (apply resL_arr; (· exact rfl); (· exact rfl); (· exact rfl); (· exact rfl); (· (first | assumption | exact rfl))) | exact Ren.sl _ _ _ _ | (apply ren_slE; (· first | exact rfl | omega); (· first | exact rfl | assumption | (simp [bA_length]; done) | (simp [bA_length]; omega)); (· first | exact rfl | assumption | (simp [bA_length]; done) | (simp [bA_length]; omega))) | exact Ren.ptr _ _ _ | exact renL_nil | apply renL_cons | (apply Ren.pure; exact PureC.out) | apply ren_agg | apply ren_tup | exact Low.sl _ _ _ _ (by decide) | exact Low.ptr _ _ _ (by decide) | exact lowL_nil | apply lowL_cons | (apply Low.pure; exact PureC.out) | apply low_agg | apply low_tup | exact pullB_nil | (apply pullB_pureE; (· exact rfl); (· first | exact rfl | assumption | (simp [bA]; done)); (· exact PureEC.out)) | (apply pullB_one; (· exact rfl)) | exact lowBs_nil | apply lowBs_cons | (apply PureB.low; exact PureEC.out) | apply lowX_one | exact lowX_nil | exact rfl))

theorem heldInt64S_cv (n : Nat) (k : Int) (hn : n ≤ 1073741824) (h0 : 0 ≤ k) (h1 : k ≤ 1152921504606846976) : CV Tryz.prog 64 [sl1 ((marksI k n).map numA), .int .i64 k] (· = .int .i64 (k + n)) := by
  refine CV_intro tyOk Tryz.func64 (by kernel_rfl) rfl 21 rfl (by simp) [.tmp 4] rfl ?_
  intro w0 ok0
  have hl : ((marksI k n).map numA).length = n := by rw [List.length_map, marksI_length]
  repeat' (first | refine T_seq ?_ | refine N_then ?_ | refine T_regX tyOk ?_ | refine S_nil ?_ | refine T_block ?_ | apply S_assign | exact gt_any rfl | exact rfl | fail)
  refine T_roundsS (α := Nat) (fun j => ⟨[(0, sl1 ((marksI k n).map numA)), (1, .int .i64 (k + j)), (5, .int .i64 j)], [], 0⟩)
    (fun j => n - j) (fun j => j ≤ n) 0 (weak_of (keepE_cons rfl (keepE_cons (by rw [Int.natCast_zero, Int.add_zero]; rfl) (keepE_cons rfl keepE_nil))) keepB_nil (Nat.le_refl _)).sub (by omega) ?_
  intro j hj
  by_cases hjl : j < n
  · have hc : decide ((j : Int) < (((marksI k n).map numA).length : Int)) = true := by simp only [decide_eq_true_eq]; omega
    have hw : IntKind.wrap .i64 (k + (j : Int)) = k + j := wrap_i64 (by omega) (by omega)
    have hget : ((marksI k n).map numA).getD ((j : Int)).toNat .undef = .int .i64 (k + j) := by
      rw [map_getD numA _ 0 (by rw [marksI_length]; exact hjl), marksI_getD k n hjl]
    have hk : IntKind.wrap .i64 (k + (j : Int) + 1) = k + ((j + 1 : Nat) : Int) := by rw [wrap_i64 (by omega) (by omega)]; omega
    have hd : (!decide (k + (j : Int) = k + (j : Int))) = false := by simp
    repeat' (first | refine T_seq ?_ | refine N_then ?_ | refine N_block ?_ | refine T_regX tyOk ?_ | refine S_nil ?_ | refine T_skip ?_ | refine T_block ?_ | (apply T_ifT; (· exact rfl); (· (first | assumption | exact rfl))) | (apply T_ifF; (· exact rfl); (· (first | assumption | exact rfl))) | apply S_move | apply S_assign | (apply S_loadV; (· exact rfl); (· exact gt_any rfl); (· exact rfl); (· (first | exact ⟨rfl, rfl⟩ | exact ⟨rfl, trivial⟩ | assumption))) | apply S_lss | (apply S_neq; (· exact gt_any rfl); (· exact gt_any rfl)) | apply S_add | (apply S_len_ls; (· exact rfl); (· exact gt_any rfl)) | (apply S_idxLs; (· exact rfl); (· exact rfl); (· exact gt_any rfl); (· exact gt_any rfl)) | exact gt_any rfl | assumption | (apply wrap_i64; (· omega); (· omega)) | (refine ⟨?_, ?_⟩ <;> omega) | exact rfl | fail)
    exact N_againS (j + 1) ((weak_of (by repeat' (first | exact keepE_nil | refine keepE_cons rfl ?_)) (by repeat' (first | exact keepB_nil | refine keepB_cons (by first | rfl | exact congrArg (fun l => some (Box.mk l _ _ _)) hset) ?_)) (Nat.le_refl _))).sub (by omega) (by omega)
  · have hc : decide ((j : Int) < (((marksI k n).map numA).length : Int)) = false := by simp only [decide_eq_false_iff_not]; omega
    obtain rfl : j = n := by omega
    repeat' (first | refine T_seq ?_ | refine N_then ?_ | refine N_thenE ?_ | refine N_blockE ?_ | refine N_againSE ?_ | refine T_regX tyOk ?_ | refine S_nil ?_ | refine T_ret ?_ | refine T_exit ?_ | (apply E_tmp; (· exact rfl); (· (repeat' (first | exact pure_int _ _ | exact pure_bool _ | exact pure_str _); done))) | (apply T_ifF; (· exact rfl); (· (first | assumption | exact rfl))) | apply S_move | apply S_assign | apply S_lss | (apply S_len_ls; (· exact rfl); (· exact gt_any rfl)) | exact gt_any rfl | exact rfl | fail)

end Go.Proofs.YtaolmfgpebncjaaGreat
