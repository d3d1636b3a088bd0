/- Rows, validators and trusts laid anew in boxes; and marked. -/
import Derived.Test.YtaolmfgpebncjaaRa
import Derived.Test.YtaolmfgpebncjaaNa
import Derived.Test.YtaolmfgpebncjaaRg
import Derived.Test.YtaolmfgpebncjaaGj
import Derived.Test.YtaolmfgpebncjaaGk
set_option maxRecDepth 100000
set_option maxHeartbeats 3200000
set_option linter.unusedSimpArgs false
set_option linter.unusedVariables false
namespace Go.Proofs.Ytaolmfgpebncjaa
open Go.Av
attribute [local irreducible] T thenQ blockQ againQ againS WX retV retR Gt Gts GtsP okCells CV CR Av.Pure

theorem toByteS_cr0 (q : List UInt8) (h : q.length ≤ 1048576) : CR Try.prog 24 [sl1 (q.map u8A)] [] 0 (Is (.sl 0 0 q.length q.length) [(0, some ⟨q.map u8A, 1, false, false⟩)] (0 + 1)) := by
  refine CR_introU tyOk Try.func24 (by kernel_rfl) rfl 22 rfl (by simp) [.tmp 2] rfl ?_
  intro w0 ok0 wr φ0
  have hl : (q.map u8A).length = q.length := by simp
  repeat' (first | refine T_seq ?_ | refine N_then ?_ | refine T_regX tyOk ?_ | refine S_nil ?_ | refine T_block ?_ | apply S_move | apply S_assign | (apply S_len_ls; (· exact rfl); (· exact gt_any rfl)) | (apply S_make; (· exact rfl); (· exact rfl); (· exact gt_any rfl); (· exact gt_any rfl); (· exact rfl); (· (first | assumption | omega)); (· (first | assumption | omega | (dsimp only; omega) | (simp; omega))); (· (first | assumption | omega | (dsimp only; omega) | (simp; omega))); (· (first | assumption | omega | (dsimp only; omega) | (simp; omega))); (· (first | exact okCells_of rfl rfl | assumption)); (· (first | exact Nat.le_of_ble_eq_true rfl | omega | decide))) | exact gt_any rfl | exact rfl | fail)
  refine T_roundsS (α := Nat) (fun k => ⟨[(0, sl1 (q.map u8A)), (3, .sl 0 0 (q.map u8A).length (q.map u8A).length), (4, .int .i64 k)], [(0, some ⟨(q.map u8A).take k ++ List.replicate ((q.map u8A).length - k) (u8A 0), 1, false, false⟩)], 1⟩)
    (fun k => (q.map u8A).length - k) (fun k => k ≤ (q.map u8A).length) 0 ((weak_of (by repeat' (first | exact keepE_nil | refine keepE_cons rfl ?_)) (by repeat' (first | exact keepB_nil | refine keepB_cons (by first | rfl | exact congrArg (fun l => some (Box.mk l _ _ _)) hset) ?_)) (Nat.le_refl _))).sub (by omega) ?_
  intro k hk
  by_cases hkl : k < (q.map u8A).length
  · have hc : decide ((k : Int) < ((q.map u8A).length : Int)) = true := by simp only [decide_eq_true_eq]; omega
    have hget := map_getD u8A q 0 (k := k) (by omega)
    have hat := map_at u8A q 0 (k := k) (by omega)
    have hset := copy_step (q.map u8A) (u8A 0) hkl hat
    have hin : 0 + ((k : Int)).toNat < ((q.map u8A).take k ++ List.replicate ((q.map u8A).length - k) (u8A 0)).length := by
      simp only [List.length_append, List.length_take, List.length_replicate]; omega
    have okk : okCells 1 (u8A (q.getD k 0)) := okCells_of rfl rfl
    repeat' (first | refine T_seq ?_ | refine N_then ?_ | refine N_block ?_ | refine T_regX tyOk ?_ | refine S_nil ?_ | refine T_skip ?_ | refine T_block ?_ | (apply T_ifT; (· exact rfl); (· (first | assumption | exact rfl))) | apply S_move | apply S_assign | (apply S_loadV; (· exact rfl); (· exact gt_any rfl); (· exact rfl); (· (first | exact ⟨rfl, rfl⟩ | exact ⟨rfl, trivial⟩ | assumption))) | apply S_lss | apply S_add | (apply S_len_ls; (· exact rfl); (· exact gt_any rfl)) | (apply S_idxLs; (· exact rfl); (· exact rfl); (· exact gt_any rfl); (· exact gt_any rfl)) | (apply S_idxSl; (· exact rfl); (· exact rfl); (· exact gt_any rfl); (· exact rfl); (· exact gt_any rfl)) | (apply S_storeE; (· exact rfl); (· exact gt_any rfl); (· exact rfl); (· exact rfl); (· exact rfl)) | exact gt_any rfl | exact okCells_of rfl rfl | assumption | (apply wrap_i64; (· omega); (· omega)) | (refine ⟨?_, ?_⟩ <;> omega) | exact rfl | fail)
    exact N_againS (k + 1) ((weak_of (by repeat' (first | exact keepE_nil | refine keepE_cons rfl ?_)) (by repeat' (first | exact keepB_nil | refine keepB_cons (by first | rfl | exact congrArg (fun l => some (Box.mk l _ _ _)) hset) ?_)) (Nat.le_refl _))).sub (by omega) (by omega)
  · have hc : decide ((k : Int) < ((q.map u8A).length : Int)) = false := by simp only [decide_eq_false_iff_not]; omega
    obtain rfl : k = (q.map u8A).length := by omega
    have he : (q.map u8A).take (q.map u8A).length ++ List.replicate ((q.map u8A).length - (q.map u8A).length) (u8A 0) = q.map u8A := by
      rw [Nat.sub_self, List.replicate_zero, List.append_nil, List.take_length]
    repeat' (first | refine T_seq ?_ | refine N_then ?_ | refine N_thenE ?_ | refine N_blockE ?_ | refine N_againSE ?_ | refine T_regX tyOk ?_ | refine S_nil ?_ | refine T_ret ?_ | refine T_exit ?_ | (apply T_ifF; (· exact rfl); (· (first | assumption | exact rfl))) | apply S_move | apply S_assign | apply S_lss | (apply S_len_ls; (· exact rfl); (· exact gt_any rfl)) | exact gt_any rfl | exact rfl | fail)
    rw [he]
    (apply E_U0 [(0, 0)] <;> repeat' (first | exact resL_nil | (apply resL_tmp; (· exact rfl)) | (apply resL_cell; (· exact rfl); (· exact rfl); (· exact rfl); (· exact rfl); (· exact rfl); (· exact rfl)) | (apply resL_arr; (· exact rfl); (· exact rfl); (· exact rfl); (· exact rfl); (· (first | assumption | exact rfl))) | exact Ren.sl _ _ _ _ | (apply ren_slE; (· first | exact rfl | omega); (· first | exact rfl | assumption | (simp [bA_length]; done) | (simp [bA_length]; omega)); (· first | exact rfl | assumption | (simp [bA_length]; done) | (simp [bA_length]; omega))) | exact Ren.ptr _ _ _ | exact renL_nil | apply renL_cons | (apply Ren.pure; exact PureC.out) | apply ren_agg | apply ren_tup | exact Low.sl _ _ _ _ (by decide) | exact Low.ptr _ _ _ (by decide) | exact lowL_nil | apply lowL_cons | (apply Low.pure; exact PureC.out) | apply low_agg | apply low_tup | exact pullB_nil | (apply pullB_pureE; (· exact rfl); (· first | exact rfl | assumption | (simp [bA]; done)); (· exact PureEC.out)) | (apply pullB_one; (· exact rfl)) | exact lowBs_nil | apply lowBs_cons | (apply PureB.low; exact PureEC.out) | apply lowX_one | exact lowX_nil | exact rfl))

theorem toByteS_cr (q : List UInt8) (h : q.length ≤ 1048576) (N : Nat) : CR Try.prog 24 [sl1 (q.map u8A)] [] N (Is (.sl N 0 q.length q.length) [(N, some ⟨q.map u8A, 1, false, false⟩)] (N + 1)) :=
  CR.allN (toByteS_cr0 q h) N (by first | exact PureC.out | exact PureLC.out | assumption) (by repeat' (first | exact Ren.sl _ _ _ _ | exact Ren.ptr _ _ _ | exact renL_nil | apply renL_cons | (apply Ren.pure; (first | exact PureC.out | exact PureLC.out | assumption)) | apply ren_agg | apply ren_tup)) (by repeat' (first | exact renBs_nil | (apply renBs_pure; (· exact rfl); (· (exact PureEC.out))) | (apply renBs_one; (· exact rfl)) | exact renL_nil | apply renL_cons | exact Ren.sl _ _ _ _ | exact Ren.ptr _ _ _ | (apply Ren.pure; (first | exact PureC.out | exact PureLC.out | assumption)) | apply ren_agg))

end Go.Proofs.Ytaolmfgpebncjaa

set_option maxRecDepth 100000
set_option maxHeartbeats 3200000
set_option linter.unusedSimpArgs false
set_option linter.unusedVariables false
namespace Go.Proofs.Ytaolmfgpebncjaa
open Go.Av
attribute [local irreducible] T thenQ blockQ againQ againS WX retV retR Gt Gts GtsP okCells CV CR Av.Pure

abbrev nilS : AV := .ls 0 true true []
theorem set_here {A : List AV} {z x : AV} {n j : Nat} (h : A.length = j) (hn : j < n) : (A ++ List.replicate (n - j) z).set (0 + ((j : Int)).toNat) x = A ++ x :: List.replicate (n - (j + 1)) z := by
  rw [Nat.zero_add, Int.toNat_natCast, List.set_append_right _ _ (by omega), h, Nat.sub_self, show n - j = (n - (j + 1)) + 1 by omega, List.replicate_succ, List.set_cons_zero]

/-! validators -/
def vldN (r : Nat) (a _b : Nat) (v : Vld) : AV := .agg [.sl r a v.key.length v.key.length, .int .i64 v.power]
def vldsN (r : Nat) (l : List Vld) : List AV := laidN (fun v : Vld => v.key.length) (fun _ => 0) (vldN r) 0 0 l
abbrev vldZ : AV := .agg [nilS, .int .i64 0]
theorem sum0 {α : Type} (l : List α) : (l.map fun _ => 0).sum = 0 := by
  induction l with
  | nil => rfl
  | cons _ _ ih => simpa using ih
theorem rn_vlds (ρ : Nat → Nat) (r : Nat) (l : List Vld) : RenEL ρ (vldsN r l) (vldsN (ρ r) l) := by
  unfold vldsN; exact laidN_ren (fun a b x => renL_cons (.sl _ _ _ _) (renL_cons (.pure (pure_int _ _)) renL_nil)) 0 0 l
theorem lw_vlds {N : Nat} (r : Nat) (l : List Vld) (h : r < N) : LowX N (vldsN r l) := by
  unfold vldsN; exact laidN_low (fun a b x => lowL_cons (.sl _ _ _ _ h) (lowL_cons (.pure (pure_int _ _)) lowL_nil)) 0 0 l
instance (r : Nat) (l : List Vld) : OwnEC (vldsN r l) := ⟨by unfold vldsN; refine laidN_own ?_ 0 0 l; exact fun a b x => ownL_cons (own_sl _ _ _ _) (ownL_cons (flat_int _ _).own ownL_nil)⟩
def VldOk (L : Nat) (x : AV) : Prop := ∃ (o m : Nat) (p : Int), x = .agg [.sl 0 o m m, .int .i64 p] ∧ o + m ≤ L

end Go.Proofs.Ytaolmfgpebncjaa
