/- Marks of logs. -/
import Derived.Test.YthfikpgbddpmoaaWl
set_option maxRecDepth 100000
set_option maxHeartbeats 3200000
set_option linter.unusedSimpArgs false
set_option linter.unusedVariables false
namespace Go.Proofs.Ythfikpgbddpmoaa
open Go.Av
attribute [local irreducible] T thenQ blockQ againQ againS WX retV retR Gt Gts GtsP okCells CV CR Av.Pure

abbrev logB (i j : Nat) (a b : Nat) : AV := .agg [.sl i 0 a a, .sl j 0 b b]
abbrev logResB (i j : Nat) (c : Int) (a b : Nat) : AV := .agg [.int .i64 c, .sl i 0 a a, .sl j 0 b b]

theorem markLog_cr (a b : List UInt8) (k : Int) (sl : Bool) (ha : a.length ≤ 1073741824) (hb : b.length ≤ 1073741824) (h0 : 0 ≤ k) (h1 : k ≤ 1152921503533105152) :
    CR Try.prog 31 [logB 0 1 a.length b.length, .int .i64 k] [(0, some ⟨bA a, 1, sl, false⟩), (1, some ⟨bA b, 1, sl, false⟩)] 2
      (Is (.int .i64 (k + a.length + b.length)) [(0, some ⟨bA (marksB k a.length), 1, sl, false⟩), (1, some ⟨bA (marksB (k + a.length) b.length), 1, sl, false⟩)] 2) := by
  refine CR_introU tyOk Try.func31 (by kernel_rfl) rfl 14 rfl (by simp) [.tmp 4] rfl ?_
  intro w0 ok0 wr φ0
  have c0 := fun (id N : Nat) (hid : id < N) => markByteS_at a k sl ha h0 (by omega) id N hid
  have c1 := fun (id N : Nat) (hid : id < N) => markByteS_at b (k + a.length) sl hb (by omega) (by omega) id N hid
  repeat' (first | refine T_seq ?_ | refine N_then ?_ | refine T_regX tyOk ?_ | refine S_nil ?_ | refine T_ret ?_ | apply S_move | apply S_assign | (apply S_loadP; (· exact rfl); (· exact gt_any rfl); (· exact rfl); (· exact rfl); (· exact rfl); (· (first | exact ⟨rfl, rfl⟩ | exact ⟨rfl, trivial⟩ | assumption))) | (apply S_fieldP; (· exact rfl); (· exact rfl); (· exact rfl); (· exact rfl); (· exact gt_any rfl)) | apply S_box | (apply S_callL ([0]) (f := 93); (· repeat' (first | exact gts_nil | exact gt_any rfl | apply gts_cons)); (· exact rfl); (· (apply c0) <;> first | assumption | decide | omega)) | (apply S_callL ([1]) (f := 93); (· repeat' (first | exact gts_nil | exact gt_any rfl | apply gts_cons)); (· exact rfl); (· (apply c1) <;> first | assumption | decide | omega)) | exact gt_any rfl | exact okCells_of rfl rfl | exact rfl | fail)
  (apply E_U0 [(0, 0), (1, 1)] <;> repeat' (first | exact resL_nil | (apply resL_tmp; (· exact rfl)) | (apply resL_cell; (· exact rfl); (· exact rfl); (· exact rfl); (· exact rfl); (· exact rfl); (· exact rfl)) | (apply resL_arr; (· exact rfl); (· exact rfl); (· exact rfl); (· exact rfl); (· (first | assumption | exact rfl))) | exact Ren.sl _ _ _ _ | (apply ren_slE; (· first | exact rfl | omega); (· first | exact rfl | assumption | (simp [bA_length]; done) | (simp [bA_length]; omega)); (· first | exact rfl | assumption | (simp [bA_length]; done) | (simp [bA_length]; omega))) | exact Ren.ptr _ _ _ | exact renL_nil | apply renL_cons | (apply Ren.pure; exact PureC.out) | apply ren_agg | apply ren_tup | exact Low.sl _ _ _ _ (by decide) | exact Low.ptr _ _ _ (by decide) | exact lowL_nil | apply lowL_cons | (apply Low.pure; exact PureC.out) | apply low_agg | apply low_tup | exact pullB_nil | (apply pullB_pureE; (· exact rfl); (· first | exact rfl | assumption | (simp [bA]; done)); (· exact PureEC.out)) | (apply pullB_one; (· exact rfl)) | exact lowBs_nil | apply lowBs_cons | (apply PureB.low; exact PureEC.out) | apply lowX_one | exact lowX_nil | exact rfl))

theorem markLog_at (a b : List UInt8) (k : Int) (sl : Bool) (ha : a.length ≤ 1073741824) (hb : b.length ≤ 1073741824) (h0 : 0 ≤ k) (h1 : k ≤ 1152921503533105152) (i j N : Nat) (hi : i < N) (hj : j < N) (hij : i ≠ j) :
    CR Try.prog 31 [logB i j a.length b.length, .int .i64 k] [(i, some ⟨bA a, 1, sl, false⟩), (j, some ⟨bA b, 1, sl, false⟩)] N
      (Is (.int .i64 (k + a.length + b.length)) [(i, some ⟨bA (marksB k a.length), 1, sl, false⟩), (j, some ⟨bA (marksB (k + a.length) b.length), 1, sl, false⟩)] N) :=
  (CR.toI (markLog_cr a b k sl ha hb h0 h1) [i, j] rfl (by simp [*] <;> omega) _ (by simp [*] <;> omega) (by repeat' (first | exact Ren.sl _ _ _ _ | exact Ren.ptr _ _ _ | exact renL_nil | apply renL_cons | (apply Ren.pure; exact PureC.out) | apply ren_agg | apply ren_tup | exact renBs_nil | (apply renBs_pure; (· exact rfl); (· exact PureEC.out)) | (apply renBs_one; (· exact rfl)))) (by repeat' (first | exact Ren.sl _ _ _ _ | exact Ren.ptr _ _ _ | exact renL_nil | apply renL_cons | (apply Ren.pure; exact PureC.out) | apply ren_agg | apply ren_tup | exact renBs_nil | (apply renBs_pure; (· exact rfl); (· exact PureEC.out)) | (apply renBs_one; (· exact rfl)))) (by omega) (by repeat' (first | exact Ren.sl _ _ _ _ | exact Ren.ptr _ _ _ | exact renL_nil | apply renL_cons | (apply Ren.pure; exact PureC.out) | apply ren_agg | apply ren_tup | exact renBs_nil | (apply renBs_pure; (· exact rfl); (· exact PureEC.out)) | (apply renBs_one; (· exact rfl)))) (by repeat' (first | exact Ren.sl _ _ _ _ | exact Ren.ptr _ _ _ | exact renL_nil | apply renL_cons | (apply Ren.pure; exact PureC.out) | apply ren_agg | apply ren_tup | exact renBs_nil | (apply renBs_pure; (· exact rfl); (· exact PureEC.out)) | (apply renBs_one; (· exact rfl)))))

end Go.Proofs.Ythfikpgbddpmoaa
