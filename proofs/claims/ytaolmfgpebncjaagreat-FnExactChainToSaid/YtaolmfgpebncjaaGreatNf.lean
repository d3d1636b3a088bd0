/- Heads and clients laid anew in boxes, and marked. -/
import Derived.Test.YtaolmfgpebncjaaGreatNd
import Derived.Test.YtaolmfgpebncjaaGreatRc
import Derived.Test.YtaolmfgpebncjaaGreatGj
import Derived.Test.YtaolmfgpebncjaaGreatGk
set_option maxRecDepth 100000
set_option maxHeartbeats 3200000
set_option linter.unusedSimpArgs false
set_option linter.unusedVariables false
namespace Go.Proofs.YtaolmfgpebncjaaGreat
open Go.Av
attribute [local irreducible] T thenQ blockQ againQ againS WX retV retR Gt Gts GtsP okCells CV CR Av.Pure

def hdBy (h : Hd) : List UInt8 := h.parent ++ h.root
def hdN (r : Nat) (a _b : Nat) (h : Hd) : AV := .agg [.sl r a h.parent.length h.parent.length, .int .i64 h.height, .int .i64 h.time, .int .i64 h.zeros, .sl r (a + h.parent.length) h.root.length h.root.length, .int .i64 h.nonce]
def hdsN (r : Nat) (l : List Hd) : List AV := laidN HdW (fun _ => 0) (hdN r) 0 0 l
abbrev hdZ : AV := .agg [nilS, .int .i64 0, .int .i64 0, .int .i64 0, nilS, .int .i64 0]
theorem rn_hds (ρ : Nat → Nat) (r : Nat) (l : List Hd) : RenEL ρ (hdsN r l) (hdsN (ρ r) l) := by
  unfold hdsN
  exact laidN_ren (fun a b x => renL_cons (.sl _ _ _ _) (renL_cons (.pure (pure_int _ _)) (renL_cons (.pure (pure_int _ _)) (renL_cons (.pure (pure_int _ _)) (renL_cons (.sl _ _ _ _) (renL_cons (.pure (pure_int _ _)) renL_nil)))))) 0 0 l
theorem lw_hds {N : Nat} (r : Nat) (l : List Hd) (h : r < N) : LowX N (hdsN r l) := by
  unfold hdsN
  exact laidN_low (fun a b x => lowL_cons (.sl _ _ _ _ h) (lowL_cons (.pure (pure_int _ _)) (lowL_cons (.pure (pure_int _ _)) (lowL_cons (.pure (pure_int _ _)) (lowL_cons (.sl _ _ _ _ h) (lowL_cons (.pure (pure_int _ _)) lowL_nil)))))) 0 0 l
instance (r : Nat) (l : List Hd) : OwnEC (hdsN r l) := ⟨by
  unfold hdsN
  refine laidN_own ?_ 0 0 l
  exact fun a b x => ownL_cons (own_sl _ _ _ _) (ownL_cons (flat_int _ _).own (ownL_cons (flat_int _ _).own (ownL_cons (flat_int _ _).own (ownL_cons (own_sl _ _ _ _) (ownL_cons (flat_int _ _).own ownL_nil)))))⟩
theorem toHead_cr0 (x : Hd) (h : HdW x ≤ 1048576) : CR Tryz.prog 117 [hdA x] [] 0 (Is (.agg [.sl 0 0 x.parent.length x.parent.length, .int .i64 x.height, .int .i64 x.time, .int .i64 x.zeros, .sl (0 + 1) 0 x.root.length x.root.length, .int .i64 x.nonce])
    [(0, some ⟨bA x.parent, 1, false, false⟩), (0 + 1, some ⟨bA x.root, 1, false, false⟩)] (0 + 2)) := by
  refine CR_introU tyOk Tryz.func117 (by kernel_rfl) rfl 25 rfl (by simp) [.cell 2 39] rfl ?_
  intro w0 ok0 wr φ0
  unfold HdW at h
  have c0 := fun N => toByteS_cr x.parent (by omega) N
  have c1 := fun N => toByteS_cr x.root (by omega) N
  repeat' (first | refine T_seq ?_ | refine N_then ?_ | refine T_regX tyOk ?_ | refine S_nil ?_ | refine T_ret ?_ | (apply S_loadP; (· exact rfl); (· exact gt_any rfl); (· exact rfl); (· exact rfl); (· exact rfl); (· (first | exact ⟨rfl, rfl⟩ | exact ⟨rfl, trivial⟩ | assumption))) | (apply S_loadW; (· exact rfl); (· exact gt_any rfl); (· exact rfl); (· exact rfl); (· exact rfl); (· exact rfl); (· exact rfl); (· exact rfl)) | (apply S_fieldP; (· exact rfl); (· exact rfl); (· exact rfl); (· exact rfl); (· exact gt_any rfl)) | apply S_alloc | apply S_box | (apply S_store1; (· exact rfl); (· exact gt_any rfl); (· exact rfl); (· exact rfl); (· exact rfl); (· exact rfl)) | (apply S_storeF; (· exact rfl); (· exact gt_any rfl); (· exact rfl); (· exact rfl); (· exact rfl); (· exact rfl); (· exact gt_any rfl); (· exact rfl); (· exact rfl); (· (repeat' constructor))) | apply S_callI (f := 30) | apply c0 | apply c1 | exact viewL_nil | apply viewL_cons | (apply View.pure; exact PureC.out) | exact OwnC.out | exact ownB_nil | (apply ownB_boxM; (· (apply mlen; first | exact rfl | assumption | exact Nat.le_of_ble_eq_true rfl | omega | (simp [bA_length]; done) | (simp [bA_length]; omega))); (· exact OwnEC.out)) | exact gt_any rfl | exact gts_nil | (apply gts_cons; (· exact gt_any rfl)) | exact okCells_of rfl rfl | exact rfl | fail)
  (apply E_U0 [(0, 3), (1, 4)] <;> repeat' (first | exact resL_nil | (apply resL_tmp; (· exact rfl)) | (apply resL_cell; (· exact rfl); (· exact rfl); (· exact rfl); (· exact rfl); (· exact rfl); (· exact rfl)) | (apply resL_arr; (· exact rfl); (· exact rfl); (· exact rfl); (· exact rfl); (· (first | assumption | exact rfl))) | exact Ren.sl _ _ _ _ | (apply ren_slE; (· first | exact rfl | omega); (· first | exact rfl | assumption | (simp [bA_length]; done) | (simp [bA_length]; omega)); (· first | exact rfl | assumption | (simp [bA_length]; done) | (simp [bA_length]; omega))) | exact Ren.ptr _ _ _ | exact renL_nil | apply renL_cons | (apply Ren.pure; exact PureC.out) | apply ren_agg | apply ren_tup | exact Low.sl _ _ _ _ (by decide) | exact Low.ptr _ _ _ (by decide) | exact lowL_nil | apply lowL_cons | (apply Low.pure; exact PureC.out) | apply low_agg | apply low_tup | exact pullB_nil | (apply pullB_pureE; (· exact rfl); (· first | exact rfl | assumption | (simp [bA]; done)); (· exact PureEC.out)) | (apply pullB_one; (· exact rfl)) | exact lowBs_nil | apply lowBs_cons | (apply PureB.low; exact PureEC.out) | apply lowX_one | exact lowX_nil | (apply pullB_list; (· exact rfl)) | exact renEL_nil | apply renEL_cons | apply lowX_cons | exact outsN_ren _ _ _ _ | exact outsN_low _ _ _ (by decide) | apply rn_vlds | apply rn_hds | (apply lw_vlds <;> decide) | (apply lw_hds <;> decide) | exact rfl))

theorem toHead_cr (x : Hd) (h : HdW x ≤ 1048576) (N : Nat) : CR Tryz.prog 117 [hdA x] [] N (Is (.agg [.sl N 0 x.parent.length x.parent.length, .int .i64 x.height, .int .i64 x.time, .int .i64 x.zeros, .sl (N + 1) 0 x.root.length x.root.length, .int .i64 x.nonce])
    [(N, some ⟨bA x.parent, 1, false, false⟩), (N + 1, some ⟨bA x.root, 1, false, false⟩)] (N + 2)) :=
  CR.allN (toHead_cr0 x h) N (by first | exact PureC.out | exact PureLC.out | assumption) (by repeat' (first | exact Ren.sl _ _ _ _ | exact Ren.ptr _ _ _ | exact renL_nil | apply renL_cons | (apply Ren.pure; (first | exact PureC.out | exact PureLC.out | assumption)) | apply ren_agg | apply ren_tup)) (by repeat' (first | exact renBs_nil | (apply renBs_pure; (· exact rfl); (· (exact PureEC.out))) | (apply renBs_one; (· exact rfl)) | exact renL_nil | apply renL_cons | exact Ren.sl _ _ _ _ | exact Ren.ptr _ _ _ | (apply Ren.pure; (first | exact PureC.out | exact PureLC.out | assumption)) | apply ren_agg | (apply renBs_list; (· exact rfl)) | exact outsN_ren _ _ _ _ | apply rn_vlds | apply rn_hds))

def HdOk (L : Nat) (x : AV) : Prop := ∃ (o m o' m' : Nat) (a b c d : Int), x = .agg [.sl 0 o m m, .int .i64 a, .int .i64 b, .int .i64 c, .sl 0 o' m' m', .int .i64 d] ∧ o + m ≤ L ∧ o' + m' ≤ L

end Go.Proofs.YtaolmfgpebncjaaGreat
