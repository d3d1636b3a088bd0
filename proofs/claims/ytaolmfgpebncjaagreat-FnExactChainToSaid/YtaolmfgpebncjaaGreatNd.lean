/- Rows, validators and trusts laid anew in boxes; and marked. -/
import Derived.Test.YtaolmfgpebncjaaGreatNa
import Derived.Test.YtaolmfgpebncjaaGreatWk
import Derived.Test.YtaolmfgpebncjaaGreatGj
import Derived.Test.YtaolmfgpebncjaaGreatGk
set_option maxRecDepth 100000
set_option maxHeartbeats 3200000
set_option linter.unusedSimpArgs false
set_option linter.unusedVariables false
namespace Go.Proofs.YtaolmfgpebncjaaGreat
open Go.Av
attribute [local irreducible] T thenQ blockQ againQ againS WX retV retR Gt Gts GtsP okCells CV CR Av.Pure

abbrev nilS : AV := .ls 0 true true []
theorem pureB_nilS (n : Nat) : PureB (List.replicate n nilS) := fun x hx => by
  obtain ⟨_, rfl⟩ := List.mem_replicate.1 hx
  exact ⟨show PureAll [nilS] from PureLC.out, rfl⟩
theorem set_here {A : List AV} {z x : AV} {n j : Nat} (h : A.length = j) (hn : j < n) : (A ++ List.replicate (n - j) z).set (0 + ((j : Int)).toNat) x = A ++ x :: List.replicate (n - (j + 1)) z := by
  rw [Nat.zero_add, Int.toNat_natCast, List.set_append_right _ _ (by omega), h, Nat.sub_self, show n - j = (n - (j + 1)) + 1 by omega, List.replicate_succ, List.set_cons_zero]

theorem toRows_cr0 (rows : List (List UInt8)) (h : listW List.length rows ≤ 1048576) : CR Tryz.prog 19 [rowsA rows] [] 0 (Is (.sl (0 + 1) 0 rows.length rows.length) [(0, some ⟨bA rows.flatten, 1, true, false⟩), (0 + 1, some ⟨outsN 0 0 (rows.map List.length), 1, false, false⟩)] (0 + 2)) := by
  refine CR_introU tyOk Tryz.func19 (by kernel_rfl) rfl 23 rfl (by simp) [.tmp 2] rfl ?_
  intro w0 ok0 wr φ0
  have hl : (rows.map byA).length = rows.length := by simp
  have hn : rows.length ≤ 1048576 := by unfold listW at h; omega
  repeat' (first | refine T_seq ?_ | refine N_then ?_ | refine T_regX tyOk ?_ | refine S_nil ?_ | refine T_block ?_ | apply S_move | apply S_assign | (apply S_len_ls; (· exact rfl); (· exact gt_any rfl)) | (apply S_make; (· exact rfl); (· exact rfl); (· exact gt_any rfl); (· exact gt_any rfl); (· exact rfl); (· (first | assumption | omega)); (· (first | assumption | omega | (dsimp only; omega) | (simp; omega))); (· (first | assumption | omega | (dsimp only; omega) | (simp; omega))); (· (first | assumption | omega | (dsimp only; omega) | (simp; omega))); (· (first | exact okCells_of rfl rfl | assumption)); (· (first | exact Nat.le_of_ble_eq_true rfl | omega | decide))) | exact gt_any rfl | exact rfl | fail)
  refine T_roundsS (α := Nat) (fun j => ⟨[(0, rowsA rows), (3, .sl 0 0 (rows.map byA).length (rows.map byA).length), (4, .int .i64 j)],
      [(1, some ⟨bA (rows.take j).flatten, 1, true, false⟩), (0, some ⟨outsN 1 0 ((rows.take j).map List.length) ++ List.replicate ((rows.map byA).length - j) nilS, 1, false, false⟩)], 2⟩)
    (fun j => rows.length - j) (fun j => j ≤ rows.length) 0 (sub_up 1 (by repeat' (first | exact upE_nil | (apply upE_cons; (· exact rfl); (· exact Up.refl _))))) (by omega) ?_
  intro j hj
  by_cases hjl : j < rows.length
  · have hc : decide ((j : Int) < ((rows.map byA).length : Int)) = true := by simp only [decide_eq_true_eq]; omega
    have g1 := map_getD byA rows [] (k := j) hjl
    have hw1 : IntKind.wrap .i64 ((j : Int) + 1) = ((j + 1 : Nat) : Int) := by rw [wrap_i64 (by omega) (by omega)]; omega
    have hmem : rows.getD j [] ∈ rows := by rw [List.getD_eq_getElem?_getD, List.getElem?_eq_getElem hjl]; exact List.getElem_mem hjl
    have hwl := listW_mem List.length rows hmem
    have htk : rows.take (j + 1) = rows.take j ++ [rows.getD j []] := by rw [List.take_add_one, List.getD_eq_getElem?_getD, List.getElem?_eq_getElem hjl]; rfl
    have hfl : bA (rows.take j).flatten ++ bA (rows.getD j []) = bA (rows.take (j + 1)).flatten := by rw [htk]; simp [bA]
    have hns : (rows.take (j + 1)).map List.length = (rows.take j).map List.length ++ [(rows.getD j []).length] := by rw [htk]; simp
    have hM : (bA (rows.take j).flatten).length = 0 + ((rows.take j).map List.length).sum := by rw [bA_length, List.length_flatten, Nat.zero_add]
    have c0 := fun N => toByteS_cr (rows.getD j []) (by omega) N
    have hol : (outsN 1 0 ((rows.take j).map List.length)).length = j := by rw [outsN_length, List.length_map, List.length_take]; omega
    generalize rows.getD j [] = w at *
    have hset := set_here (x := .sl 2 0 w.length w.length) (z := nilS) (n := (rows.map byA).length) hol (by omega)
    have hin : 0 + ((j : Int)).toNat < (outsN 1 0 ((rows.take j).map List.length) ++ List.replicate ((rows.map byA).length - j) nilS).length := by
      simp only [List.length_append, List.length_replicate, hol]; omega
    have i1 : (0 : Int) ≤ (j : Int) ∧ (j : Int) < ((rows.map byA).length : Int) := by omega
    repeat' (first | refine T_seq ?_ | refine N_then ?_ | refine N_block ?_ | refine T_regX tyOk ?_ | refine S_nil ?_ | refine T_skip ?_ | refine T_block ?_ | (apply T_ifT; (· exact rfl); (· (first | assumption | exact rfl))) | apply S_move | apply S_assign | (apply S_loadV; (· exact rfl); (· exact gt_any rfl); (· exact rfl); (· (first | exact ⟨rfl, rfl⟩ | exact ⟨rfl, trivial⟩ | assumption))) | apply S_lss | apply S_add | (apply S_len_ls; (· exact rfl); (· exact gt_any rfl)) | (apply S_idxLs; (· exact rfl); (· exact rfl); (· exact gt_any rfl); (· exact gt_any rfl)) | (apply S_idxSl; (· exact rfl); (· exact rfl); (· exact gt_any rfl); (· exact rfl); (· exact gt_any rfl)) | (apply S_storeE; (· exact rfl); (· exact gt_any rfl); (· exact rfl); (· exact rfl); (· exact rfl)) | apply S_callI (f := 30) | apply c0 | exact viewL_nil | apply viewL_cons | (apply View.pure; exact PureC.out) | exact OwnC.out | exact ownB_nil | (apply ownB_boxM; (· (apply mlen; first | exact rfl | assumption | exact Nat.le_of_ble_eq_true rfl | omega | (simp [bA_length]; done) | (simp [bA_length]; omega))); (· exact OwnEC.out)) | exact gt_any rfl | exact gts_nil | (apply gts_cons; (· exact gt_any rfl)) | exact okCells_of rfl rfl | assumption | exact rfl | fail)
    refine N_againS (j + 1) (sub_catD (bx' := [(0, some ⟨outsN 1 0 ((rows.take (j + 1)).map List.length) ++ List.replicate ((rows.map byA).length - (j + 1)) nilS, 1, false, false⟩)]) 1 2 (Nat.zero_le _) (by decide) rfl rfl (catX_pure (pureB_bA _)) (catX_pure (pureB_bA _)) (by repeat' (first | exact catE_nil | (apply catE_cons; (· exact rfl)) | (apply Cat.pure; (first | exact PureC.out | exact PureLC.out | assumption)) | (apply Cat.sl0; decide) | (apply Cat.ptr0; decide) | apply cat_agg | exact catL_nil | apply catL_cons)) (catB_cons (by decide) (by decide) rfl ?_ catB_nil) hfl rfl (by repeat' (first | exact lowE_nil | apply lowE_cons | exact Low.sl _ _ _ _ (by decide) | exact Low.ptr _ _ _ (by decide) | (apply Low.pure; (first | exact PureC.out | exact PureLC.out | assumption)) | exact lowL_nil | apply lowL_cons | apply low_agg | apply low_tup)) ?_ rfl (Nat.zero_le _)) (by omega) (by omega)
    · rw [hns]
      first | exact hset ▸ outsN_catZ hM (pureB_nilS _) | (rw [hset]; exact outsN_catZ hM (pureB_nilS _))
    · exact lowBs_cons (PureB.low (pureB_bA _) _) (lowBs_cons (lowX_app (outsN_low _ _ _ (by decide)) (PureB.low (pureB_nilS _) _)) lowBs_nil)
  · have hc : decide ((j : Int) < ((rows.map byA).length : Int)) = false := by simp only [decide_eq_false_iff_not]; omega
    obtain rfl : j = rows.length := by omega
    have e1 : rows.take rows.length = rows := List.take_length
    have e2 : (rows.map byA).length - rows.length = 0 := by omega
    rw [e1, e2, List.replicate_zero, List.append_nil]
    repeat' (first | refine T_seq ?_ | refine N_then ?_ | refine N_thenE ?_ | refine N_blockE ?_ | refine N_againSE ?_ | refine T_regX tyOk ?_ | refine S_nil ?_ | refine T_ret ?_ | refine T_exit ?_ | (apply T_ifF; (· exact rfl); (· (first | assumption | exact rfl))) | apply S_move | apply S_assign | apply S_lss | (apply S_len_ls; (· exact rfl); (· exact gt_any rfl)) | exact gt_any rfl | exact rfl | fail)
    rw [hl]
    (apply E_U0 [(0, 1), (1, 0)] <;> repeat' (first | exact resL_nil | (apply resL_tmp; (· exact rfl)) | (apply resL_cell; (· exact rfl); (· exact rfl); (· exact rfl); (· exact rfl); (· exact rfl); (· exact rfl)) | (apply resL_arr; (· exact rfl); (· exact rfl); (· exact rfl); (· exact rfl); (· (first | assumption | exact rfl))) | exact Ren.sl _ _ _ _ | (apply ren_slE; (· first | exact rfl | omega); (· first | exact rfl | assumption | (simp [bA_length]; done) | (simp [bA_length]; omega)); (· first | exact rfl | assumption | (simp [bA_length]; done) | (simp [bA_length]; omega))) | exact Ren.ptr _ _ _ | exact renL_nil | apply renL_cons | (apply Ren.pure; exact PureC.out) | apply ren_agg | apply ren_tup | exact Low.sl _ _ _ _ (by decide) | exact Low.ptr _ _ _ (by decide) | exact lowL_nil | apply lowL_cons | (apply Low.pure; exact PureC.out) | apply low_agg | apply low_tup | exact pullB_nil | (apply pullB_pureE; (· exact rfl); (· first | exact rfl | assumption | (simp [bA]; done)); (· exact PureEC.out)) | (apply pullB_one; (· exact rfl)) | exact lowBs_nil | apply lowBs_cons | (apply PureB.low; exact PureEC.out) | apply lowX_one | exact lowX_nil | (apply pullB_list; (· exact rfl)) | exact renEL_nil | apply renEL_cons | apply lowX_cons | exact outsN_ren _ _ _ _ | exact outsN_low _ _ _ (by decide) | exact rfl))

theorem toRows_cr (rows : List (List UInt8)) (h : listW List.length rows ≤ 1048576) (N : Nat) : CR Tryz.prog 19 [rowsA rows] [] N (Is (.sl (N + 1) 0 rows.length rows.length) [(N, some ⟨bA rows.flatten, 1, true, false⟩), (N + 1, some ⟨outsN N 0 (rows.map List.length), 1, false, false⟩)] (N + 2)) :=
  CR.allN (toRows_cr0 rows h) N (by first | exact PureC.out | exact PureLC.out | assumption) (by repeat' (first | exact Ren.sl _ _ _ _ | exact Ren.ptr _ _ _ | exact renL_nil | apply renL_cons | (apply Ren.pure; (first | exact PureC.out | exact PureLC.out | assumption)) | apply ren_agg | apply ren_tup)) (by repeat' (first | exact renBs_nil | (apply renBs_pure; (· exact rfl); (· (exact PureEC.out))) | (apply renBs_one; (· exact rfl)) | exact renL_nil | apply renL_cons | exact Ren.sl _ _ _ _ | exact Ren.ptr _ _ _ | (apply Ren.pure; (first | exact PureC.out | exact PureLC.out | assumption)) | apply ren_agg | (apply renBs_list; (· exact rfl)) | exact outsN_ren _ _ _ _))

/-! validators -/
def vldN (r : Nat) (a _b : Nat) (v : Vld) : AV := .agg [.sl r a v.key.length v.key.length, .int .i64 v.power]
def vldsN (r : Nat) (l : List Vld) : List AV := laidN (fun v : Vld => v.key.length) (fun _ => 0) (vldN r) 0 0 l
abbrev vldZ : AV := .agg [nilS, .int .i64 0]
theorem rn_vlds (ρ : Nat → Nat) (r : Nat) (l : List Vld) : RenEL ρ (vldsN r l) (vldsN (ρ r) l) := by
  unfold vldsN; exact laidN_ren (fun a b x => renL_cons (.sl _ _ _ _) (renL_cons (.pure (pure_int _ _)) renL_nil)) 0 0 l
theorem lw_vlds {N : Nat} (r : Nat) (l : List Vld) (h : r < N) : LowX N (vldsN r l) := by
  unfold vldsN; exact laidN_low (fun a b x => lowL_cons (.sl _ _ _ _ h) (lowL_cons (.pure (pure_int _ _)) lowL_nil)) 0 0 l
instance (r : Nat) (l : List Vld) : OwnEC (vldsN r l) := ⟨by unfold vldsN; refine laidN_own ?_ 0 0 l; exact fun a b x => ownL_cons (own_sl _ _ _ _) (ownL_cons (flat_int _ _).own ownL_nil)⟩
def VldOk (L : Nat) (x : AV) : Prop := ∃ (o m : Nat) (p : Int), x = .agg [.sl 0 o m m, .int .i64 p] ∧ o + m ≤ L

end Go.Proofs.YtaolmfgpebncjaaGreat
