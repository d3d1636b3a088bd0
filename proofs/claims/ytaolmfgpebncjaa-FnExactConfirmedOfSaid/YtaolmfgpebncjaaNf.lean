/- Heads and clients laid anew in boxes, and marked. -/
import Derived.Test.YtaolmfgpebncjaaNd
import Derived.Test.YtaolmfgpebncjaaRc
import Derived.Test.YtaolmfgpebncjaaGj
import Derived.Test.YtaolmfgpebncjaaGk
set_option maxRecDepth 100000
set_option maxHeartbeats 3200000
set_option linter.unusedSimpArgs false
set_option linter.unusedVariables false
namespace Go.Proofs.Ytaolmfgpebncjaa
open Go.Av
attribute [local irreducible] T thenQ blockQ againQ againS WX retV retR Gt Gts GtsP okCells CV CR Av.Pure

def hdBy (h : Hd) : List UInt8 := h.parent ++ h.root
theorem hdBy_length (h : Hd) : (hdBy h).length = h.parent.length + h.root.length := by simp [hdBy]
def hdN (r : Nat) (a _b : Nat) (h : Hd) : AV := .agg [.sl r a h.parent.length h.parent.length, .int .i64 h.height, .int .i64 h.time, .int .i64 h.zeros, .sl r (a + h.parent.length) h.root.length h.root.length, .int .i64 h.nonce]
def hdsN (r : Nat) (l : List Hd) : List AV := laidN HdW (fun _ => 0) (hdN r) 0 0 l
abbrev hdZ : AV := .agg [nilS, .int .i64 0, .int .i64 0, .int .i64 0, nilS, .int .i64 0]
theorem hdsN_length (r : Nat) (l : List Hd) : (hdsN r l).length = l.length := laidN_length _ _ _
theorem rn_hds (ρ : Nat → Nat) (r : Nat) (l : List Hd) : RenEL ρ (hdsN r l) (hdsN (ρ r) l) := by
  unfold hdsN
  exact laidN_ren (fun a b x => renL_cons (.sl _ _ _ _) (renL_cons (.pure (pure_int _ _)) (renL_cons (.pure (pure_int _ _)) (renL_cons (.pure (pure_int _ _)) (renL_cons (.sl _ _ _ _) (renL_cons (.pure (pure_int _ _)) renL_nil)))))) 0 0 l
theorem lw_hds {N : Nat} (r : Nat) (l : List Hd) (h : r < N) : LowX N (hdsN r l) := by
  unfold hdsN
  exact laidN_low (fun a b x => lowL_cons (.sl _ _ _ _ h) (lowL_cons (.pure (pure_int _ _)) (lowL_cons (.pure (pure_int _ _)) (lowL_cons (.pure (pure_int _ _)) (lowL_cons (.sl _ _ _ _ h) (lowL_cons (.pure (pure_int _ _)) lowL_nil)))))) 0 0 l
instance (r : Nat) (l : List Hd) : OwnEC (hdsN r l) := ⟨by
  unfold hdsN
  refine laidN_own ?_ 0 0 l
  exact fun a b x => ownL_cons (own_sl _ _ _ _) (ownL_cons (flat_int _ _).own (ownL_cons (flat_int _ _).own (ownL_cons (flat_int _ _).own (ownL_cons (own_sl _ _ _ _) (ownL_cons (flat_int _ _).own ownL_nil)))))⟩
theorem hds_sum (l : List Hd) : (l.map HdW).sum = (l.map hdBy).flatten.length := by
  rw [List.length_flatten, List.map_map]
  congr 1
  refine List.map_congr_left fun x _ => ?_
  simp [hdBy, HdW]
theorem vw_hds {bx : List (Nat × Option Box)} {o r len cap : Nat} {l : List Hd} {sl ro sl' ro' : Bool} (ho : box? bx o = some ⟨hdsN r l, 6, sl, ro⟩) (hr : box? bx r = some ⟨bA (l.map hdBy).flatten, 1, sl', ro'⟩) (hl : Mlen (len = l.length)) : View bx (.sl o 0 len cap) (hdAS l) := by
  have hl := hl.out
  refine view_laid hdA ho 0 0 (by rw [List.drop_zero]; exact List.take_of_length_le (by rw [hdsN_length]; omega)) (by rw [hdsN_length]; omega) hl (fun x d hd => by simp only [AV.cells, List.mem_cons, List.not_mem_nil, or_false] at hd; rcases hd with rfl | rfl | rfl | rfl | rfl | rfl <;> rfl) fun i x hx => ?_
  have hk : (l.map hdBy)[i]? = some (hdBy x) := by rw [List.getElem?_map, hx]; rfl
  have e : ((l.take i).map HdW).sum = (((l.map hdBy).map List.length).take i).sum := by
    rw [List.map_map, ← List.map_take]
    congr 1
    refine List.map_congr_left fun x _ => ?_
    simp [hdBy, HdW]
  have f1 := flat_part _ i _ hk
  have f2 := flat_fit _ hk
  rw [hdBy_length] at f1 f2
  rw [← e] at f1 f2
  generalize ((l.take i).map HdW).sum = s at *
  refine viewL_cons (y := byA x.parent) ?_ (viewL_cons (.pure (pure_int _ _)) (viewL_cons (.pure (pure_int _ _)) (viewL_cons (.pure (pure_int _ _)) (viewL_cons (y := byA x.root) ?_ (viewL_cons (.pure (pure_int _ _)) viewL_nil)))))
  · exact view_part hr (by omega) (by
      have := part_part (c := 0) (n := x.parent.length) f1 (by omega)
      rw [Nat.add_zero] at this
      rw [Nat.zero_add, this, List.drop_zero, hdBy, List.take_left])
  · exact view_part hr (by omega) (by
      have := part_part (c := x.parent.length) (n := x.root.length) f1 (by omega)
      rw [Nat.zero_add, this, hdBy, List.drop_left, List.take_length])
theorem hds_cat {j M : Nat} {l : List Hd} (h : (l.map hdBy).flatten.length ≤ M) : CatX 1 M j (hdsN 1 l) (hdsN 1 l) := by
  have hs := hds_sum l
  unfold hdsN
  exact laidN_cat (A := M) (B := 0) (fun x c d h1 _ => catL_cons (.sl1 _ _ _ (by unfold HdW at h1; omega)) (catL_cons (.pure (pure_int _ _)) (catL_cons (.pure (pure_int _ _)) (catL_cons (.pure (pure_int _ _)) (catL_cons (.sl1 _ _ _ (by unfold HdW at h1; omega)) (catL_cons (.pure (pure_int _ _)) catL_nil)))))) 0 0 l (by omega) (by rw [sum0]; omega)
theorem pureB_hdZ (n : Nat) : PureB (List.replicate n hdZ) := fun x hx => by
  obtain ⟨_, rfl⟩ := List.mem_replicate.1 hx
  exact ⟨show PureAll [nilS, .int .i64 0, .int .i64 0, .int .i64 0, nilS, .int .i64 0] from PureLC.out, rfl⟩

theorem toHead_cr0 (x : Hd) (h : HdW x ≤ 1048576) : CR Try.prog 87 [hdA x] [] 0 (Is (.agg [.sl 0 0 x.parent.length x.parent.length, .int .i64 x.height, .int .i64 x.time, .int .i64 x.zeros, .sl (0 + 1) 0 x.root.length x.root.length, .int .i64 x.nonce])
    [(0, some ⟨bA x.parent, 1, false, false⟩), (0 + 1, some ⟨bA x.root, 1, false, false⟩)] (0 + 2)) := by
  refine CR_introU tyOk Try.func87 (by kernel_rfl) rfl 25 rfl (by simp) [.cell 2 64] rfl ?_
  intro w0 ok0 wr φ0
  unfold HdW at h
  have c0 := fun N => toByteS_cr x.parent (by omega) N
  have c1 := fun N => toByteS_cr x.root (by omega) N
  repeat' (first | refine T_seq ?_ | refine N_then ?_ | refine T_regX tyOk ?_ | refine S_nil ?_ | refine T_ret ?_ | (apply S_loadP; (· exact rfl); (· exact gt_any rfl); (· exact rfl); (· exact rfl); (· exact rfl); (· (first | exact ⟨rfl, rfl⟩ | exact ⟨rfl, trivial⟩ | assumption))) | (apply S_loadW; (· exact rfl); (· exact gt_any rfl); (· exact rfl); (· exact rfl); (· exact rfl); (· exact rfl); (· exact rfl); (· exact rfl)) | (apply S_fieldP; (· exact rfl); (· exact rfl); (· exact rfl); (· exact rfl); (· exact gt_any rfl)) | apply S_alloc | apply S_box | (apply S_store1; (· exact rfl); (· exact gt_any rfl); (· exact rfl); (· exact rfl); (· exact rfl); (· exact rfl)) | (apply S_storeF; (· exact rfl); (· exact gt_any rfl); (· exact rfl); (· exact rfl); (· exact rfl); (· exact rfl); (· exact gt_any rfl); (· exact rfl); (· exact rfl); (· (repeat' constructor))) | apply S_callI (f := 24) | apply c0 | apply c1 | exact viewL_nil | apply viewL_cons | (apply View.pure; exact PureC.out) | exact OwnC.out | exact ownB_nil | (apply ownB_boxM; (· (apply mlen; first | exact rfl | assumption | exact Nat.le_of_ble_eq_true rfl | omega | (simp [bA_length]; done) | (simp [bA_length]; omega))); (· exact OwnEC.out)) | exact gt_any rfl | exact gts_nil | (apply gts_cons; (· exact gt_any rfl)) | exact okCells_of rfl rfl | exact rfl | fail)
  (apply E_U0 [(0, 3), (1, 4)] <;> repeat' (first | exact resL_nil | (apply resL_tmp; (· exact rfl)) | (apply resL_cell; (· exact rfl); (· exact rfl); (· exact rfl); (· exact rfl); (· exact rfl); (· exact rfl)) | (apply resL_arr; (· exact rfl); (· exact rfl); (· exact rfl); (· exact rfl); (· (first | assumption | exact rfl))) | exact Ren.sl _ _ _ _ | (apply ren_slE; (· first | exact rfl | omega); (· first | exact rfl | assumption | (simp [bA_length]; done) | (simp [bA_length]; omega)); (· first | exact rfl | assumption | (simp [bA_length]; done) | (simp [bA_length]; omega))) | exact Ren.ptr _ _ _ | exact renL_nil | apply renL_cons | (apply Ren.pure; exact PureC.out) | apply ren_agg | apply ren_tup | exact Low.sl _ _ _ _ (by decide) | exact Low.ptr _ _ _ (by decide) | exact lowL_nil | apply lowL_cons | (apply Low.pure; exact PureC.out) | apply low_agg | apply low_tup | exact pullB_nil | (apply pullB_pureE; (· exact rfl); (· first | exact rfl | assumption | (simp [bA]; done)); (· exact PureEC.out)) | (apply pullB_one; (· exact rfl)) | exact lowBs_nil | apply lowBs_cons | (apply PureB.low; exact PureEC.out) | apply lowX_one | exact lowX_nil | (apply pullB_list; (· exact rfl)) | exact renEL_nil | apply renEL_cons | apply lowX_cons | exact outsN_ren _ _ _ _ | exact outsN_low _ _ _ (by decide) | apply rn_vlds | apply rn_hds | (apply lw_vlds <;> decide) | (apply lw_hds <;> decide) | exact rfl))

theorem toHead_cr (x : Hd) (h : HdW x ≤ 1048576) (N : Nat) : CR Try.prog 87 [hdA x] [] N (Is (.agg [.sl N 0 x.parent.length x.parent.length, .int .i64 x.height, .int .i64 x.time, .int .i64 x.zeros, .sl (N + 1) 0 x.root.length x.root.length, .int .i64 x.nonce])
    [(N, some ⟨bA x.parent, 1, false, false⟩), (N + 1, some ⟨bA x.root, 1, false, false⟩)] (N + 2)) :=
  CR.allN (toHead_cr0 x h) N (by first | exact PureC.out | exact PureLC.out | assumption) (by repeat' (first | exact Ren.sl _ _ _ _ | exact Ren.ptr _ _ _ | exact renL_nil | apply renL_cons | (apply Ren.pure; (first | exact PureC.out | exact PureLC.out | assumption)) | apply ren_agg | apply ren_tup)) (by repeat' (first | exact renBs_nil | (apply renBs_pure; (· exact rfl); (· (exact PureEC.out))) | (apply renBs_one; (· exact rfl)) | exact renL_nil | apply renL_cons | exact Ren.sl _ _ _ _ | exact Ren.ptr _ _ _ | (apply Ren.pure; (first | exact PureC.out | exact PureLC.out | assumption)) | apply ren_agg | (apply renBs_list; (· exact rfl)) | exact outsN_ren _ _ _ _ | apply rn_vlds | apply rn_hds))

theorem toHds_cr0 (l : List Hd) (h : listW HdW l ≤ 1048576) : CR Try.prog 43 [hdAS l] [] 0 (Is (.sl (0 + 1) 0 l.length l.length) [(0, some ⟨bA (l.map hdBy).flatten, 1, true, false⟩), (0 + 1, some ⟨hdsN 0 l, 6, false, false⟩)] (0 + 2)) := by
  refine CR_introU tyOk Try.func43 (by kernel_rfl) rfl 23 rfl (by simp) [.tmp 2] rfl ?_
  intro w0 ok0 wr φ0
  have hl : (l.map hdA).length = l.length := by simp
  have hn : l.length ≤ 1048576 := by unfold listW at h; omega
  repeat' (first | refine T_seq ?_ | refine N_then ?_ | refine T_regX tyOk ?_ | refine S_nil ?_ | refine T_block ?_ | apply S_move | apply S_assign | (apply S_len_ls; (· exact rfl); (· exact gt_any rfl)) | (apply S_make; (· exact rfl); (· exact rfl); (· exact gt_any rfl); (· exact gt_any rfl); (· exact rfl); (· (first | assumption | omega)); (· (first | assumption | omega | (dsimp only; omega) | (simp; omega))); (· (first | assumption | omega | (dsimp only; omega) | (simp; omega))); (· (first | assumption | omega | (dsimp only; omega) | (simp; omega))); (· (first | exact okCells_of rfl rfl | assumption)); (· (first | exact Nat.le_of_ble_eq_true rfl | omega | decide))) | exact gt_any rfl | exact rfl | fail)
  refine T_roundsS (α := Nat) (fun j => ⟨[(0, hdAS l), (3, .sl 0 0 (l.map hdA).length (l.map hdA).length), (4, .int .i64 j)],
      [(1, some ⟨bA ((l.take j).map hdBy).flatten, 1, true, false⟩), (0, some ⟨hdsN 1 (l.take j) ++ List.replicate ((l.map hdA).length - j) hdZ, 6, false, false⟩)], 2⟩)
    (fun j => l.length - j) (fun j => j ≤ l.length) 0 (sub_up 1 (by repeat' (first | exact upE_nil | (apply upE_cons; (· exact rfl); (· exact Up.refl _))))) (by omega) ?_
  intro j hj
  by_cases hjl : j < l.length
  · have hc : decide ((j : Int) < ((l.map hdA).length : Int)) = true := by simp only [decide_eq_true_eq]; omega
    have g1 := map_getD hdA l Hd0 (k := j) hjl
    have hw1 : IntKind.wrap .i64 ((j : Int) + 1) = ((j + 1 : Nat) : Int) := by rw [wrap_i64 (by omega) (by omega)]; omega
    have hmem : l.getD j Hd0 ∈ l := by rw [List.getD_eq_getElem?_getD, List.getElem?_eq_getElem hjl]; exact List.getElem_mem hjl
    have hwl := listW_mem HdW l hmem
    have htk : l.take (j + 1) = l.take j ++ [l.getD j Hd0] := by rw [List.take_add_one, List.getD_eq_getElem?_getD, List.getElem?_eq_getElem hjl]; rfl
    have hfl : bA (((l.take j).map hdBy).flatten ++ (l.getD j Hd0).parent) ++ bA (l.getD j Hd0).root = bA ((l.take (j + 1)).map hdBy).flatten := by rw [htk]; simp [bA, hdBy]
    have hf0 : bA ((l.take j).map hdBy).flatten ++ bA (l.getD j Hd0).parent = bA (((l.take j).map hdBy).flatten ++ (l.getD j Hd0).parent) := by simp [bA]
    have hM : (bA ((l.take j).map hdBy).flatten).length = ((l.take j).map hdBy).flatten.length := bA_length _
    have hM2 : (bA (((l.take j).map hdBy).flatten ++ (l.getD j Hd0).parent)).length = ((l.take j).map hdBy).flatten.length + (l.getD j Hd0).parent.length := by rw [bA_length, List.length_append]
    have hss := hds_sum (l.take j)
    have c0 := fun N => toHead_cr (l.getD j Hd0) (by omega) N
    have hol : (hdsN 1 (l.take j)).length = j := by rw [hdsN_length, List.length_take]; omega
    generalize l.getD j Hd0 = w at *
    have hset := set_here (x := .agg [.sl 2 0 w.parent.length w.parent.length, .int .i64 w.height, .int .i64 w.time, .int .i64 w.zeros, .sl 3 0 w.root.length w.root.length, .int .i64 w.nonce]) (z := hdZ) (n := (l.map hdA).length) hol (by omega)
    have hin : 0 + ((j : Int)).toNat < (hdsN 1 (l.take j) ++ List.replicate ((l.map hdA).length - j) hdZ).length := by
      simp only [List.length_append, List.length_replicate, hol]; omega
    have i1 : (0 : Int) ≤ (j : Int) ∧ (j : Int) < ((l.map hdA).length : Int) := by omega
    repeat' (first | refine T_seq ?_ | refine N_then ?_ | refine N_block ?_ | refine T_regX tyOk ?_ | refine S_nil ?_ | refine T_skip ?_ | refine T_block ?_ | (apply T_ifT; (· exact rfl); (· (first | assumption | exact rfl))) | apply S_move | apply S_assign | (apply S_loadVA; (· exact rfl); (· exact gt_any rfl); (· exact rfl); (· exact rfl)) | apply S_lss | apply S_add | (apply S_len_ls; (· exact rfl); (· exact gt_any rfl)) | (apply S_idxLs; (· exact rfl); (· exact rfl); (· exact gt_any rfl); (· exact gt_any rfl)) | (apply S_idxSl; (· exact rfl); (· exact rfl); (· exact gt_any rfl); (· exact rfl); (· exact gt_any rfl)) | (apply S_storeE; (· exact rfl); (· exact gt_any rfl); (· exact rfl); (· exact rfl); (· exact rfl)) | apply S_callI (f := 87) | apply c0 | exact viewL_nil | apply viewL_cons | (apply View.pure; exact PureC.out) | exact OwnC.out | exact ownB_nil | (apply ownB_boxM; (· (apply mlen; first | exact rfl | assumption | exact Nat.le_of_ble_eq_true rfl | omega | (simp [bA_length]; done) | (simp [bA_length]; omega))); (· exact OwnEC.out)) | exact gt_any rfl | exact gts_nil | (apply gts_cons; (· exact gt_any rfl)) | exact okCells_of rfl rfl | assumption | exact rfl | fail)
    refine N_againS (j + 1) (Sub.trans (sub_cat (env := [(0, hdAS l), (3, .sl 0 0 (l.map hdA).length (l.map hdA).length), (4, .int .i64 (j + 1 : Nat))])
      (bx' := [(0, some ⟨hdsN 1 (l.take j) ++ .agg [.sl 1 ((l.take j).map hdBy).flatten.length w.parent.length w.parent.length, .int .i64 w.height, .int .i64 w.time, .int .i64 w.zeros, .sl 3 0 w.root.length w.root.length, .int .i64 w.nonce] :: List.replicate ((l.map hdA).length - (j + 1)) hdZ, 6, false, false⟩), (3, some ⟨bA w.root, 1, false, false⟩)])
      1 2 (Nat.zero_le _) (by decide) rfl rfl (catX_pure (pureB_bA _)) (catX_pure (pureB_bA _)) (by repeat' (first | exact catE_nil | (apply catE_cons; (· exact rfl)) | (apply Cat.pure; (first | exact PureC.out | exact PureLC.out | assumption)) | (apply Cat.sl0; decide) | (apply Cat.ptr0; decide) | apply cat_agg | exact catL_nil | apply catL_cons)) (catB_cons (by decide) (by decide) rfl ?_ (catB_cons (by decide) (by decide) rfl (catX_pure (pureB_bA _)) catB_nil)) hf0 rfl)
      (sub_catD (bx' := [(0, some ⟨hdsN 1 (l.take (j + 1)) ++ List.replicate ((l.map hdA).length - (j + 1)) hdZ, 6, false, false⟩)]) 1 3 (Nat.zero_le _) (by decide) rfl rfl (catX_pure (pureB_bA _)) (catX_pure (pureB_bA _)) (by repeat' (first | exact catE_nil | (apply catE_cons; (· exact rfl)) | (apply Cat.pure; (first | exact PureC.out | exact PureLC.out | assumption)) | (apply Cat.sl0; decide) | (apply Cat.ptr0; decide) | apply cat_agg | exact catL_nil | apply catL_cons)) (catB_cons (by decide) (by decide) rfl ?_ catB_nil) hfl rfl (by repeat' (first | exact lowE_nil | apply lowE_cons | exact Low.sl _ _ _ _ (by decide) | exact Low.ptr _ _ _ (by decide) | (apply Low.pure; (first | exact PureC.out | exact PureLC.out | assumption)) | exact lowL_nil | apply lowL_cons | apply low_agg | apply low_tup)) ?_ rfl (Nat.zero_le _))) (by omega) (by omega)
    · first | exact hset ▸ catX_app (hds_cat (by omega)) (catX_cons (catL_cons (.sl2 _ _ _ _ (by omega)) (catL_cons (.pure (pure_int _ _)) (catL_cons (.pure (pure_int _ _)) (catL_cons (.pure (pure_int _ _)) (catL_cons (.sl0 _ _ _ _ (by decide)) (catL_cons (.pure (pure_int _ _)) catL_nil)))))) (catX_pure (pureB_hdZ _))) | (rw [hset]; exact catX_app (hds_cat (by omega)) (catX_cons (catL_cons (.sl2 _ _ _ _ (by omega)) (catL_cons (.pure (pure_int _ _)) (catL_cons (.pure (pure_int _ _)) (catL_cons (.pure (pure_int _ _)) (catL_cons (.sl0 _ _ _ _ (by decide)) (catL_cons (.pure (pure_int _ _)) catL_nil)))))) (catX_pure (pureB_hdZ _))))
    · rw [htk]
      have e : hdsN 1 (l.take j ++ [w]) = hdsN 1 (l.take j) ++ [.agg [.sl 1 ((l.take j).map hdBy).flatten.length w.parent.length w.parent.length, .int .i64 w.height, .int .i64 w.time, .int .i64 w.zeros, .sl 1 (((l.take j).map hdBy).flatten.length + w.parent.length) w.root.length w.root.length, .int .i64 w.nonce]] := by
        unfold hdsN
        rw [laidN_snoc, hss, Nat.zero_add]
        rfl
      rw [e, List.append_assoc]
      exact catX_app (hds_cat (by omega)) (catX_cons (catL_cons (.sl1 _ _ _ (by omega)) (catL_cons (.pure (pure_int _ _)) (catL_cons (.pure (pure_int _ _)) (catL_cons (.pure (pure_int _ _)) (catL_cons (.sl2 _ _ _ _ (by omega)) (catL_cons (.pure (pure_int _ _)) catL_nil)))))) (catX_pure (pureB_hdZ _)))
    · exact lowBs_cons (PureB.low (pureB_bA _) _) (lowBs_cons (lowX_app (lw_hds _ _ (by decide)) (PureB.low (pureB_hdZ _) _)) lowBs_nil)
  · have hc : decide ((j : Int) < ((l.map hdA).length : Int)) = false := by simp only [decide_eq_false_iff_not]; omega
    obtain rfl : j = l.length := by omega
    have e1 : l.take l.length = l := List.take_length
    have e2 : (l.map hdA).length - l.length = 0 := by omega
    rw [e1, e2, List.replicate_zero, List.append_nil]
    repeat' (first | refine T_seq ?_ | refine N_then ?_ | refine N_thenE ?_ | refine N_blockE ?_ | refine N_againSE ?_ | refine T_regX tyOk ?_ | refine S_nil ?_ | refine T_ret ?_ | refine T_exit ?_ | (apply T_ifF; (· exact rfl); (· (first | assumption | exact rfl))) | apply S_move | apply S_assign | apply S_lss | (apply S_len_ls; (· exact rfl); (· exact gt_any rfl)) | exact gt_any rfl | exact rfl | fail)
    rw [hl]
    (apply E_U0 [(0, 1), (1, 0)] <;> repeat' (first | exact resL_nil | (apply resL_tmp; (· exact rfl)) | (apply resL_cell; (· exact rfl); (· exact rfl); (· exact rfl); (· exact rfl); (· exact rfl); (· exact rfl)) | (apply resL_arr; (· exact rfl); (· exact rfl); (· exact rfl); (· exact rfl); (· (first | assumption | exact rfl))) | exact Ren.sl _ _ _ _ | (apply ren_slE; (· first | exact rfl | omega); (· first | exact rfl | assumption | (simp [bA_length]; done) | (simp [bA_length]; omega)); (· first | exact rfl | assumption | (simp [bA_length]; done) | (simp [bA_length]; omega))) | exact Ren.ptr _ _ _ | exact renL_nil | apply renL_cons | (apply Ren.pure; exact PureC.out) | apply ren_agg | apply ren_tup | exact Low.sl _ _ _ _ (by decide) | exact Low.ptr _ _ _ (by decide) | exact lowL_nil | apply lowL_cons | (apply Low.pure; exact PureC.out) | apply low_agg | apply low_tup | exact pullB_nil | (apply pullB_pureE; (· exact rfl); (· first | exact rfl | assumption | (simp [bA]; done)); (· exact PureEC.out)) | (apply pullB_one; (· exact rfl)) | exact lowBs_nil | apply lowBs_cons | (apply PureB.low; exact PureEC.out) | apply lowX_one | exact lowX_nil | (apply pullB_list; (· exact rfl)) | exact renEL_nil | apply renEL_cons | apply lowX_cons | exact outsN_ren _ _ _ _ | exact outsN_low _ _ _ (by decide) | apply rn_vlds | apply rn_hds | (apply lw_vlds <;> decide) | (apply lw_hds <;> decide) | exact rfl))

theorem toHds_cr (l : List Hd) (h : listW HdW l ≤ 1048576) (N : Nat) : CR Try.prog 43 [hdAS l] [] N (Is (.sl (N + 1) 0 l.length l.length) [(N, some ⟨bA (l.map hdBy).flatten, 1, true, false⟩), (N + 1, some ⟨hdsN N l, 6, false, false⟩)] (N + 2)) :=
  CR.allN (toHds_cr0 l h) N (by first | exact PureC.out | exact PureLC.out | assumption) (by repeat' (first | exact Ren.sl _ _ _ _ | exact Ren.ptr _ _ _ | exact renL_nil | apply renL_cons | (apply Ren.pure; (first | exact PureC.out | exact PureLC.out | assumption)) | apply ren_agg | apply ren_tup)) (by repeat' (first | exact renBs_nil | (apply renBs_pure; (· exact rfl); (· (exact PureEC.out))) | (apply renBs_one; (· exact rfl)) | exact renL_nil | apply renL_cons | exact Ren.sl _ _ _ _ | exact Ren.ptr _ _ _ | (apply Ren.pure; (first | exact PureC.out | exact PureLC.out | assumption)) | apply ren_agg | (apply renBs_list; (· exact rfl)) | exact outsN_ren _ _ _ _ | apply rn_vlds | apply rn_hds))

def HdOk (L : Nat) (x : AV) : Prop := ∃ (o m o' m' : Nat) (a b c d : Int), x = .agg [.sl 0 o m m, .int .i64 a, .int .i64 b, .int .i64 c, .sl 0 o' m' m', .int .i64 d] ∧ o + m ≤ L ∧ o' + m' ≤ L

theorem markHds_cp (n : Nat) (D : List UInt8) (H : List AV) (k : Int) (sl sl' : Bool) (hH : H.length = n) (hs : ∀ x ∈ H, HdOk D.length x) (hn : n ≤ 1048576) (hD : D.length ≤ 1048576) (h0 : 0 ≤ k) (h1 : k ≤ 1000000000000000) :
    CR Try.prog 80 [.sl 1 0 n n, .int .i64 k] [(0, some ⟨bA D, 1, sl, false⟩), (1, some ⟨H, 6, sl', false⟩)] 2 (fun r _ _ => ∃ k' : Int, r = .int .i64 k' ∧ k ≤ k' ∧ k' ≤ k + n * 4194304) := by
  refine CR_intro tyOk Try.func80 (by kernel_rfl) rfl 55 rfl (by simp) [.tmp 4] rfl ?_
  intro w0 ok0 wr φ0
  repeat' (first | refine T_seq ?_ | refine N_then ?_ | refine T_regX tyOk ?_ | refine S_nil ?_ | refine T_block ?_ | apply S_assign | exact gt_any rfl | exact rfl | fail)
  refine T_roundsS (α := Nat × Int × List UInt8 × List AV) (fun x => ⟨[(0, .sl 1 0 n n), (1, .int .i64 x.2.1), (5, .int .i64 x.1)], [(0, some ⟨bA x.2.2.1, 1, sl, false⟩), (1, some ⟨x.2.2.2, 6, sl', false⟩)], 2⟩)
    (fun x => n - x.1) (fun x => x.1 ≤ n ∧ x.2.2.1.length = D.length ∧ x.2.2.2.length = n ∧ (∀ y ∈ x.2.2.2, HdOk D.length y) ∧ k ≤ x.2.1 ∧ x.2.1 ≤ k + x.1 * 4194304) (0, k, D, H) ((weak_of (by repeat' (first | exact keepE_nil | refine keepE_cons rfl ?_)) (by repeat' (first | exact keepB_nil | refine keepB_cons (by first | rfl | exact congrArg (fun l => some (Box.mk l _ _ _)) hset) ?_)) (Nat.le_refl _))).sub ⟨Nat.zero_le _, rfl, hH, hs, Int.le_refl _, by simp⟩ ?_
  rintro ⟨j, q, D', H'⟩ ⟨hj, hD', hH', hs', hq1, hq2⟩
  simp only at hj hD' hH' hs' hq1 hq2 ⊢
  by_cases hjl : j < n
  · have hc : decide ((j : Int) < (n : Int)) = true := by simp only [decide_eq_true_eq]; omega
    have hw1 : IntKind.wrap .i64 ((j : Int) + 1) = ((j + 1 : Nat) : Int) := by rw [wrap_i64 (by omega) (by omega)]; omega
    obtain ⟨y, hy⟩ : ∃ y, H'[j]? = some y := ⟨_, List.getElem?_eq_getElem (by omega)⟩
    obtain ⟨o, m, o', m', a, b, c, d, rfl, hom, hom'⟩ := hs' y (List.mem_of_getElem? hy)
    have hE : H'[0 + ((j : Int)).toNat]? = some (.agg [.sl 0 o m m, .int .i64 a, .int .i64 b, .int .i64 c, .sl 0 o' m' m', .int .i64 d]) := by rw [Nat.zero_add, Int.toNat_natCast]; exact hy
    have hpl : (putB D' o m q).length = D.length := by rw [putB_length (by omega)]; exact hD'
    have c0 := fun (id N : Nat) (hid : id < N) => markPart_at D' o m q sl (by omega) (by omega) (by omega) (by omega) id N hid
    have c1 := fun (id N : Nat) (hid : id < N) => markPart_at (putB D' o m q) o' m' (q + (m : Int) + 1 + 1 + 1) sl (by omega) (by omega) (by omega) (by omega) id N hid
    have hpl2 : (putB (putB D' o m q) o' m' (q + (m : Int) + 1 + 1 + 1)).length = D.length := by rw [putB_length (by omega)]; exact hpl
    have v1 : IntKind.wrap .i64 (q + (m : Int)) = q + (m : Int) := wrap_i64 (by omega) (by omega)
    have v2 : IntKind.wrap .i64 (q + (m : Int) + 1) = q + (m : Int) + 1 := wrap_i64 (by omega) (by omega)
    have v3 : IntKind.wrap .i64 (q + (m : Int) + 1 + 1) = q + (m : Int) + 1 + 1 := wrap_i64 (by omega) (by omega)
    have v4 : IntKind.wrap .i64 (q + (m : Int) + 1 + 1 + 1) = q + (m : Int) + 1 + 1 + 1 := wrap_i64 (by omega) (by omega)
    have v5 : IntKind.wrap .i64 (q + (m : Int) + 1 + 1 + 1 + (m' : Int)) = q + (m : Int) + 1 + 1 + 1 + (m' : Int) := wrap_i64 (by omega) (by omega)
    have v6 : IntKind.wrap .i64 (q + (m : Int) + 1 + 1 + 1 + (m' : Int) + 1) = q + (m : Int) + 1 + 1 + 1 + (m' : Int) + 1 := wrap_i64 (by omega) (by omega)
    repeat' (first | refine T_seq ?_ | refine N_then ?_ | refine N_block ?_ | refine T_regX tyOk ?_ | refine S_nil ?_ | refine T_skip ?_ | refine T_block ?_ | (apply M_loadP; (· exact rfl); (· exact gt_any rfl); (· exact rfl); (· (repeat' (first | assumption | apply get_set_same))); (· exact rfl); (· (first | exact ⟨rfl, rfl⟩ | exact ⟨rfl, trivial⟩ | assumption))) | (apply M_storeP; (· exact rfl); (· exact gt_any rfl); (· exact rfl); (· (repeat' (first | assumption | apply get_set_same))); (· exact rfl); (· exact rfl); (· exact rfl); (· exact gt_any rfl); (· exact rfl); (· exact rfl); (· (repeat' constructor))) | (apply T_ifT; (· exact rfl); (· (first | assumption | exact rfl))) | apply S_move | apply S_assign | (apply S_fieldP; (· exact rfl); (· exact rfl); (· exact rfl); (· exact rfl); (· exact gt_any rfl)) | apply S_lss | apply S_add | (apply S_len_sl; (· exact rfl); (· exact gt_any rfl)) | (apply S_idxSl; (· exact rfl); (· exact rfl); (· exact gt_any rfl); (· exact rfl); (· exact gt_any rfl)) | (apply S_callL ([0]) (f := 125); (· repeat' (first | exact gts_nil | exact gt_any rfl | apply gts_cons)); (· exact rfl); (· (apply c0) <;> first | assumption | decide | omega)) | (apply S_callL ([0]) (f := 125); (· repeat' (first | exact gts_nil | exact gt_any rfl | apply gts_cons)); (· exact rfl); (· (apply c1) <;> first | assumption | decide | omega)) | exact gt_any rfl | assumption | (refine ⟨?_, ?_⟩ <;> omega) | exact rfl | fail)
    refine N_againS (j + 1, q + (m : Int) + 1 + 1 + 1 + (m' : Int) + 1, putB (putB D' o m q) o' m' (q + (m : Int) + 1 + 1 + 1),
      (((H'.set (0 + ((j : Int)).toNat) (.agg [.sl 0 o m m, .int .i64 (q + (m : Int)), .int .i64 b, .int .i64 c, .sl 0 o' m' m', .int .i64 d])).set (0 + ((j : Int)).toNat) (.agg [.sl 0 o m m, .int .i64 (q + (m : Int)), .int .i64 (q + (m : Int) + 1), .int .i64 c, .sl 0 o' m' m', .int .i64 d])).set (0 + ((j : Int)).toNat) (.agg [.sl 0 o m m, .int .i64 (q + (m : Int)), .int .i64 (q + (m : Int) + 1), .int .i64 (q + (m : Int) + 1 + 1), .sl 0 o' m' m', .int .i64 d])).set (0 + ((j : Int)).toNat) (.agg [.sl 0 o m m, .int .i64 (q + (m : Int)), .int .i64 (q + (m : Int) + 1), .int .i64 (q + (m : Int) + 1 + 1), .sl 0 o' m' m', .int .i64 (q + (m : Int) + 1 + 1 + 1 + (m' : Int))])) ((weak_of (by repeat' (first | exact keepE_nil | refine keepE_cons rfl ?_)) (by repeat' (first | exact keepB_nil | refine keepB_cons (by first | rfl | exact congrArg (fun l => some (Box.mk l _ _ _)) hset) ?_)) (Nat.le_refl _))).sub ⟨by omega, hpl2, by simpa using hH', fun y hy => ?_, by dsimp only; omega, by dsimp only; omega⟩ (by dsimp only; omega)
    have fin : ∀ a b c d : Int, HdOk D.length (.agg [.sl 0 o m m, .int .i64 a, .int .i64 b, .int .i64 c, .sl 0 o' m' m', .int .i64 d]) := fun a b c d => ⟨o, m, o', m', a, b, c, d, rfl, hom, hom'⟩
    rcases List.mem_or_eq_of_mem_set hy with hy | hy
    · rcases List.mem_or_eq_of_mem_set hy with hy | hy
      · rcases List.mem_or_eq_of_mem_set hy with hy | hy
        · rcases List.mem_or_eq_of_mem_set hy with hy | hy
          · exact hs' y hy
          · rw [hy]; exact fin _ _ _ _
        · rw [hy]; exact fin _ _ _ _
      · rw [hy]; exact fin _ _ _ _
    · rw [hy]; exact fin _ _ _ _
  · have hc : decide ((j : Int) < (n : Int)) = false := by simp only [decide_eq_false_iff_not]; omega
    obtain rfl : j = n := by omega
    repeat' (first | refine T_seq ?_ | refine N_then ?_ | refine N_thenE ?_ | refine N_blockE ?_ | refine N_againSE ?_ | refine T_regX tyOk ?_ | refine S_nil ?_ | refine T_ret ?_ | refine T_exit ?_ | (apply T_ifF; (· exact rfl); (· (first | assumption | exact rfl))) | apply S_move | apply S_assign | apply S_lss | (apply S_len_sl; (· exact rfl); (· exact gt_any rfl)) | exact gt_any rfl | exact rfl | fail)
    (apply E_Ex; (· repeat' (first | exact resL_nil | (apply resL_tmp; (· exact rfl)) | (apply resL_cell; (· exact rfl); (· exact rfl); (· exact rfl); (· exact rfl); (· exact rfl); (· exact rfl)) | (apply resL_arr; (· exact rfl); (· exact rfl); (· exact rfl); (· exact rfl); (· (first | assumption | exact rfl))) | exact rfl)); (· exact ⟨_, rfl, by omega, by omega⟩))

theorem hds_ok (l : List Hd) : ∀ x ∈ hdsN 0 l, HdOk (l.map hdBy).flatten.length x := fun x hx => by
  obtain ⟨v, c, d, _, rfl, _, h2, _, _⟩ := laidN_mem hx
  rw [hds_sum] at h2
  unfold HdW at h2
  exact ⟨c, v.parent.length, c + v.parent.length, v.root.length, _, _, _, _, rfl, by omega, by omega⟩
theorem markHds_sp (l : List Hd) (k : Int) (sl sl' : Bool) (h : listW HdW l ≤ 1048576) (h0 : 0 ≤ k) (h1 : k ≤ 1000000000000000) :
    CR Try.prog 80 [.sl 1 0 l.length l.length, .int .i64 k] [(0, some ⟨bA (l.map hdBy).flatten, 1, sl, false⟩), (1, some ⟨hdsN 0 l, 6, sl', false⟩)] 2 (Spent k (k + 4398046511104) 2) := by
  have hs := hds_sum l
  have hw : listW HdW l = l.length + (l.map HdW).sum := rfl
  exact CR.spend (markHds_cp l.length (l.map hdBy).flatten (hdsN 0 l) k sl sl' (hdsN_length _ _) (hds_ok l) (by omega) (by omega) h0 h1) (fun r b n ⟨k', e, h2, h3⟩ => ⟨k', e, h2, by omega⟩) h0
theorem markHds_at (l : List Hd) (k : Int) (sl sl' : Bool) (h : listW HdW l ≤ 1048576) (h0 : 0 ≤ k) (h1 : k ≤ 1000000000000000) (i j N : Nat) (hi : i < N) (hj : j < N) (hij : i ≠ j) :
    CR Try.prog 80 [.sl j 0 l.length l.length, .int .i64 k] [(i, some ⟨bA (l.map hdBy).flatten, 1, sl, false⟩), (j, some ⟨hdsN i l, 6, sl', false⟩)] N (Spent k (k + 4398046511104) N) :=
  (CR.spentI (markHds_sp l k sl sl' h h0 h1) [i, j] rfl (by simp [*] <;> omega) _ (by simp [*] <;> omega) (by repeat' (first | exact Ren.sl _ _ _ _ | exact Ren.ptr _ _ _ | exact renL_nil | apply renL_cons | (apply Ren.pure; exact PureC.out) | apply ren_agg | apply ren_tup | exact renBs_nil | (apply renBs_pure; (· exact rfl); (· exact PureEC.out)) | (apply renBs_one; (· exact rfl)) | (apply renBs_list; (· exact rfl)) | exact renEL_nil | apply renEL_cons | exact outsN_ren _ _ _ _ | apply rn_vlds | apply rn_hds)) (by repeat' (first | exact Ren.sl _ _ _ _ | exact Ren.ptr _ _ _ | exact renL_nil | apply renL_cons | (apply Ren.pure; exact PureC.out) | apply ren_agg | apply ren_tup | exact renBs_nil | (apply renBs_pure; (· exact rfl); (· exact PureEC.out)) | (apply renBs_one; (· exact rfl)) | (apply renBs_list; (· exact rfl)) | exact renEL_nil | apply renEL_cons | exact outsN_ren _ _ _ _ | apply rn_vlds | apply rn_hds)))

theorem toCli_cr0 (x : Cli) (h : CliW x ≤ 1048576) : CR Try.prog 12 [cliA x] [] 0 (Is (.agg [.sl (0 + 1) 0 x.heads.length x.heads.length, .int .i64 x.depth]) [(0, some ⟨bA (x.heads.map hdBy).flatten, 1, true, false⟩), (0 + 1, some ⟨hdsN 0 x.heads, 6, false, false⟩)] (0 + 2)) := by
  refine CR_introU tyOk Try.func12 (by kernel_rfl) rfl 12 rfl (by simp) [.cell 2 29] rfl ?_
  intro w0 ok0 wr φ0
  unfold CliW at h
  have c0 := fun N => toHds_cr x.heads (by omega) N
  repeat' (first | refine T_seq ?_ | refine N_then ?_ | refine T_regX tyOk ?_ | refine S_nil ?_ | refine T_ret ?_ | (apply S_loadP; (· exact rfl); (· exact gt_any rfl); (· exact rfl); (· exact rfl); (· exact rfl); (· (first | exact ⟨rfl, rfl⟩ | exact ⟨rfl, trivial⟩ | assumption))) | (apply S_loadW; (· exact rfl); (· exact gt_any rfl); (· exact rfl); (· exact rfl); (· exact rfl); (· exact rfl); (· exact rfl); (· exact rfl)) | (apply S_fieldP; (· exact rfl); (· exact rfl); (· exact rfl); (· exact rfl); (· exact gt_any rfl)) | apply S_alloc | apply S_box | (apply S_store1; (· exact rfl); (· exact gt_any rfl); (· exact rfl); (· exact rfl); (· exact rfl); (· exact rfl)) | (apply S_storeF; (· exact rfl); (· exact gt_any rfl); (· exact rfl); (· exact rfl); (· exact rfl); (· exact rfl); (· exact gt_any rfl); (· exact rfl); (· exact rfl); (· (repeat' constructor))) | apply S_callI (f := 43) | apply c0 | exact viewL_nil | apply viewL_cons | exact viewE_pure PureEC.out | apply view_lsV | exact OwnC.out | exact ownB_nil | (apply ownB_boxM; (· (apply mlen; first | exact rfl | assumption | exact Nat.le_of_ble_eq_true rfl | omega | (simp [bA_length]; done) | (simp [bA_length]; omega))); (· exact OwnEC.out)) | exact gt_any rfl | exact gts_nil | (apply gts_cons; (· exact gt_any rfl)) | exact okCells_of rfl rfl | exact rfl | fail)
  (apply E_U0 [(0, 3), (1, 4)] <;> repeat' (first | exact resL_nil | (apply resL_tmp; (· exact rfl)) | (apply resL_cell; (· exact rfl); (· exact rfl); (· exact rfl); (· exact rfl); (· exact rfl); (· exact rfl)) | (apply resL_arr; (· exact rfl); (· exact rfl); (· exact rfl); (· exact rfl); (· (first | assumption | exact rfl))) | exact Ren.sl _ _ _ _ | (apply ren_slE; (· first | exact rfl | omega); (· first | exact rfl | assumption | (simp [bA_length]; done) | (simp [bA_length]; omega)); (· first | exact rfl | assumption | (simp [bA_length]; done) | (simp [bA_length]; omega))) | exact Ren.ptr _ _ _ | exact renL_nil | apply renL_cons | (apply Ren.pure; exact PureC.out) | apply ren_agg | apply ren_tup | exact Low.sl _ _ _ _ (by decide) | exact Low.ptr _ _ _ (by decide) | exact lowL_nil | apply lowL_cons | (apply Low.pure; exact PureC.out) | apply low_agg | apply low_tup | exact pullB_nil | (apply pullB_pureE; (· exact rfl); (· first | exact rfl | assumption | (simp [bA]; done)); (· exact PureEC.out)) | (apply pullB_one; (· exact rfl)) | exact lowBs_nil | apply lowBs_cons | (apply PureB.low; exact PureEC.out) | apply lowX_one | exact lowX_nil | (apply pullB_list; (· exact rfl)) | exact renEL_nil | apply renEL_cons | apply lowX_cons | exact outsN_ren _ _ _ _ | exact outsN_low _ _ _ (by decide) | apply rn_vlds | apply rn_hds | (apply lw_vlds <;> decide) | (apply lw_hds <;> decide) | exact rfl))

theorem toCli_cr (x : Cli) (h : CliW x ≤ 1048576) (N : Nat) : CR Try.prog 12 [cliA x] [] N (Is (.agg [.sl (N + 1) 0 x.heads.length x.heads.length, .int .i64 x.depth]) [(N, some ⟨bA (x.heads.map hdBy).flatten, 1, true, false⟩), (N + 1, some ⟨hdsN N x.heads, 6, false, false⟩)] (N + 2)) :=
  CR.allN (toCli_cr0 x h) N (by first | exact PureC.out | exact PureLC.out | assumption) (by repeat' (first | exact Ren.sl _ _ _ _ | exact Ren.ptr _ _ _ | exact renL_nil | apply renL_cons | (apply Ren.pure; (first | exact PureC.out | exact PureLC.out | assumption)) | apply ren_agg | apply ren_tup)) (by repeat' (first | exact renBs_nil | (apply renBs_pure; (· exact rfl); (· (exact PureEC.out))) | (apply renBs_one; (· exact rfl)) | exact renL_nil | apply renL_cons | exact Ren.sl _ _ _ _ | exact Ren.ptr _ _ _ | (apply Ren.pure; (first | exact PureC.out | exact PureLC.out | assumption)) | apply ren_agg | (apply renBs_list; (· exact rfl)) | exact outsN_ren _ _ _ _ | apply rn_vlds | apply rn_hds))

theorem markCli_cp (x : Cli) (k : Int) (h : CliW x ≤ 1048576) (h0 : 0 ≤ k) (h1 : k ≤ 1000000000000000) : CR Try.prog 34 [.agg [.sl 1 0 x.heads.length x.heads.length, .int .i64 x.depth], .int .i64 k] [(0, some ⟨bA (x.heads.map hdBy).flatten, 1, true, false⟩), (1, some ⟨hdsN 0 x.heads, 6, false, false⟩)] 2 (fun v _ _ => ∃ k' : Int, v = .int .i64 k' ∧ k ≤ k' ∧ k' ≤ k + 4398046511104) := by
  refine CR_intro tyOk Try.func34 (by kernel_rfl) rfl 10 rfl (by simp) [.tmp 4] rfl ?_
  intro w0 ok0 wr φ0
  unfold CliW at h
  have c0 := fun (i j N : Nat) (hi : i < N) (hj : j < N) (hij : i ≠ j) => markHds_at x.heads k true false h h0 h1 i j N hi hj hij
  repeat' (first | refine T_seq ?_ | refine N_then ?_ | refine T_regX tyOk ?_ | refine S_nil ?_ | refine T_ret ?_ | apply S_move | apply S_assign | (apply S_loadP; (· exact rfl); (· exact gt_any rfl); (· exact rfl); (· exact rfl); (· exact rfl); (· (first | exact ⟨rfl, rfl⟩ | exact ⟨rfl, trivial⟩ | assumption))) | (apply S_fieldP; (· exact rfl); (· exact rfl); (· exact rfl); (· exact rfl); (· exact gt_any rfl)) | apply S_box | (apply S_callX ([0, 1]) (f := 80); (· repeat' (first | exact gts_nil | exact gt_any rfl | apply gts_cons)); (· exact rfl); (· (apply c0) <;> first | assumption | decide | omega); (· exact rfl); (intro k9 hk1 hk2 hk3)) | exact gt_any rfl | exact okCells_of rfl rfl | exact rfl | fail)
  (apply E_Ex; (· repeat' (first | exact resL_nil | (apply resL_tmp; (· exact rfl)) | (apply resL_cell; (· exact rfl); (· exact rfl); (· exact rfl); (· exact rfl); (· exact rfl); (· exact rfl)) | (apply resL_arr; (· exact rfl); (· exact rfl); (· exact rfl); (· exact rfl); (· (first | assumption | exact rfl))) | exact rfl)); (· exact ⟨_, rfl, by omega, by omega⟩))
theorem markCli_at (x : Cli) (k : Int) (h : CliW x ≤ 1048576) (h0 : 0 ≤ k) (h1 : k ≤ 1000000000000000) (i j N : Nat) (hi : i < N) (hj : j < N) (hij : i ≠ j) : CR Try.prog 34 [.agg [.sl j 0 x.heads.length x.heads.length, .int .i64 x.depth], .int .i64 k] [(i, some ⟨bA (x.heads.map hdBy).flatten, 1, true, false⟩), (j, some ⟨hdsN i x.heads, 6, false, false⟩)] N (Spent k (k + 4398046511104) N) :=
  (CR.spentI (CR.spend (markCli_cp x k h h0 h1) (fun v _ _ h => h) h0) [i, j] rfl (by simp [*] <;> omega) _ (by simp [*] <;> omega) (by repeat' (first | exact Ren.sl _ _ _ _ | exact Ren.ptr _ _ _ | exact renL_nil | apply renL_cons | (apply Ren.pure; exact PureC.out) | apply ren_agg | apply ren_tup | exact renBs_nil | (apply renBs_pure; (· exact rfl); (· exact PureEC.out)) | (apply renBs_one; (· exact rfl)) | (apply renBs_list; (· exact rfl)) | exact renEL_nil | apply renEL_cons | exact outsN_ren _ _ _ _ | apply rn_vlds | apply rn_hds)) (by repeat' (first | exact Ren.sl _ _ _ _ | exact Ren.ptr _ _ _ | exact renL_nil | apply renL_cons | (apply Ren.pure; exact PureC.out) | apply ren_agg | apply ren_tup | exact renBs_nil | (apply renBs_pure; (· exact rfl); (· exact PureEC.out)) | (apply renBs_one; (· exact rfl)) | (apply renBs_list; (· exact rfl)) | exact renEL_nil | apply renEL_cons | exact outsN_ren _ _ _ _ | apply rn_vlds | apply rn_hds)))

end Go.Proofs.Ytaolmfgpebncjaa
