/- Rows, validators and trusts laid anew in boxes; and marked. -/
import Derived.Test.YthfikpgbddpmoaaNa
import Derived.Test.YthfikpgbddpmoaaRg
import Derived.Test.YthfikpgbddpmoaaWk
import Derived.Test.YthfikpgbddpmoaaGj
import Derived.Test.YthfikpgbddpmoaaGk
set_option maxRecDepth 100000
set_option maxHeartbeats 3200000
set_option linter.unusedSimpArgs false
set_option linter.unusedVariables false
namespace Go.Proofs.Ythfikpgbddpmoaa
open Go.Av
attribute [local irreducible] T thenQ blockQ againQ againS WX retV retR Gt Gts GtsP okCells CV CR Av.Pure

abbrev nilS : AV := .ls 0 true true []
theorem pureB_nilS (n : Nat) : PureB (List.replicate n nilS) := fun x hx => by
  obtain ⟨_, rfl⟩ := List.mem_replicate.1 hx
  exact ⟨show PureAll [nilS] from PureLC.out, rfl⟩
theorem set_here {A : List AV} {z x : AV} {n j : Nat} (h : A.length = j) (hn : j < n) : (A ++ List.replicate (n - j) z).set (0 + ((j : Int)).toNat) x = A ++ x :: List.replicate (n - (j + 1)) z := by
  rw [Nat.zero_add, Int.toNat_natCast, List.set_append_right _ _ (by omega), h, Nat.sub_self, show n - j = (n - (j + 1)) + 1 by omega, List.replicate_succ, List.set_cons_zero]

theorem toRows_cr0 (rows : List (List UInt8)) (h : listW List.length rows ≤ 1048576) : CR Try.prog 112 [rowsA rows] [] 0 (Is (.sl (0 + 1) 0 rows.length rows.length) [(0, some ⟨bA rows.flatten, 1, true, false⟩), (0 + 1, some ⟨outsN 0 0 (rows.map List.length), 1, false, false⟩)] (0 + 2)) := by
  refine CR_introU tyOk Try.func112 (by kernel_rfl) rfl 23 rfl (by simp) [.tmp 2] rfl ?_
  intro w0 ok0 wr φ0
  have hl : (rows.map byA).length = rows.length := by simp
  have hn : rows.length ≤ 1048576 := by unfold listW at h; omega
  repeat' (first | refine T_seq ?_ | refine N_then ?_ | refine T_regX tyOk ?_ | refine S_nil ?_ | refine T_block ?_ | apply S_move | apply S_assign | (apply S_len_ls; (· exact rfl); (· exact gt_any rfl)) | (apply S_make; (· exact rfl); (· exact rfl); (· exact gt_any rfl); (· exact gt_any rfl); (· exact rfl); (· (first | assumption | omega)); (· (first | assumption | omega | (dsimp only; omega) | (simp; omega))); (· (first | assumption | omega | (dsimp only; omega) | (simp; omega))); (· (first | assumption | omega | (dsimp only; omega) | (simp; omega))); (· (first | exact okCells_of rfl rfl | assumption)); (· (first | exact Nat.le_of_ble_eq_true rfl | omega | decide))) | exact gt_any rfl | exact rfl | fail)
  refine T_roundsS (α := Nat) (fun j => ⟨[(0, rowsA rows), (3, .sl 0 0 (rows.map byA).length (rows.map byA).length), (4, .int .i64 j)],
      [(1, some ⟨bA (rows.take j).flatten, 1, true, false⟩), (0, some ⟨outsN 1 0 ((rows.take j).map List.length) ++ List.replicate ((rows.map byA).length - j) nilS, 1, false, false⟩)], 2⟩)
    (fun j => rows.length - j) (fun j => j ≤ rows.length) 0 (sub_up 1 (by repeat' (first | exact upE_nil | (apply upE_cons; (· exact rfl); (· exact Up.refl _))))) (by omega) ?_
  intro j hj
  by_cases hjl : j < rows.length
  · have hc : decide ((j : Int) < ((rows.map byA).length : Int)) = true := by simp only [decide_eq_true_eq]; omega
    have g1 := map_getD byA rows [] (k := j) hjl
    have hw1 : IntKind.wrap .i64 ((j : Int) + 1) = ((j + 1 : Nat) : Int) := by rw [wrap_i64 (by omega) (by omega)]; omega
    have hmem : rows.getD j [] ∈ rows := by rw [List.getD_eq_getElem?_getD, List.getElem?_eq_getElem hjl]; exact List.getElem_mem hjl
    have hwl := listW_mem List.length rows hmem
    have htk : rows.take (j + 1) = rows.take j ++ [rows.getD j []] := by rw [List.take_add_one, List.getD_eq_getElem?_getD, List.getElem?_eq_getElem hjl]; rfl
    have hfl : bA (rows.take j).flatten ++ bA (rows.getD j []) = bA (rows.take (j + 1)).flatten := by rw [htk]; simp [bA]
    have hns : (rows.take (j + 1)).map List.length = (rows.take j).map List.length ++ [(rows.getD j []).length] := by rw [htk]; simp
    have hM : (bA (rows.take j).flatten).length = 0 + ((rows.take j).map List.length).sum := by rw [bA_length, List.length_flatten, Nat.zero_add]
    have c0 := fun N => toByteS_cr (rows.getD j []) (by omega) N
    have hol : (outsN 1 0 ((rows.take j).map List.length)).length = j := by rw [outsN_length, List.length_map, List.length_take]; omega
    generalize rows.getD j [] = w at *
    have hset := set_here (x := .sl 2 0 w.length w.length) (z := nilS) (n := (rows.map byA).length) hol (by omega)
    have hin : 0 + ((j : Int)).toNat < (outsN 1 0 ((rows.take j).map List.length) ++ List.replicate ((rows.map byA).length - j) nilS).length := by
      simp only [List.length_append, List.length_replicate, hol]; omega
    have i1 : (0 : Int) ≤ (j : Int) ∧ (j : Int) < ((rows.map byA).length : Int) := by omega
    repeat' (first | refine T_seq ?_ | refine N_then ?_ | refine N_block ?_ | refine T_regX tyOk ?_ | refine S_nil ?_ | refine T_skip ?_ | refine T_block ?_ | (apply T_ifT; (· exact rfl); (· (first | assumption | exact rfl))) | apply S_move | apply S_assign | (apply S_loadV; (· exact rfl); (· exact gt_any rfl); (· exact rfl); (· (first | exact ⟨rfl, rfl⟩ | exact ⟨rfl, trivial⟩ | assumption))) | apply S_lss | apply S_add | (apply S_len_ls; (· exact rfl); (· exact gt_any rfl)) | (apply S_idxLs; (· exact rfl); (· exact rfl); (· exact gt_any rfl); (· exact gt_any rfl)) | (apply S_idxSl; (· exact rfl); (· exact rfl); (· exact gt_any rfl); (· exact rfl); (· exact gt_any rfl)) | (apply S_storeE; (· exact rfl); (· exact gt_any rfl); (· exact rfl); (· exact rfl); (· exact rfl)) | apply S_callI (f := 49) | apply c0 | exact viewL_nil | apply viewL_cons | (apply View.pure; exact PureC.out) | exact OwnC.out | exact ownB_nil | (apply ownB_boxM; (· (apply mlen; first | exact rfl | assumption | exact Nat.le_of_ble_eq_true rfl | omega | (simp [bA_length]; done) | (simp [bA_length]; omega))); (· exact OwnEC.out)) | exact gt_any rfl | exact gts_nil | (apply gts_cons; (· exact gt_any rfl)) | exact okCells_of rfl rfl | assumption | exact rfl | fail)
    refine N_againS (j + 1) (sub_catD (bx' := [(0, some ⟨outsN 1 0 ((rows.take (j + 1)).map List.length) ++ List.replicate ((rows.map byA).length - (j + 1)) nilS, 1, false, false⟩)]) 1 2 (Nat.zero_le _) (by decide) rfl rfl (catX_pure (pureB_bA _)) (catX_pure (pureB_bA _)) (by repeat' (first | exact catE_nil | (apply catE_cons; (· exact rfl)) | (apply Cat.pure; (first | exact PureC.out | exact PureLC.out | assumption)) | (apply Cat.sl0; decide) | (apply Cat.ptr0; decide) | apply cat_agg | exact catL_nil | apply catL_cons)) (catB_cons (by decide) (by decide) rfl ?_ catB_nil) hfl rfl (by repeat' (first | exact lowE_nil | apply lowE_cons | exact Low.sl _ _ _ _ (by decide) | exact Low.ptr _ _ _ (by decide) | (apply Low.pure; (first | exact PureC.out | exact PureLC.out | assumption)) | exact lowL_nil | apply lowL_cons | apply low_agg | apply low_tup)) ?_ rfl (Nat.zero_le _)) (by omega) (by omega)
    · rw [hns]
      first | exact hset ▸ outsN_catZ hM (pureB_nilS _) | (rw [hset]; exact outsN_catZ hM (pureB_nilS _))
    · exact lowBs_cons (PureB.low (pureB_bA _) _) (lowBs_cons (lowX_app (outsN_low _ _ _ (by decide)) (PureB.low (pureB_nilS _) _)) lowBs_nil)
  · have hc : decide ((j : Int) < ((rows.map byA).length : Int)) = false := by simp only [decide_eq_false_iff_not]; omega
    obtain rfl : j = rows.length := by omega
    have e1 : rows.take rows.length = rows := List.take_length
    have e2 : (rows.map byA).length - rows.length = 0 := by omega
    rw [e1, e2, List.replicate_zero, List.append_nil]
    repeat' (first | refine T_seq ?_ | refine N_then ?_ | refine N_thenE ?_ | refine N_blockE ?_ | refine N_againSE ?_ | refine T_regX tyOk ?_ | refine S_nil ?_ | refine T_ret ?_ | refine T_exit ?_ | (apply T_ifF; (· exact rfl); (· (first | assumption | exact rfl))) | apply S_move | apply S_assign | apply S_lss | (apply S_len_ls; (· exact rfl); (· exact gt_any rfl)) | exact gt_any rfl | exact rfl | fail)
    rw [hl]
    (apply E_U0 [(0, 1), (1, 0)] <;> repeat' (first | exact resL_nil | (apply resL_tmp; (· exact rfl)) | (apply resL_cell; (· exact rfl); (· exact rfl); (· exact rfl); (· exact rfl); (· exact rfl); (· exact rfl)) | (apply resL_arr; (· exact rfl); (· exact rfl); (· exact rfl); (· exact rfl); (· (first | assumption | exact rfl))) | exact Ren.sl _ _ _ _ | (apply ren_slE; (· first | exact rfl | omega); (· first | exact rfl | assumption | (simp [bA_length]; done) | (simp [bA_length]; omega)); (· first | exact rfl | assumption | (simp [bA_length]; done) | (simp [bA_length]; omega))) | exact Ren.ptr _ _ _ | exact renL_nil | apply renL_cons | (apply Ren.pure; exact PureC.out) | apply ren_agg | apply ren_tup | exact Low.sl _ _ _ _ (by decide) | exact Low.ptr _ _ _ (by decide) | exact lowL_nil | apply lowL_cons | (apply Low.pure; exact PureC.out) | apply low_agg | apply low_tup | exact pullB_nil | (apply pullB_pureE; (· exact rfl); (· first | exact rfl | assumption | (simp [bA]; done)); (· exact PureEC.out)) | (apply pullB_one; (· exact rfl)) | exact lowBs_nil | apply lowBs_cons | (apply PureB.low; exact PureEC.out) | apply lowX_one | exact lowX_nil | (apply pullB_list; (· exact rfl)) | exact renEL_nil | apply renEL_cons | apply lowX_cons | exact outsN_ren _ _ _ _ | exact outsN_low _ _ _ (by decide) | exact rfl))

theorem toRows_cr (rows : List (List UInt8)) (h : listW List.length rows ≤ 1048576) (N : Nat) : CR Try.prog 112 [rowsA rows] [] N (Is (.sl (N + 1) 0 rows.length rows.length) [(N, some ⟨bA rows.flatten, 1, true, false⟩), (N + 1, some ⟨outsN N 0 (rows.map List.length), 1, false, false⟩)] (N + 2)) :=
  CR.allN (toRows_cr0 rows h) N (by first | exact PureC.out | exact PureLC.out | assumption) (by repeat' (first | exact Ren.sl _ _ _ _ | exact Ren.ptr _ _ _ | exact renL_nil | apply renL_cons | (apply Ren.pure; (first | exact PureC.out | exact PureLC.out | assumption)) | apply ren_agg | apply ren_tup)) (by repeat' (first | exact renBs_nil | (apply renBs_pure; (· exact rfl); (· (exact PureEC.out))) | (apply renBs_one; (· exact rfl)) | exact renL_nil | apply renL_cons | exact Ren.sl _ _ _ _ | exact Ren.ptr _ _ _ | (apply Ren.pure; (first | exact PureC.out | exact PureLC.out | assumption)) | apply ren_agg | (apply renBs_list; (· exact rfl)) | exact outsN_ren _ _ _ _))

/-! validators -/
def vldN (r : Nat) (a _b : Nat) (v : Vld) : AV := .agg [.sl r a v.key.length v.key.length, .int .i64 v.power]
def vldsN (r : Nat) (l : List Vld) : List AV := laidN (fun v : Vld => v.key.length) (fun _ => 0) (vldN r) 0 0 l
abbrev vldZ : AV := .agg [nilS, .int .i64 0]
theorem sum0 {α : Type} (l : List α) : (l.map fun _ => 0).sum = 0 := by
  induction l with
  | nil => rfl
  | cons _ _ ih => simpa using ih
theorem vldsN_length (r : Nat) (l : List Vld) : (vldsN r l).length = l.length := laidN_length _ _ _
theorem rn_vlds (ρ : Nat → Nat) (r : Nat) (l : List Vld) : RenEL ρ (vldsN r l) (vldsN (ρ r) l) := by
  unfold vldsN; exact laidN_ren (fun a b x => renL_cons (.sl _ _ _ _) (renL_cons (.pure (pure_int _ _)) renL_nil)) 0 0 l
theorem lw_vlds {N : Nat} (r : Nat) (l : List Vld) (h : r < N) : LowX N (vldsN r l) := by
  unfold vldsN; exact laidN_low (fun a b x => lowL_cons (.sl _ _ _ _ h) (lowL_cons (.pure (pure_int _ _)) lowL_nil)) 0 0 l
instance (r : Nat) (l : List Vld) : OwnEC (vldsN r l) := ⟨by unfold vldsN; refine laidN_own ?_ 0 0 l; exact fun a b x => ownL_cons (own_sl _ _ _ _) (ownL_cons (flat_int _ _).own ownL_nil)⟩
theorem keys_sum (l : List Vld) : (l.map fun v : Vld => v.key.length).sum = (l.map Vld.key).flatten.length := by rw [List.length_flatten, List.map_map]; rfl
theorem vw_vlds {bx : List (Nat × Option Box)} {o r len cap : Nat} {l : List Vld} {sl ro sl' ro' : Bool} (ho : box? bx o = some ⟨vldsN r l, 2, sl, ro⟩) (hr : box? bx r = some ⟨bA (l.map Vld.key).flatten, 1, sl', ro'⟩) (hl : Mlen (len = l.length)) : View bx (.sl o 0 len cap) (vldAS l) := by
  have hl := hl.out
  refine view_laid vldA ho 0 0 (by rw [List.drop_zero]; exact List.take_of_length_le (by rw [vldsN_length]; omega)) (by rw [vldsN_length]; omega) hl (fun x d hd => by simp only [AV.cells, List.mem_cons, List.not_mem_nil, or_false] at hd; rcases hd with rfl | rfl <;> rfl) fun i x hx => ?_
  have hk : (l.map Vld.key)[i]? = some x.key := by rw [List.getElem?_map, hx]; rfl
  have e : ((l.take i).map fun v : Vld => v.key.length).sum = (((l.map Vld.key).map List.length).take i).sum := by rw [List.map_map, ← List.map_take]; rfl
  refine ⟨?_, .pure (pure_int _ _), trivial⟩
  show View bx (.sl r (0 + ((l.take i).map fun v : Vld => v.key.length).sum) x.key.length x.key.length) (byA x.key)
  rw [e, Nat.zero_add]
  exact view_rowN i hk rfl rfl hr
theorem vlds_catZ {j M : Nat} {l : List Vld} {v : Vld} {Z : List AV} (h : M = (l.map Vld.key).flatten.length) (hZ : PureB Z) : CatX 1 M j (vldsN 1 l ++ .agg [.sl j 0 v.key.length v.key.length, .int .i64 v.power] :: Z) (vldsN 1 (l ++ [v]) ++ Z) := by
  have hs := keys_sum l
  unfold vldsN
  rw [laidN_snoc, List.append_assoc]
  refine catX_app (laidN_cat (A := M) (B := 0) (fun x c d h1 _ => catL_cons (.sl1 _ _ _ h1) (catL_cons (.pure (pure_int _ _)) catL_nil)) 0 0 l (by omega) (by rw [sum0]; omega)) (catX_cons (catL_cons (.sl2 _ _ _ _ (by omega)) (catL_cons (.pure (pure_int _ _)) catL_nil)) (catX_pure hZ))

theorem toValidator_cr0 (v : Vld) (h : VldW v ≤ 1048576) : CR Try.prog 191 [vldA v] [] 0 (Is (.agg [.sl 0 0 v.key.length v.key.length, .int .i64 v.power]) [(0, some ⟨bA v.key, 1, false, false⟩)] (0 + 1)) := by
  refine CR_introU tyOk Try.func191 (by kernel_rfl) rfl 12 rfl (by simp) [.cell 2 202] rfl ?_
  intro w0 ok0 wr φ0
  have c0 := fun N => toByteS_cr v.key (by unfold VldW at h; omega) N
  repeat' (first | refine T_seq ?_ | refine N_then ?_ | refine T_regX tyOk ?_ | refine S_nil ?_ | refine T_ret ?_ | (apply S_loadP; (· exact rfl); (· exact gt_any rfl); (· exact rfl); (· exact rfl); (· exact rfl); (· (first | exact ⟨rfl, rfl⟩ | exact ⟨rfl, trivial⟩ | assumption))) | (apply S_loadW; (· exact rfl); (· exact gt_any rfl); (· exact rfl); (· exact rfl); (· exact rfl); (· exact rfl); (· exact rfl); (· exact rfl)) | (apply S_fieldP; (· exact rfl); (· exact rfl); (· exact rfl); (· exact rfl); (· exact gt_any rfl)) | apply S_alloc | apply S_box | (apply S_store1; (· exact rfl); (· exact gt_any rfl); (· exact rfl); (· exact rfl); (· exact rfl); (· exact rfl)) | (apply S_storeF; (· exact rfl); (· exact gt_any rfl); (· exact rfl); (· exact rfl); (· exact rfl); (· exact rfl); (· exact gt_any rfl); (· exact rfl); (· exact rfl); (· (repeat' constructor))) | apply S_callI (f := 49) | apply c0 | exact viewL_nil | apply viewL_cons | (apply View.pure; exact PureC.out) | exact OwnC.out | exact ownB_nil | (apply ownB_boxM; (· (apply mlen; first | exact rfl | assumption | exact Nat.le_of_ble_eq_true rfl | omega | (simp [bA_length]; done) | (simp [bA_length]; omega))); (· exact OwnEC.out)) | exact gt_any rfl | exact gts_nil | (apply gts_cons; (· exact gt_any rfl)) | exact okCells_of rfl rfl | exact rfl | fail)
  (apply E_U0 [(0, 3)] <;> repeat' (first | exact resL_nil | (apply resL_tmp; (· exact rfl)) | (apply resL_cell; (· exact rfl); (· exact rfl); (· exact rfl); (· exact rfl); (· exact rfl); (· exact rfl)) | (apply resL_arr; (· exact rfl); (· exact rfl); (· exact rfl); (· exact rfl); (· (first | assumption | exact rfl))) | exact Ren.sl _ _ _ _ | (apply ren_slE; (· first | exact rfl | omega); (· first | exact rfl | assumption | (simp [bA_length]; done) | (simp [bA_length]; omega)); (· first | exact rfl | assumption | (simp [bA_length]; done) | (simp [bA_length]; omega))) | exact Ren.ptr _ _ _ | exact renL_nil | apply renL_cons | (apply Ren.pure; exact PureC.out) | apply ren_agg | apply ren_tup | exact Low.sl _ _ _ _ (by decide) | exact Low.ptr _ _ _ (by decide) | exact lowL_nil | apply lowL_cons | (apply Low.pure; exact PureC.out) | apply low_agg | apply low_tup | exact pullB_nil | (apply pullB_pureE; (· exact rfl); (· first | exact rfl | assumption | (simp [bA]; done)); (· exact PureEC.out)) | (apply pullB_one; (· exact rfl)) | exact lowBs_nil | apply lowBs_cons | (apply PureB.low; exact PureEC.out) | apply lowX_one | exact lowX_nil | (apply pullB_list; (· exact rfl)) | exact renEL_nil | apply renEL_cons | apply lowX_cons | exact outsN_ren _ _ _ _ | exact outsN_low _ _ _ (by decide) | exact rn_vlds _ _ _ | exact lw_vlds _ _ (by decide) | exact rfl))

theorem toValidator_cr (v : Vld) (h : VldW v ≤ 1048576) (N : Nat) : CR Try.prog 191 [vldA v] [] N (Is (.agg [.sl N 0 v.key.length v.key.length, .int .i64 v.power]) [(N, some ⟨bA v.key, 1, false, false⟩)] (N + 1)) :=
  CR.allN (toValidator_cr0 v h) N (by first | exact PureC.out | exact PureLC.out | assumption) (by repeat' (first | exact Ren.sl _ _ _ _ | exact Ren.ptr _ _ _ | exact renL_nil | apply renL_cons | (apply Ren.pure; (first | exact PureC.out | exact PureLC.out | assumption)) | apply ren_agg | apply ren_tup)) (by repeat' (first | exact renBs_nil | (apply renBs_pure; (· exact rfl); (· (exact PureEC.out))) | (apply renBs_one; (· exact rfl)) | exact renL_nil | apply renL_cons | exact Ren.sl _ _ _ _ | exact Ren.ptr _ _ _ | (apply Ren.pure; (first | exact PureC.out | exact PureLC.out | assumption)) | apply ren_agg | (apply renBs_list; (· exact rfl)) | exact outsN_ren _ _ _ _ | exact rn_vlds _ _ _))

theorem pureB_vldZ (n : Nat) : PureB (List.replicate n vldZ) := fun x hx => by
  obtain ⟨_, rfl⟩ := List.mem_replicate.1 hx
  exact ⟨show PureAll [nilS, .int .i64 0] from PureLC.out, rfl⟩

theorem toVlds_cr0 (l : List Vld) (h : listW VldW l ≤ 1048576) : CR Try.prog 138 [vldAS l] [] 0 (Is (.sl (0 + 1) 0 l.length l.length) [(0, some ⟨bA (l.map Vld.key).flatten, 1, true, false⟩), (0 + 1, some ⟨vldsN 0 l, 2, false, false⟩)] (0 + 2)) := by
  refine CR_introU tyOk Try.func138 (by kernel_rfl) rfl 23 rfl (by simp) [.tmp 2] rfl ?_
  intro w0 ok0 wr φ0
  have hl : (l.map vldA).length = l.length := by simp
  have hn : l.length ≤ 1048576 := by unfold listW at h; omega
  repeat' (first | refine T_seq ?_ | refine N_then ?_ | refine T_regX tyOk ?_ | refine S_nil ?_ | refine T_block ?_ | apply S_move | apply S_assign | (apply S_len_ls; (· exact rfl); (· exact gt_any rfl)) | (apply S_make; (· exact rfl); (· exact rfl); (· exact gt_any rfl); (· exact gt_any rfl); (· exact rfl); (· (first | assumption | omega)); (· (first | assumption | omega | (dsimp only; omega) | (simp; omega))); (· (first | assumption | omega | (dsimp only; omega) | (simp; omega))); (· (first | assumption | omega | (dsimp only; omega) | (simp; omega))); (· (first | exact okCells_of rfl rfl | assumption)); (· (first | exact Nat.le_of_ble_eq_true rfl | omega | decide))) | exact gt_any rfl | exact rfl | fail)
  refine T_roundsS (α := Nat) (fun j => ⟨[(0, vldAS l), (3, .sl 0 0 (l.map vldA).length (l.map vldA).length), (4, .int .i64 j)],
      [(1, some ⟨bA ((l.take j).map Vld.key).flatten, 1, true, false⟩), (0, some ⟨vldsN 1 (l.take j) ++ List.replicate ((l.map vldA).length - j) vldZ, 2, false, false⟩)], 2⟩)
    (fun j => l.length - j) (fun j => j ≤ l.length) 0 (sub_up 1 (by repeat' (first | exact upE_nil | (apply upE_cons; (· exact rfl); (· exact Up.refl _))))) (by omega) ?_
  intro j hj
  by_cases hjl : j < l.length
  · have hc : decide ((j : Int) < ((l.map vldA).length : Int)) = true := by simp only [decide_eq_true_eq]; omega
    have g1 := map_getD vldA l Vld0 (k := j) hjl
    have hw1 : IntKind.wrap .i64 ((j : Int) + 1) = ((j + 1 : Nat) : Int) := by rw [wrap_i64 (by omega) (by omega)]; omega
    have hmem : l.getD j Vld0 ∈ l := by rw [List.getD_eq_getElem?_getD, List.getElem?_eq_getElem hjl]; exact List.getElem_mem hjl
    have hwl := listW_mem VldW l hmem
    have htk : l.take (j + 1) = l.take j ++ [l.getD j Vld0] := by rw [List.take_add_one, List.getD_eq_getElem?_getD, List.getElem?_eq_getElem hjl]; rfl
    have hfl : bA ((l.take j).map Vld.key).flatten ++ bA (l.getD j Vld0).key = bA ((l.take (j + 1)).map Vld.key).flatten := by rw [htk]; simp [bA]
    have hM : (bA ((l.take j).map Vld.key).flatten).length = ((l.take j).map Vld.key).flatten.length := bA_length _
    have c0 := fun N => toValidator_cr (l.getD j Vld0) (by omega) N
    have hol : (vldsN 1 (l.take j)).length = j := by rw [vldsN_length, List.length_take]; omega
    generalize l.getD j Vld0 = w at *
    have hset := set_here (x := .agg [.sl 2 0 w.key.length w.key.length, .int .i64 w.power]) (z := vldZ) (n := (l.map vldA).length) hol (by omega)
    have hin : 0 + ((j : Int)).toNat < (vldsN 1 (l.take j) ++ List.replicate ((l.map vldA).length - j) vldZ).length := by
      simp only [List.length_append, List.length_replicate, hol]; omega
    have i1 : (0 : Int) ≤ (j : Int) ∧ (j : Int) < ((l.map vldA).length : Int) := by omega
    repeat' (first | refine T_seq ?_ | refine N_then ?_ | refine N_block ?_ | refine T_regX tyOk ?_ | refine S_nil ?_ | refine T_skip ?_ | refine T_block ?_ | (apply T_ifT; (· exact rfl); (· (first | assumption | exact rfl))) | apply S_move | apply S_assign | (apply S_loadVA; (· exact rfl); (· exact gt_any rfl); (· exact rfl); (· exact rfl)) | apply S_lss | apply S_add | (apply S_len_ls; (· exact rfl); (· exact gt_any rfl)) | (apply S_idxLs; (· exact rfl); (· exact rfl); (· exact gt_any rfl); (· exact gt_any rfl)) | (apply S_idxSl; (· exact rfl); (· exact rfl); (· exact gt_any rfl); (· exact rfl); (· exact gt_any rfl)) | (apply S_storeE; (· exact rfl); (· exact gt_any rfl); (· exact rfl); (· exact rfl); (· exact rfl)) | apply S_callI (f := 191) | apply c0 | exact viewL_nil | apply viewL_cons | (apply View.pure; exact PureC.out) | exact OwnC.out | exact ownB_nil | (apply ownB_boxM; (· (apply mlen; first | exact rfl | assumption | exact Nat.le_of_ble_eq_true rfl | omega | (simp [bA_length]; done) | (simp [bA_length]; omega))); (· exact OwnEC.out)) | exact gt_any rfl | exact gts_nil | (apply gts_cons; (· exact gt_any rfl)) | exact okCells_of rfl rfl | assumption | exact rfl | fail)
    refine N_againS (j + 1) (sub_catD (bx' := [(0, some ⟨vldsN 1 (l.take (j + 1)) ++ List.replicate ((l.map vldA).length - (j + 1)) vldZ, 2, false, false⟩)]) 1 2 (Nat.zero_le _) (by decide) rfl rfl (catX_pure (pureB_bA _)) (catX_pure (pureB_bA _)) (by repeat' (first | exact catE_nil | (apply catE_cons; (· exact rfl)) | (apply Cat.pure; (first | exact PureC.out | exact PureLC.out | assumption)) | (apply Cat.sl0; decide) | (apply Cat.ptr0; decide) | apply cat_agg | exact catL_nil | apply catL_cons)) (catB_cons (by decide) (by decide) rfl ?_ catB_nil) hfl rfl (by repeat' (first | exact lowE_nil | apply lowE_cons | exact Low.sl _ _ _ _ (by decide) | exact Low.ptr _ _ _ (by decide) | (apply Low.pure; (first | exact PureC.out | exact PureLC.out | assumption)) | exact lowL_nil | apply lowL_cons | apply low_agg | apply low_tup)) ?_ rfl (Nat.zero_le _)) (by omega) (by omega)
    · rw [htk]
      first | exact hset ▸ vlds_catZ hM (pureB_vldZ _) | (rw [hset]; exact vlds_catZ hM (pureB_vldZ _))
    · exact lowBs_cons (PureB.low (pureB_bA _) _) (lowBs_cons (lowX_app (lw_vlds _ _ (by decide)) (PureB.low (pureB_vldZ _) _)) lowBs_nil)
  · have hc : decide ((j : Int) < ((l.map vldA).length : Int)) = false := by simp only [decide_eq_false_iff_not]; omega
    obtain rfl : j = l.length := by omega
    have e1 : l.take l.length = l := List.take_length
    have e2 : (l.map vldA).length - l.length = 0 := by omega
    rw [e1, e2, List.replicate_zero, List.append_nil]
    repeat' (first | refine T_seq ?_ | refine N_then ?_ | refine N_thenE ?_ | refine N_blockE ?_ | refine N_againSE ?_ | refine T_regX tyOk ?_ | refine S_nil ?_ | refine T_ret ?_ | refine T_exit ?_ | (apply T_ifF; (· exact rfl); (· (first | assumption | exact rfl))) | apply S_move | apply S_assign | apply S_lss | (apply S_len_ls; (· exact rfl); (· exact gt_any rfl)) | exact gt_any rfl | exact rfl | fail)
    rw [hl]
    (apply E_U0 [(0, 1), (1, 0)] <;> repeat' (first | exact resL_nil | (apply resL_tmp; (· exact rfl)) | (apply resL_cell; (· exact rfl); (· exact rfl); (· exact rfl); (· exact rfl); (· exact rfl); (· exact rfl)) | (apply resL_arr; (· exact rfl); (· exact rfl); (· exact rfl); (· exact rfl); (· (first | assumption | exact rfl))) | exact Ren.sl _ _ _ _ | (apply ren_slE; (· first | exact rfl | omega); (· first | exact rfl | assumption | (simp [bA_length]; done) | (simp [bA_length]; omega)); (· first | exact rfl | assumption | (simp [bA_length]; done) | (simp [bA_length]; omega))) | exact Ren.ptr _ _ _ | exact renL_nil | apply renL_cons | (apply Ren.pure; exact PureC.out) | apply ren_agg | apply ren_tup | exact Low.sl _ _ _ _ (by decide) | exact Low.ptr _ _ _ (by decide) | exact lowL_nil | apply lowL_cons | (apply Low.pure; exact PureC.out) | apply low_agg | apply low_tup | exact pullB_nil | (apply pullB_pureE; (· exact rfl); (· first | exact rfl | assumption | (simp [bA]; done)); (· exact PureEC.out)) | (apply pullB_one; (· exact rfl)) | exact lowBs_nil | apply lowBs_cons | (apply PureB.low; exact PureEC.out) | apply lowX_one | exact lowX_nil | (apply pullB_list; (· exact rfl)) | exact renEL_nil | apply renEL_cons | apply lowX_cons | exact outsN_ren _ _ _ _ | exact outsN_low _ _ _ (by decide) | exact rn_vlds _ _ _ | exact lw_vlds _ _ (by decide) | exact rfl))

theorem toVlds_cr (l : List Vld) (h : listW VldW l ≤ 1048576) (N : Nat) : CR Try.prog 138 [vldAS l] [] N (Is (.sl (N + 1) 0 l.length l.length) [(N, some ⟨bA (l.map Vld.key).flatten, 1, true, false⟩), (N + 1, some ⟨vldsN N l, 2, false, false⟩)] (N + 2)) :=
  CR.allN (toVlds_cr0 l h) N (by first | exact PureC.out | exact PureLC.out | assumption) (by repeat' (first | exact Ren.sl _ _ _ _ | exact Ren.ptr _ _ _ | exact renL_nil | apply renL_cons | (apply Ren.pure; (first | exact PureC.out | exact PureLC.out | assumption)) | apply ren_agg | apply ren_tup)) (by repeat' (first | exact renBs_nil | (apply renBs_pure; (· exact rfl); (· (exact PureEC.out))) | (apply renBs_one; (· exact rfl)) | exact renL_nil | apply renL_cons | exact Ren.sl _ _ _ _ | exact Ren.ptr _ _ _ | (apply Ren.pure; (first | exact PureC.out | exact PureLC.out | assumption)) | apply ren_agg | (apply renBs_list; (· exact rfl)) | exact outsN_ren _ _ _ _ | exact rn_vlds _ _ _))

def VldOk (L : Nat) (x : AV) : Prop := ∃ (o m : Nat) (p : Int), x = .agg [.sl 0 o m m, .int .i64 p] ∧ o + m ≤ L

theorem markVlds_cp (n : Nat) (D : List UInt8) (H : List AV) (k : Int) (sl sl' : Bool) (hH : H.length = n) (hs : ∀ x ∈ H, VldOk D.length x) (hn : n ≤ 1048576) (hD : D.length ≤ 1048576) (h0 : 0 ≤ k) (h1 : k ≤ 1000000000000000) :
    CR Try.prog 152 [.sl 1 0 n n, .int .i64 k] [(0, some ⟨bA D, 1, sl, false⟩), (1, some ⟨H, 2, sl', false⟩)] 2 (fun r _ _ => ∃ k' : Int, r = .int .i64 k' ∧ k ≤ k' ∧ k' ≤ k + n * 2097152) := by
  refine CR_intro tyOk Try.func152 (by kernel_rfl) rfl 27 rfl (by simp) [.tmp 4] rfl ?_
  intro w0 ok0 wr φ0
  repeat' (first | refine T_seq ?_ | refine N_then ?_ | refine T_regX tyOk ?_ | refine S_nil ?_ | refine T_block ?_ | apply S_assign | exact gt_any rfl | exact rfl | fail)
  refine T_roundsS (α := Nat × Int × List UInt8 × List AV) (fun x => ⟨[(0, .sl 1 0 n n), (1, .int .i64 x.2.1), (5, .int .i64 x.1)], [(0, some ⟨bA x.2.2.1, 1, sl, false⟩), (1, some ⟨x.2.2.2, 2, sl', false⟩)], 2⟩)
    (fun x => n - x.1) (fun x => x.1 ≤ n ∧ x.2.2.1.length = D.length ∧ x.2.2.2.length = n ∧ (∀ y ∈ x.2.2.2, VldOk D.length y) ∧ k ≤ x.2.1 ∧ x.2.1 ≤ k + x.1 * 2097152) (0, k, D, H) ((weak_of (by repeat' (first | exact keepE_nil | refine keepE_cons rfl ?_)) (by repeat' (first | exact keepB_nil | refine keepB_cons (by first | rfl | exact congrArg (fun l => some (Box.mk l _ _ _)) hset) ?_)) (Nat.le_refl _))).sub ⟨Nat.zero_le _, rfl, hH, hs, Int.le_refl _, by simp⟩ ?_
  rintro ⟨j, q, D', H'⟩ ⟨hj, hD', hH', hs', hq1, hq2⟩
  simp only at hj hD' hH' hs' hq1 hq2 ⊢
  by_cases hjl : j < n
  · have hc : decide ((j : Int) < (n : Int)) = true := by simp only [decide_eq_true_eq]; omega
    have hw1 : IntKind.wrap .i64 ((j : Int) + 1) = ((j + 1 : Nat) : Int) := by rw [wrap_i64 (by omega) (by omega)]; omega
    obtain ⟨y, hy⟩ : ∃ y, H'[j]? = some y := ⟨_, List.getElem?_eq_getElem (by omega)⟩
    obtain ⟨o, m, p, rfl, hom⟩ := hs' y (List.mem_of_getElem? hy)
    have hE : H'[0 + ((j : Int)).toNat]? = some (.agg [.sl 0 o m m, .int .i64 p]) := by rw [Nat.zero_add, Int.toNat_natCast]; exact hy
    have c0 := fun (id N : Nat) (hid : id < N) => markPart_at D' o m q sl (by omega) (by omega) (by omega) (by omega) id N hid
    have hw2 : IntKind.wrap .i64 (q + (m : Int)) = q + (m : Int) := wrap_i64 (by omega) (by omega)
    have hw3 : IntKind.wrap .i64 (q + (m : Int) + 1) = q + (m : Int) + 1 := wrap_i64 (by omega) (by omega)
    have hpl : (putB D' o m q).length = D.length := by rw [putB_length (by omega)]; exact hD'
    repeat' (first | refine T_seq ?_ | refine N_then ?_ | refine N_block ?_ | refine T_regX tyOk ?_ | refine S_nil ?_ | refine T_skip ?_ | refine T_block ?_ | (apply M_loadP; (· exact rfl); (· exact gt_any rfl); (· exact rfl); (· (repeat' (first | assumption | apply get_set_same))); (· exact rfl); (· (first | exact ⟨rfl, rfl⟩ | exact ⟨rfl, trivial⟩ | assumption))) | (apply M_storeP; (· exact rfl); (· exact gt_any rfl); (· exact rfl); (· (repeat' (first | assumption | apply get_set_same))); (· exact rfl); (· exact rfl); (· exact rfl); (· exact gt_any rfl); (· exact rfl); (· exact rfl); (· (repeat' constructor))) | (apply T_ifT; (· exact rfl); (· (first | assumption | exact rfl))) | apply S_move | apply S_assign | (apply S_fieldP; (· exact rfl); (· exact rfl); (· exact rfl); (· exact rfl); (· exact gt_any rfl)) | apply S_lss | apply S_add | (apply S_len_sl; (· exact rfl); (· exact gt_any rfl)) | (apply S_idxSl; (· exact rfl); (· exact rfl); (· exact gt_any rfl); (· exact rfl); (· exact gt_any rfl)) | (apply S_callL ([0]) (f := 93); (· repeat' (first | exact gts_nil | exact gt_any rfl | apply gts_cons)); (· exact rfl); (· (apply c0) <;> first | assumption | decide | omega)) | exact gt_any rfl | assumption | (refine ⟨?_, ?_⟩ <;> omega) | exact rfl | fail)
    refine N_againS (j + 1, q + (m : Int) + 1, putB D' o m q, H'.set (0 + ((j : Int)).toNat) (.agg [.sl 0 o m m, .int .i64 (q + (m : Int))])) ((weak_of (by repeat' (first | exact keepE_nil | refine keepE_cons rfl ?_)) (by repeat' (first | exact keepB_nil | refine keepB_cons (by first | rfl | exact congrArg (fun l => some (Box.mk l _ _ _)) hset) ?_)) (Nat.le_refl _))).sub ⟨by omega, hpl, by simpa using hH', fun y hy => ?_, by dsimp only; omega, by dsimp only; omega⟩ (by dsimp only; omega)
    rcases List.mem_or_eq_of_mem_set hy with h | h
    · exact hs' y h
    · exact ⟨o, m, _, h, hom⟩
  · have hc : decide ((j : Int) < (n : Int)) = false := by simp only [decide_eq_false_iff_not]; omega
    obtain rfl : j = n := by omega
    repeat' (first | refine T_seq ?_ | refine N_then ?_ | refine N_thenE ?_ | refine N_blockE ?_ | refine N_againSE ?_ | refine T_regX tyOk ?_ | refine S_nil ?_ | refine T_ret ?_ | refine T_exit ?_ | (apply T_ifF; (· exact rfl); (· (first | assumption | exact rfl))) | apply S_move | apply S_assign | apply S_lss | (apply S_len_sl; (· exact rfl); (· exact gt_any rfl)) | exact gt_any rfl | exact rfl | fail)
    (apply E_Ex; (· repeat' (first | exact resL_nil | (apply resL_tmp; (· exact rfl)) | (apply resL_cell; (· exact rfl); (· exact rfl); (· exact rfl); (· exact rfl); (· exact rfl); (· exact rfl)) | (apply resL_arr; (· exact rfl); (· exact rfl); (· exact rfl); (· exact rfl); (· (first | assumption | exact rfl))) | exact rfl)); (· exact ⟨_, rfl, by omega, by omega⟩))

theorem vlds_ok (l : List Vld) : ∀ x ∈ vldsN 0 l, VldOk (l.map Vld.key).flatten.length x := fun x hx => by
  obtain ⟨v, c, d, _, rfl, _, h2, _, _⟩ := laidN_mem hx
  rw [keys_sum] at h2
  exact ⟨c, v.key.length, v.power, rfl, by omega⟩
theorem markVlds_sp (l : List Vld) (k : Int) (sl sl' : Bool) (h : listW VldW l ≤ 1048576) (h0 : 0 ≤ k) (h1 : k ≤ 1000000000000000) :
    CR Try.prog 152 [.sl 1 0 l.length l.length, .int .i64 k] [(0, some ⟨bA (l.map Vld.key).flatten, 1, sl, false⟩), (1, some ⟨vldsN 0 l, 2, sl', false⟩)] 2 (Spent k (k + 2199023255552) 2) := by
  have hs := keys_sum l
  have hw : listW VldW l = l.length + (l.map fun v : Vld => v.key.length).sum := rfl
  exact CR.spend (markVlds_cp l.length (l.map Vld.key).flatten (vldsN 0 l) k sl sl' (vldsN_length _ _) (vlds_ok l) (by omega) (by omega) h0 h1) (fun r b n ⟨k', e, h2, h3⟩ => ⟨k', e, h2, by omega⟩) h0
theorem markVlds_at (l : List Vld) (k : Int) (sl sl' : Bool) (h : listW VldW l ≤ 1048576) (h0 : 0 ≤ k) (h1 : k ≤ 1000000000000000) (i j N : Nat) (hi : i < N) (hj : j < N) (hij : i ≠ j) :
    CR Try.prog 152 [.sl j 0 l.length l.length, .int .i64 k] [(i, some ⟨bA (l.map Vld.key).flatten, 1, sl, false⟩), (j, some ⟨vldsN i l, 2, sl', false⟩)] N (Spent k (k + 2199023255552) N) :=
  (CR.spentI (markVlds_sp l k sl sl' h h0 h1) [i, j] rfl (by simp [*] <;> omega) _ (by simp [*] <;> omega) (by repeat' (first | exact Ren.sl _ _ _ _ | exact Ren.ptr _ _ _ | exact renL_nil | apply renL_cons | (apply Ren.pure; exact PureC.out) | apply ren_agg | apply ren_tup | exact renBs_nil | (apply renBs_pure; (· exact rfl); (· exact PureEC.out)) | (apply renBs_one; (· exact rfl)) | (apply renBs_list; (· exact rfl)) | exact renEL_nil | apply renEL_cons | exact outsN_ren _ _ _ _ | exact rn_vlds _ _ _)) (by repeat' (first | exact Ren.sl _ _ _ _ | exact Ren.ptr _ _ _ | exact renL_nil | apply renL_cons | (apply Ren.pure; exact PureC.out) | apply ren_agg | apply ren_tup | exact renBs_nil | (apply renBs_pure; (· exact rfl); (· exact PureEC.out)) | (apply renBs_one; (· exact rfl)) | (apply renBs_list; (· exact rfl)) | exact renEL_nil | apply renEL_cons | exact outsN_ren _ _ _ _ | exact rn_vlds _ _ _)))

theorem markRows_sp (rows : List (List UInt8)) (k : Int) (sl sl' : Bool) (hb : rows.flatten.length ≤ 1048576) (hn : rows.length ≤ 1048576) (h0 : 0 ≤ k) (h1 : k ≤ 1000000000000000) :
    CR Try.prog 96 [.sl 1 0 rows.length rows.length, .int .i64 k] [(0, some ⟨bA rows.flatten, 1, sl, false⟩), (1, some ⟨outsN 0 0 (rows.map List.length), 1, sl', false⟩)] 2 (Spent k (k + 2199023255552) 2) :=
  CR.spend (markRows_cr rows k sl sl' (by omega) (by omega) h0 h1) (fun r b n ⟨e1, _, _⟩ => ⟨_, e1, by omega, by omega⟩) h0
theorem markRowsX_at (rows : List (List UInt8)) (k : Int) (sl sl' : Bool) (hb : rows.flatten.length ≤ 1048576) (hn : rows.length ≤ 1048576) (h0 : 0 ≤ k) (h1 : k ≤ 1000000000000000) (i j N : Nat) (hi : i < N) (hj : j < N) (hij : i ≠ j) :
    CR Try.prog 96 [.sl j 0 rows.length rows.length, .int .i64 k] [(i, some ⟨bA rows.flatten, 1, sl, false⟩), (j, some ⟨outsN i 0 (rows.map List.length), 1, sl', false⟩)] N (Spent k (k + 2199023255552) N) :=
  (CR.spentI (markRows_sp rows k sl sl' hb hn h0 h1) [i, j] rfl (by simp [*] <;> omega) _ (by simp [*] <;> omega) (by repeat' (first | exact Ren.sl _ _ _ _ | exact Ren.ptr _ _ _ | exact renL_nil | apply renL_cons | (apply Ren.pure; exact PureC.out) | apply ren_agg | apply ren_tup | exact renBs_nil | (apply renBs_pure; (· exact rfl); (· exact PureEC.out)) | (apply renBs_one; (· exact rfl)) | (apply renBs_list; (· exact rfl)) | exact renEL_nil | apply renEL_cons | exact outsN_ren _ _ _ _ | exact rn_vlds _ _ _)) (by repeat' (first | exact Ren.sl _ _ _ _ | exact Ren.ptr _ _ _ | exact renL_nil | apply renL_cons | (apply Ren.pure; exact PureC.out) | apply ren_agg | apply ren_tup | exact renBs_nil | (apply renBs_pure; (· exact rfl); (· exact PureEC.out)) | (apply renBs_one; (· exact rfl)) | (apply renBs_list; (· exact rfl)) | exact renEL_nil | apply renEL_cons | exact outsN_ren _ _ _ _ | exact rn_vlds _ _ _)))

end Go.Proofs.Ythfikpgbddpmoaa
