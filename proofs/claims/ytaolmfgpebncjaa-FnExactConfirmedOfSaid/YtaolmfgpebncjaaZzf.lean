/- Confirmed heads: how both sides tell them. -/
import Derived.Test.YtaolmfgpebncjaaZze
set_option maxRecDepth 100000
set_option maxHeartbeats 3200000
set_option linter.unusedSimpArgs false
set_option linter.unusedVariables false
namespace Go.Proofs.Ytaolmfgpebncjaa
open Go.Av
attribute [local irreducible] T thenQ blockQ againQ againS WX retV retR Gt Gts GtsP okCells CV CR Av.Pure
attribute [local irreducible] sha zerosL lz8 hdD hdFault zerosN hardF firstB wayD chainL bestUp wtL joinF cliFault bestL

theorem delete_at (g : Nat) (cs1 cs2 : List AV) (n1 n2 : Nat) (l : List Nat) (p : Nat → Bool) [PureLC cs1] [PureLC cs2] [CellsC cs1] [CellsC cs2] (hl : l.length ≤ 1000000) (hc : ∀ x ∈ l, CV Try.prog g [natA x, .vp cs1, .vp cs2] (· = .bool (p x)))
    (i j k N : Nat) (hi : i < N) (hj : j < N) (hk : k < N) (hij : i ≠ j) (hik : i ≠ k) (hjk : j ≠ k) :
    CR Try.prog 115 [.sl i 0 l.length l.length, .fn g [.ptr j 0 0, .ptr k 0 0]] [(i, some ⟨l.map natA, 1, true, false⟩), (j, some ⟨[.agg cs1], n1, false, false⟩), (k, some ⟨[.agg cs2], n2, false, false⟩)] N
      (Is (.sl i 0 (keptL p l).length l.length) [(i, some ⟨(keptL p l).map natA ++ List.replicate (l.length - (keptL p l).length) (natA 0), 1, true, false⟩), (j, some ⟨[.agg cs1], n1, false, false⟩), (k, some ⟨[.agg cs2], n2, false, false⟩)] N) :=
  (CR.toI (delete_cr g cs1 cs2 n1 n2 l p hl hc) [i, j, k] rfl (by simp [*] <;> omega) _ (by simp [*] <;> omega) (by repeat' (first | exact Ren.sl _ _ _ _ | exact Ren.ptr _ _ _ | exact renL_nil | apply renL_cons | (apply Ren.pure; exact PureC.out) | apply ren_agg | apply ren_tup | apply ren_fn | exact renBs_nil | (apply renBs_pure; (· exact rfl); (· exact PureEC.out)) | (apply renBs_one; (· exact rfl)))) (by repeat' (first | exact Ren.sl _ _ _ _ | exact Ren.ptr _ _ _ | exact renL_nil | apply renL_cons | (apply Ren.pure; exact PureC.out) | apply ren_agg | apply ren_tup | apply ren_fn | exact renBs_nil | (apply renBs_pure; (· exact rfl); (· exact PureEC.out)) | (apply renBs_one; (· exact rfl)))) (by omega) (by repeat' (first | exact Ren.sl _ _ _ _ | exact Ren.ptr _ _ _ | exact renL_nil | apply renL_cons | (apply Ren.pure; exact PureC.out) | apply ren_agg | apply ren_tup | apply ren_fn | exact renBs_nil | (apply renBs_pure; (· exact rfl); (· exact PureEC.out)) | (apply renBs_one; (· exact rfl)))) (by repeat' (first | exact Ren.sl _ _ _ _ | exact Ren.ptr _ _ _ | exact renL_nil | apply renL_cons | (apply Ren.pure; exact PureC.out) | apply ren_agg | apply ren_tup | apply ren_fn | exact renBs_nil | (apply renBs_pure; (· exact rfl); (· exact PureEC.out)) | (apply renBs_one; (· exact rfl)))))

theorem confirmed1_cv (c : Cli) (x : Hd) (j : Nat) (hj : j < c.heads.length) (hl : c.heads.length ≤ 1000000) (hx : hdFault x = 0) (hd : 1 ≤ c.depth ∧ c.depth ≤ 6) :
    CV Try.prog 116 [natA j, .vp (cliAC c), .vp (hdAC x)] (· = .bool (decide (x.height - c.depth < (headAt c.heads j).height))) := by
  refine CV_intro tyOk Try.func116 (by kernel_rfl) rfl 17 rfl (by simp) [.tmp 4] rfl ?_
  intro w0 ok0
  have hml : (c.heads.map hdA).length = c.heads.length := by simp
  have hget := map_getD hdA c.heads Hd0 (k := j) hj
  have eh : headAt c.heads j = c.heads.getD j Hd0 := rfl
  rw [← eh] at hget
  generalize headAt c.heads j = y at *
  have hz := (hd_zero hx).2.1
  have w1 : IntKind.wrap .i64 (x.height - c.depth) = x.height - c.depth := wrap_i64 (by omega) (by omega)
  repeat' (first | refine T_seq ?_ | refine N_then ?_ | refine T_regX tyOk ?_ | (apply T_drawAll tyOk mixed; (· kernel_rfl)) | refine S_nil ?_ | refine T_ret ?_ | (apply E_tmp; (· exact rfl); (· (repeat' (first | exact pure_int _ _ | exact pure_bool _ | exact pure_str _); done))) | apply S_move | apply S_assign | (apply S_loadV; (· exact rfl); (· exact gt_any rfl); (· exact rfl); (· (first | exact ⟨rfl, rfl⟩ | exact ⟨rfl, trivial⟩ | assumption))) | (apply S_fieldV; (· exact rfl); (· exact rfl); (· exact rfl); (· exact rfl); (· exact gt_any rfl)) | apply S_gtr | apply S_sub | (apply S_idxLs; (· exact rfl); (· exact rfl); (· exact gt_any rfl); (· exact gt_any rfl)) | exact gt_any rfl | assumption | (refine ⟨?_, ?_⟩ <;> omega) | exact rfl | fail)

theorem confirmed_cr0 (c : Cli) (h : cliFault c = 0) : CR Try.prog 73 [cliA c] [] 0 (Is (.sl 0 0 (confL c).length (mainL c.heads).length) [(0, some ⟨(confL c).map natA ++ List.replicate ((mainL c.heads).length - (confL c).length) (natA 0), 1, true, false⟩)] (0 + 1)) := by
  refine CR_introU tyOk Try.func73 (by kernel_rfl) rfl 20 rfl (by simp) [.tmp 2] rfl ?_
  intro w0 ok0 wr φ0
  obtain ⟨hdep, h1, h2, hJ⟩ := cliFault_zero h
  have hb := bestL_lt h1
  have hx := hJ.1 _ (getD_mem c.heads Hd0 hb)
  have c0 := fun N => main_cr c h N
  have hml : (c.heads.map hdA).length = c.heads.length := by simp
  have hr : mainL c.heads = (wayD c.heads (bestL c.heads)).tail.reverse ++ [bestL c.heads] := wayD_rev c.heads hb
  have hwl := wayD_le c.heads hb
  have hL : (mainL c.heads).length = (wayD c.heads (bestL c.heads)).length := by unfold mainL; rw [List.length_reverse]
  have hlen : (mainL c.heads).length = (wayD c.heads (bestL c.heads)).tail.reverse.length + 1 := by rw [hr]; simp
  have hlen2 : (wayD c.heads (bestL c.heads)).tail.reverse.length ≤ 100 := by omega
  have hgt : ((mainL c.heads).map natA)[0 + (((wayD c.heads (bestL c.heads)).tail.reverse.length : Nat) : Int).toNat]? = some (natA (bestL c.heads)) := by
    rw [hr, Nat.zero_add, Int.toNat_natCast, List.map_append, List.getElem?_append_right (by simp)]
    simp
  have hget := map_getD hdA c.heads Hd0 (k := bestL c.heads) hb
  have eh : headAt c.heads (bestL c.heads) = c.heads.getD (bestL c.heads) Hd0 := rfl
  rw [← eh] at hget hx
  have hc1 : ∀ j ∈ mainL c.heads, CV Try.prog 116 [natA j, .vp (cliAC c), .vp (hdAC (headAt c.heads (bestL c.heads)))] (· = .bool (confP c j)) := fun j hj => confirmed1_cv c _ j (mainL_mem h1 hj) (by omega) hx hdep
  have c1 := fun (i j k N : Nat) hi hj hk hij hik hjk => delete_at 116 (cliAC c) (hdAC (headAt c.heads (bestL c.heads))) 2 6 (mainL c.heads) (confP c) (by omega) hc1 i j k N hi hj hk hij hik hjk
  have hcf : keptL (confP c) (mainL c.heads) = confL c := rfl
  rw [hcf] at c1
  rw [← hL] at c0
  generalize confL c = cf at *
  generalize mainL c.heads = M at *
  generalize (wayD c.heads (bestL c.heads)).tail.reverse.length = m at *
  generalize headAt c.heads (bestL c.heads) = x at *
  have w1 : IntKind.wrap .i64 ((M.length : Int) - 1) = (m : Int) := by rw [hlen, wrap_i64 (by omega) (by omega)]; omega
  have hin : 0 ≤ (m : Int) ∧ (m : Int) < (M.length : Int) := by omega
  repeat' (first | refine T_seq ?_ | refine N_then ?_ | refine T_regX tyOk ?_ | (apply T_drawQ (id := 2) 11 [10] tyOk mixed; (· exact rfl); (· exact rfl); (· exact rfl); (· kernel_rfl); (· kernel_rfl); (· exact Nat.le_of_ble_eq_true rfl)) | refine S_nil ?_ | refine T_ret ?_ | (apply M_loadP; (· exact rfl); (· exact gt_any rfl); (· exact rfl); (· (repeat' (first | assumption | apply get_set_same))); (· exact rfl); (· (first | exact ⟨rfl, rfl⟩ | exact ⟨rfl, trivial⟩ | assumption))) | apply S_move | apply S_assign | (apply S_loadP; (· exact rfl); (· exact gt_any rfl); (· exact rfl); (· exact rfl); (· exact rfl); (· (first | exact ⟨rfl, rfl⟩ | exact ⟨rfl, trivial⟩ | assumption))) | (apply S_loadW; (· exact rfl); (· exact gt_any rfl); (· exact rfl); (· exact rfl); (· exact rfl); (· exact rfl); (· exact rfl); (· exact rfl)) | (apply S_loadVA; (· exact rfl); (· exact gt_any rfl); (· exact rfl); (· exact rfl)) | (apply S_fieldP; (· exact rfl); (· exact rfl); (· exact rfl); (· exact rfl); (· exact gt_any rfl)) | apply S_sub | (apply S_len_sl; (· exact rfl); (· exact gt_any rfl)) | apply S_box | (apply S_store1; (· exact rfl); (· exact gt_any rfl); (· exact rfl); (· exact rfl); (· exact rfl); (· exact rfl)) | (apply S_idxLs; (· exact rfl); (· exact rfl); (· exact gt_any rfl); (· exact gt_any rfl)) | (apply S_idxSl; (· exact rfl); (· exact rfl); (· exact gt_any rfl); (· exact rfl); (· exact gt_any rfl)) | apply S_mkfn | (apply L_alloc tyOk; (· exact rfl); (· exact rfl); (· (first | exact okCells_of rfl rfl | assumption)); (· exact rfl); (· exact rfl)) | apply S_callI (f := 71) | apply c0 | (apply S_callL ([1, 0, 2]) (f := 115); (· repeat' (first | exact gts_nil | exact gt_any rfl | apply gts_cons)); (· exact rfl); (· (apply c1) <;> first | assumption | decide | omega)) | exact viewL_nil | apply viewL_cons | (apply View.pure; exact PureC.out) | exact OwnC.out | exact ownB_nil | (apply ownB_boxM; (· (apply mlen; first | exact rfl | assumption | exact Nat.le_of_ble_eq_true rfl | omega | (simp [bA_length]; done) | (simp [bA_length]; omega))); (· exact OwnEC.out)) | exact gt_any rfl | exact gts_nil | (apply gts_cons; (· exact gt_any rfl)) | exact okCells_of rfl rfl | assumption | (refine ⟨?_, ?_⟩ <;> omega) | exact rfl | fail)
  (apply E_U0 [(0, 1)] <;> repeat' (first | exact resL_nil | (apply resL_tmp; (· exact rfl)) | (apply resL_cell; (· exact rfl); (· exact rfl); (· exact rfl); (· exact rfl); (· exact rfl); (· exact rfl)) | (apply resL_arr; (· exact rfl); (· exact rfl); (· exact rfl); (· exact rfl); (· (first | assumption | exact rfl))) | exact Ren.sl _ _ _ _ | (apply ren_slE; (· first | exact rfl | omega); (· first | exact rfl | assumption | (simp [bA_length]; done) | (simp [bA_length]; omega)); (· first | exact rfl | assumption | (simp [bA_length]; done) | (simp [bA_length]; omega))) | exact Ren.ptr _ _ _ | exact renL_nil | apply renL_cons | (apply Ren.pure; exact PureC.out) | apply ren_agg | apply ren_tup | exact Low.sl _ _ _ _ (by decide) | exact Low.ptr _ _ _ (by decide) | exact lowL_nil | apply lowL_cons | (apply Low.pure; exact PureC.out) | apply low_agg | apply low_tup | exact pullB_nil | (apply pullB_pureE; (· exact rfl); (· first | exact rfl | assumption | (simp [bA]; done)); (· exact PureEC.out)) | (apply pullB_one; (· exact rfl)) | exact lowBs_nil | apply lowBs_cons | (apply PureB.low; exact PureEC.out) | apply lowX_one | exact lowX_nil | exact rfl))

theorem confirmed_cr (c : Cli) (h : cliFault c = 0) (N : Nat) : CR Try.prog 73 [cliA c] [] N (Is (.sl N 0 (confL c).length (mainL c.heads).length) [(N, some ⟨(confL c).map natA ++ List.replicate ((mainL c.heads).length - (confL c).length) (natA 0), 1, true, false⟩)] (N + 1)) :=
  CR.allN (confirmed_cr0 c h) N (by first | exact PureC.out | exact PureLC.out | assumption) (by repeat' (first | exact Ren.sl _ _ _ _ | exact Ren.ptr _ _ _ | exact renL_nil | apply renL_cons | (apply Ren.pure; (first | exact PureC.out | exact PureLC.out | assumption)) | apply ren_agg | apply ren_tup)) (by repeat' (first | exact renBs_nil | (apply renBs_pure; (· exact rfl); (· (exact PureEC.out))) | (apply renBs_one; (· exact rfl)) | exact renL_nil | apply renL_cons | exact Ren.sl _ _ _ _ | exact Ren.ptr _ _ _ | (apply Ren.pure; (first | exact PureC.out | exact PureLC.out | assumption)) | apply ren_agg))

theorem l6Confirmed_cr0 (c : Cli) (h : cliFault c = 0) : CR Try.prog 68 [.vp (cliAC c)] [] 0 (Is (.sl 0 0 (confL c).length (confL c).length) [(0, some ⟨(confL c).map natA, 1, true, false⟩)] (0 + 1)) := by
  refine CR_introU tyOk Try.func68 (by kernel_rfl) rfl 55 rfl (by simp) [.tmp 2] rfl ?_
  intro w0 ok0 wr φ0
  obtain ⟨hdep, h1, h2, hJ⟩ := cliFault_zero h
  have hb := bestL_lt h1
  have hx := hJ.1 _ (getD_mem c.heads Hd0 hb)
  have c0 : CV Try.prog 49 [.vp (cliAC c)] (· = natAS (mainL c.heads)) := CR.byVal (l6Main_cr c h 0) (by simp [mainL]) PureEC.out
  have hml : (c.heads.map hdA).length = c.heads.length := by simp
  have hr : mainL c.heads = (wayD c.heads (bestL c.heads)).tail.reverse ++ [bestL c.heads] := wayD_rev c.heads hb
  have hwl := wayD_le c.heads hb
  have hL : (mainL c.heads).length = (wayD c.heads (bestL c.heads)).length := by unfold mainL; rw [List.length_reverse]
  have hlen : (mainL c.heads).length = (wayD c.heads (bestL c.heads)).tail.reverse.length + 1 := by rw [hr]; simp
  have hlen2 : (wayD c.heads (bestL c.heads)).tail.reverse.length ≤ 100 := by omega
  have hlast : (mainL c.heads).getD ((wayD c.heads (bestL c.heads)).tail.reverse.length) 0 = bestL c.heads := by
    rw [hr, List.getD_eq_getElem?_getD, List.getElem?_append_right (Nat.le_refl _), Nat.sub_self]; rfl
  have hgt := map_getD natA (mainL c.heads) 0 (k := (wayD c.heads (bestL c.heads)).tail.reverse.length) (by omega)
  rw [hlast] at hgt
  have hget := map_getD hdA c.heads Hd0 (k := bestL c.heads) hb
  have eh : headAt c.heads (bestL c.heads) = c.heads.getD (bestL c.heads) Hd0 := rfl
  rw [← eh] at hget hx
  have hmem : ∀ j ∈ mainL c.heads, j < c.heads.length := fun j hj => mainL_mem h1 hj
  have hcf : confL c = keptL (fun j => decide ((headAt c.heads (bestL c.heads)).height - c.depth < (headAt c.heads j).height)) (mainL c.heads) := rfl
  rw [hcf]
  generalize mainL c.heads = M at *
  generalize (wayD c.heads (bestL c.heads)).tail.reverse.length = m at *
  generalize headAt c.heads (bestL c.heads) = x at *
  have hnl : (M.map natA).length = M.length := by simp
  have w1 : IntKind.wrap .i64 (((M.map natA).length : Int) - 1) = (m : Int) := by rw [hnl, hlen, wrap_i64 (by omega) (by omega)]; omega
  have hz := (hd_zero hx).2.1
  have w2 : IntKind.wrap .i64 (x.height - c.depth) = x.height - c.depth := wrap_i64 (by omega) (by omega)
  generalize hP : (fun j => decide (x.height - c.depth < (headAt c.heads j).height)) = p
  repeat' (first | refine T_seq ?_ | refine N_then ?_ | refine T_regX tyOk ?_ | (apply T_drawAll tyOk mixed; (· kernel_rfl)) | refine S_nil ?_ | refine T_block ?_ | apply S_move | apply S_assign | (apply S_loadV; (· exact rfl); (· exact gt_any rfl); (· exact rfl); (· (first | exact ⟨rfl, rfl⟩ | exact ⟨rfl, trivial⟩ | assumption))) | (apply S_fieldV; (· exact rfl); (· exact rfl); (· exact rfl); (· exact rfl); (· exact gt_any rfl)) | apply S_sub | (apply S_len_ls; (· exact rfl); (· exact gt_any rfl)) | (apply S_idxLs; (· exact rfl); (· exact rfl); (· exact gt_any rfl); (· exact gt_any rfl)) | (apply S_nilV; (· exact gt_any rfl)) | (apply S_buildL tyOk; (· exact rfl); (· exact rfl); (· exact rfl)) | apply S_call (f := 49) | apply c0 | exact PureLC.out | (dsimp only; omega) | exact gtsI_nil | exact elts_nil | exact gt_any rfl | exact gts_nil | (apply gts_cons; (· exact gt_any rfl)) | assumption | (refine ⟨?_, ?_⟩ <;> omega) | exact rfl | fail)
  refine T_roundsS (α := Nat) (fun k => ⟨[(0, .vp (cliAC c)), (3, natAS M), (4, .int .i64 x.height), (5, .sl 0 0 (keptL p (M.take k)).length (keptL p (M.take k)).length), (6, .int .i64 k)], [(0, some ⟨(keptL p (M.take k)).map natA, 1, true, false⟩)], 1⟩)
    (fun k => M.length - k) (fun k => k ≤ M.length) 0 ((weak_of (by repeat' (first | exact keepE_nil | refine keepE_cons rfl ?_)) (by repeat' (first | exact keepB_nil | refine keepB_cons (by first | rfl | exact congrArg (fun l => some (Box.mk l _ _ _)) hset) ?_)) (Nat.le_refl _))).sub (by omega) ?_
  intro k hk
  have hbl : ((keptL p (M.take k)).map natA).length = (keptL p (M.take k)).length := by simp
  have hkle := keptL_le p M k
  by_cases hkl : k < M.length
  · have d1 : decide ((k : Int) < ((M.map natA).length : Int)) = true := decide_eq_true (by omega)
    have hgk := map_getD natA M 0 (k := k) hkl
    have hj := hmem _ (getD_mem M 0 hkl)
    have htk := keptL_take p M hkl
    have hpj : p (M.getD k 0) = decide (x.height - c.depth < (headAt c.heads (M.getD k 0)).height) := by rw [← hP]
    generalize M.getD k 0 = j at *
    have hgj := map_getD hdA c.heads Hd0 (k := j) hj
    have ehj : headAt c.heads j = c.heads.getD j Hd0 := rfl
    rw [← ehj] at hgj
    generalize headAt c.heads j = y at *
    have hw : IntKind.wrap .i64 ((k : Int) + 1) = ((k + 1 : Nat) : Int) := by rw [wrap_i64 (by omega) (by omega)]; omega
    by_cases g : y.height ≤ x.height - c.depth
    · have d2 := decide_eq_true g
      have hpf : ¬ p j = true := by rw [hpj]; simp; omega
      rw [if_neg hpf] at htk
      have hn : (keptL p (M.take (k + 1))).length = (keptL p (M.take k)).length + 1 := by rw [htk]; simp
      have hset : (keptL p (M.take k)).map natA ++ [.int .i64 (j : Int)] = (keptL p (M.take (k + 1))).map natA := by rw [htk]; simp
      repeat' (first | refine T_seq ?_ | refine N_then ?_ | refine N_block ?_ | refine T_regX tyOk ?_ | (apply T_drawAll tyOk mixed; (· kernel_rfl)) | refine S_nil ?_ | refine T_skip ?_ | refine T_block ?_ | (apply T_ifT; (· exact rfl); (· (first | assumption | exact rfl))) | apply S_move | apply S_assign | (apply S_loadV; (· exact rfl); (· exact gt_any rfl); (· exact rfl); (· (first | exact ⟨rfl, rfl⟩ | exact ⟨rfl, trivial⟩ | assumption))) | (apply S_fieldV; (· exact rfl); (· exact rfl); (· exact rfl); (· exact rfl); (· exact gt_any rfl)) | apply S_lss | apply S_leq | apply S_add | apply S_sub | (apply S_len_ls; (· exact rfl); (· exact gt_any rfl)) | (apply S_idxLs; (· exact rfl); (· exact rfl); (· exact gt_any rfl); (· exact gt_any rfl)) | (apply S_nilV; (· exact gt_any rfl)) | (apply M_appB; (· exact rfl); (· exact rfl); (· exact gt_any rfl)) | (apply S_buildV tyOk; (· exact rfl); (· exact rfl)) | (apply mlen; first | exact rfl | assumption | exact Nat.le_of_ble_eq_true rfl | omega | (simp [bA_length]; done) | (simp [bA_length]; omega)) | (apply msz; first | assumption | exact Nat.le_of_ble_eq_true rfl | (dsimp only; simp only [List.length_append, List.length_map, List.length_cons, List.length_nil, bA_length, List.length_take, List.length_drop, List.length_replicate] at *; omega) | (dsimp only; omega)) | (apply mnorm; first | with_reducible exact app_nil0 _ | exact app_norm _ _ | exact rfl) | exact Src.ls rfl rfl | (dsimp only; omega) | exact gtsI_nil | (apply gtsI_cons; (· exact gt_any rfl)) | exact elts_nil | apply elts_cons | (intro hu; cases hu; done) | exact gt_any rfl | exact okCells_of rfl rfl | assumption | (refine ⟨?_, ?_⟩ <;> omega) | exact rfl | fail)
      refine N_againS (k + 1) ?_ (by omega) (by omega)
      rw [hn]
      exact (sub_names [(0, 1)] (k0 := 0) rfl (by rfl) (by repeat' (first | exact pullE_nil | (apply pullE_cons; (· exact rfl)) | exact Ren.sl _ _ _ _ | (apply ren_slE; (· first | exact rfl | omega); (· first | exact rfl | assumption | (simp [bA_length]; done) | (simp [bA_length]; omega)); (· first | exact rfl | assumption | (simp [bA_length]; done) | (simp [bA_length]; omega))) | exact Ren.ptr _ _ _ | (apply Ren.pure; (first | exact PureC.out | exact PureLC.out | assumption)) | exact renL_nil | apply renL_cons | apply ren_agg | apply ren_tup)) (by repeat' (first | exact pullB_nil | (apply pullB_pure; (· first | exact rfl | exact congrArg (fun l => some (Box.mk l _ _ _)) hset); (· (exact PureEC.out))) | (apply pullB_one; (· exact rfl)) | exact renL_nil | apply renL_cons | exact Ren.sl _ _ _ _ | exact Ren.ptr _ _ _ | (apply Ren.pure; (first | exact PureC.out | exact PureLC.out | assumption)) | apply ren_agg)) (by repeat' (first | exact lowE_nil | apply lowE_cons | exact Low.sl _ _ _ _ (by decide) | exact Low.ptr _ _ _ (by decide) | (apply Low.pure; (first | exact PureC.out | exact PureLC.out | assumption)) | exact lowL_nil | apply lowL_cons | apply low_agg | apply low_tup)) (by repeat' (first | exact lowBs_nil | apply lowBs_cons | (apply PureB.low; (exact PureEC.out)) | apply lowX_one | exact lowX_nil | exact lowL_nil | apply lowL_cons | exact Low.sl _ _ _ _ (by decide) | exact Low.ptr _ _ _ (by decide) | (apply Low.pure; (first | exact PureC.out | exact PureLC.out | assumption)))))
    · have d2 := decide_eq_false g
      have hpt : p j = true := by rw [hpj]; simp; omega
      rw [if_pos hpt, List.append_nil] at htk
      repeat' (first | refine T_seq ?_ | refine N_then ?_ | refine N_block ?_ | refine T_regX tyOk ?_ | (apply T_drawAll tyOk mixed; (· kernel_rfl)) | refine S_nil ?_ | refine T_skip ?_ | refine T_block ?_ | (apply T_ifT; (· exact rfl); (· (first | assumption | exact rfl))) | (apply T_ifF; (· exact rfl); (· (first | assumption | exact rfl))) | apply S_move | apply S_assign | (apply S_loadV; (· exact rfl); (· exact gt_any rfl); (· exact rfl); (· (first | exact ⟨rfl, rfl⟩ | exact ⟨rfl, trivial⟩ | assumption))) | (apply S_fieldV; (· exact rfl); (· exact rfl); (· exact rfl); (· exact rfl); (· exact gt_any rfl)) | apply S_lss | apply S_leq | apply S_add | apply S_sub | (apply S_len_ls; (· exact rfl); (· exact gt_any rfl)) | (apply S_idxLs; (· exact rfl); (· exact rfl); (· exact gt_any rfl); (· exact gt_any rfl)) | (apply S_nilV; (· exact gt_any rfl)) | exact gt_any rfl | assumption | (refine ⟨?_, ?_⟩ <;> omega) | exact rfl | fail)
      refine N_againS (k + 1) ?_ (by omega) (by omega)
      rw [htk]
      exact ((weak_of (by repeat' (first | exact keepE_nil | refine keepE_cons rfl ?_)) (by repeat' (first | exact keepB_nil | refine keepB_cons (by first | rfl | exact congrArg (fun l => some (Box.mk l _ _ _)) hset) ?_)) (Nat.le_refl _))).sub
  · have d1 : decide ((k : Int) < ((M.map natA).length : Int)) = false := decide_eq_false (by omega)
    obtain rfl : k = M.length := by omega
    rw [List.take_length]
    repeat' (first | refine T_seq ?_ | refine N_then ?_ | refine N_thenE ?_ | refine N_blockE ?_ | refine N_againSE ?_ | refine T_regX tyOk ?_ | refine S_nil ?_ | refine T_ret ?_ | refine T_exit ?_ | (apply T_ifF; (· exact rfl); (· (first | assumption | exact rfl))) | apply S_move | apply S_assign | apply S_lss | (apply S_len_ls; (· exact rfl); (· exact gt_any rfl)) | exact gt_any rfl | exact rfl | fail)
    (apply E_U0 [(0, 0)] <;> repeat' (first | exact resL_nil | (apply resL_tmp; (· exact rfl)) | (apply resL_cell; (· exact rfl); (· exact rfl); (· exact rfl); (· exact rfl); (· exact rfl); (· exact rfl)) | (apply resL_arr; (· exact rfl); (· exact rfl); (· exact rfl); (· exact rfl); (· (first | assumption | exact rfl))) | exact Ren.sl _ _ _ _ | (apply ren_slE; (· first | exact rfl | omega); (· first | exact rfl | assumption | (simp [bA_length]; done) | (simp [bA_length]; omega)); (· first | exact rfl | assumption | (simp [bA_length]; done) | (simp [bA_length]; omega))) | exact Ren.ptr _ _ _ | exact renL_nil | apply renL_cons | (apply Ren.pure; exact PureC.out) | apply ren_agg | apply ren_tup | exact Low.sl _ _ _ _ (by decide) | exact Low.ptr _ _ _ (by decide) | exact lowL_nil | apply lowL_cons | (apply Low.pure; exact PureC.out) | apply low_agg | apply low_tup | exact pullB_nil | (apply pullB_pureE; (· exact rfl); (· first | exact rfl | assumption | (simp [bA]; done)); (· exact PureEC.out)) | (apply pullB_one; (· exact rfl)) | exact lowBs_nil | apply lowBs_cons | (apply PureB.low; exact PureEC.out) | apply lowX_one | exact lowX_nil | exact rfl))

theorem l6Confirmed_cr (c : Cli) (h : cliFault c = 0) (N : Nat) : CR Try.prog 68 [.vp (cliAC c)] [] N (Is (.sl N 0 (confL c).length (confL c).length) [(N, some ⟨(confL c).map natA, 1, true, false⟩)] (N + 1)) :=
  CR.allN (l6Confirmed_cr0 c h) N (by first | exact PureC.out | exact PureLC.out | assumption) (by repeat' (first | exact Ren.sl _ _ _ _ | exact Ren.ptr _ _ _ | exact renL_nil | apply renL_cons | (apply Ren.pure; (first | exact PureC.out | exact PureLC.out | assumption)) | apply ren_agg | apply ren_tup)) (by repeat' (first | exact renBs_nil | (apply renBs_pure; (· exact rfl); (· (exact PureEC.out))) | (apply renBs_one; (· exact rfl)) | exact renL_nil | apply renL_cons | exact Ren.sl _ _ _ _ | exact Ren.ptr _ _ _ | (apply Ren.pure; (first | exact PureC.out | exact PureLC.out | assumption)) | apply ren_agg))

theorem l6Confirmed_cv (c : Cli) (h : cliFault c = 0) : CV Try.prog 68 [.vp (cliAC c)] (· = natAS (confL c)) := CR.byVal (l6Confirmed_cr c h 0) (by simp) PureEC.out

end Go.Proofs.Ytaolmfgpebncjaa
