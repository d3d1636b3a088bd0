/- Is a digest that of a confirmed head; did a fork break in deeper. -/
import Derived.Test.YtaolmfgpebncjaaZzf
set_option maxRecDepth 100000
set_option maxHeartbeats 3200000
set_option linter.unusedSimpArgs false
set_option linter.unusedVariables false
namespace Go.Proofs.Ytaolmfgpebncjaa
open Go.Av
attribute [local irreducible] T thenQ blockQ againQ againS WX retV retR Gt Gts GtsP okCells CV CR Av.Pure
attribute [local irreducible] sha zerosL lz8 hdD hdFault zerosN hardF firstB wayD chainL bestUp wtL joinF cliFault bestL confL mainL

theorem isConfirmed_cv (c : Cli) (d : List UInt8) (h : cliFault c = 0) : CV Try.prog 69 [cliA c, byA d] (· = .bool (isConfB c d)) := by
  refine CV_intro tyOk Try.func69 (by kernel_rfl) rfl 17 rfl (by simp) [.tmp 4] rfl ?_
  intro w0 ok0
  obtain ⟨hdep, h1, h2, hJ⟩ := cliFault_zero h
  have c0 := find_cv c d (by omega) hJ.1
  have c1 := confirmed_cv c h
  have hcl := confL_le c
  have hml := mainL_le h1
  have hpr := place_range (c.heads.map hdD) d
  unfold isConfB
  by_cases g : placeL (c.heads.map hdD) d < 0
  · have d0 : decide (0 ≤ placeL (c.heads.map hdD) d) = false := decide_eq_false (by omega)
    rw [d0, Bool.false_and]
    repeat' (first | refine T_seq ?_ | refine N_then ?_ | refine T_regX tyOk ?_ | refine S_nil ?_ | refine T_ret ?_ | (apply E_tmp; (· exact rfl); (· (repeat' (first | exact pure_int _ _ | exact pure_bool _ | exact pure_str _); done))) | (apply S_gtF'; (· exact rfl); (· exact rfl); (· exact rfl); (· (first | assumption | exact rfl))) | apply S_move | apply S_assign | (apply S_pickF; (· exact gt_any rfl); (· (first | assumption | exact rfl))) | (apply S_loadW; (· exact rfl); (· exact gt_any rfl); (· exact rfl); (· exact rfl); (· exact rfl); (· exact rfl); (· exact rfl); (· exact rfl)) | apply S_geq | apply S_box | apply S_callQ (f := 75) | apply c0 | exact viewL_nil | apply viewL_cons | (apply View.pure; exact PureC.out) | exact FlatC.out | exact gt_any rfl | exact gts_nil | (apply gts_cons; (· exact gt_any rfl)) | exact okCells_of rfl rfl | exact rfl | fail)
  · have d0 : decide (0 ≤ placeL (c.heads.map hdD) d) = true := decide_eq_true (by omega)
    rw [d0, Bool.true_and]
    obtain ⟨k, hk⟩ : ∃ k : Nat, placeL (c.heads.map hdD) d = (k : Int) := ⟨(placeL (c.heads.map hdD) d).toNat, by omega⟩
    rw [hk] at c0 d0 ⊢
    rw [Int.toNat_natCast]
    have c2 := containsInt_cv (confL c) k (by omega)
    repeat' (first | refine T_seq ?_ | refine N_then ?_ | refine T_regX tyOk ?_ | refine S_nil ?_ | refine T_ret ?_ | (apply E_tmp; (· exact rfl); (· (repeat' (first | exact pure_int _ _ | exact pure_bool _ | exact pure_str _); done))) | (apply S_gt; (· exact rfl); (· exact rfl); (· (first | assumption | exact rfl))) | apply S_move | apply S_assign | (apply S_pickT; (· exact gt_any rfl); (· (first | assumption | exact rfl))) | (apply S_loadW; (· exact rfl); (· exact gt_any rfl); (· exact rfl); (· exact rfl); (· exact rfl); (· exact rfl); (· exact rfl); (· exact rfl)) | apply S_geq | apply S_box | apply S_callQ (f := 75) | apply c0 | apply S_call (f := 73) | apply c1 | apply S_callQ (f := 77) | apply c2 | exact viewL_nil | apply viewL_cons | (apply View.pure; exact PureC.out) | exact FlatC.out | exact PureLC.out | exact gt_any rfl | exact gts_nil | (apply gts_cons; (· exact gt_any rfl)) | exact okCells_of rfl rfl | assumption | exact rfl | fail)

theorem implIsConfirmed_cv (c : Cli) (d : List UInt8) (hl : c.heads.length ≤ 1048576) : CV Try.prog 25 [cliA c, byA d] (· = .bool (isConfV c d)) := by
  refine CV_intro tyOk Try.func25 (by kernel_rfl) rfl 13 rfl (by simp) [.tmp 4] rfl ?_
  intro w0 ok0
  have c0 := cliFault_cv c hl
  unfold isConfV
  by_cases g : cliFault c = 0
  · have d0 : decide (cliFault c = 0) = true := decide_eq_true g
    rw [d0, Bool.true_and]
    have c1 := isConfirmed_cv c d g
    repeat' (first | refine T_seq ?_ | refine N_then ?_ | refine T_regX tyOk ?_ | refine S_nil ?_ | refine T_ret ?_ | (apply E_tmp; (· exact rfl); (· (repeat' (first | exact pure_int _ _ | exact pure_bool _ | exact pure_str _); done))) | (apply S_gt; (· exact rfl); (· exact rfl); (· (first | assumption | exact rfl))) | apply S_move | apply S_assign | (apply S_pickT; (· exact gt_any rfl); (· (first | assumption | exact rfl))) | (apply S_loadW; (· exact rfl); (· exact gt_any rfl); (· exact rfl); (· exact rfl); (· exact rfl); (· exact rfl); (· exact rfl); (· exact rfl)) | (apply S_eql; (· exact gt_any rfl); (· exact gt_any rfl)) | apply S_box | apply S_callQ (f := 13) | apply c0 | apply S_callQ (f := 69) | apply c1 | exact viewL_nil | apply viewL_cons | (apply View.pure; exact PureC.out) | exact FlatC.out | exact gt_any rfl | exact gts_nil | (apply gts_cons; (· exact gt_any rfl)) | exact okCells_of rfl rfl | exact rfl | fail)
  · have d0 : decide (cliFault c = 0) = false := decide_eq_false g
    rw [d0, Bool.false_and]
    repeat' (first | refine T_seq ?_ | refine N_then ?_ | refine T_regX tyOk ?_ | refine S_nil ?_ | refine T_ret ?_ | (apply E_tmp; (· exact rfl); (· (repeat' (first | exact pure_int _ _ | exact pure_bool _ | exact pure_str _); done))) | (apply S_gtF'; (· exact rfl); (· exact rfl); (· exact rfl); (· (first | assumption | exact rfl))) | apply S_move | apply S_assign | (apply S_pickF; (· exact gt_any rfl); (· (first | assumption | exact rfl))) | (apply S_loadW; (· exact rfl); (· exact gt_any rfl); (· exact rfl); (· exact rfl); (· exact rfl); (· exact rfl); (· exact rfl); (· exact rfl)) | (apply S_eql; (· exact gt_any rfl); (· exact gt_any rfl)) | apply S_box | apply S_callQ (f := 13) | apply c0 | exact viewL_nil | apply viewL_cons | (apply View.pure; exact PureC.out) | exact FlatC.out | exact gt_any rfl | exact gts_nil | (apply gts_cons; (· exact gt_any rfl)) | exact okCells_of rfl rfl | exact rfl | fail)

theorem digs_le {c : Cli} : ∀ w ∈ c.heads.map hdD, w.length ≤ 1000000 := fun w hw => by
  obtain ⟨y, _, rfl⟩ := List.mem_map.1 hw
  rw [hdD_length]; decide

theorem specIsConfirmed_cv (c : Cli) (d : List UInt8) (hl : c.heads.length ≤ 1048576) (hd : d.length ≤ 1048576) : CV Try.prog 23 [cliA c, byA d] (· = .bool (isConfV c d)) := by
  refine CV_intro tyOk Try.func23 (by kernel_rfl) rfl 21 rfl (by simp) [.tmp 4] rfl ?_
  intro w0 ok0
  have c0 := specCliFault_cv c hl
  unfold isConfV
  by_cases g : cliFault c = 0
  · have d0 : decide (cliFault c = 0) = true := decide_eq_true g
    have e0 : (!decide (cliFault c = 0)) = false := by rw [d0]; rfl
    rw [d0, Bool.true_and]
    obtain ⟨hdep, h1, h2, hJ⟩ := cliFault_zero g
    have cD := l6Digests_cv c.heads (by omega)
    rw [digOrs hJ.1] at cD
    have c1 := l5Place_cv (c.heads.map hdD) d (by rw [List.length_map]; omega) digs_le hd
    have c2 := l6Confirmed_cv c g
    have hcl := confL_le c
    have hml := mainL_le h1
    have hpr := place_range (c.heads.map hdD) d
    unfold isConfB
    by_cases g1 : placeL (c.heads.map hdD) d < 0
    · have d1 : decide (0 ≤ placeL (c.heads.map hdD) d) = false := decide_eq_false (by omega)
      rw [d1, Bool.false_and]
      repeat' (first | refine T_seq ?_ | refine N_then ?_ | refine T_regX tyOk ?_ | refine S_nil ?_ | refine T_skip ?_ | refine T_ret ?_ | (apply E_tmp; (· exact rfl); (· (repeat' (first | exact pure_int _ _ | exact pure_bool _ | exact pure_str _); done))) | (apply T_ifF; (· exact rfl); (· (first | assumption | exact rfl))) | (apply S_gtF'; (· exact rfl); (· exact rfl); (· exact rfl); (· (first | assumption | exact rfl))) | apply S_move | apply S_assign | (apply S_pickF; (· exact gt_any rfl); (· (first | assumption | exact rfl))) | (apply S_loadP; (· exact rfl); (· exact gt_any rfl); (· exact rfl); (· exact rfl); (· exact rfl); (· (first | exact ⟨rfl, rfl⟩ | exact ⟨rfl, trivial⟩ | assumption))) | (apply S_loadW; (· exact rfl); (· exact gt_any rfl); (· exact rfl); (· exact rfl); (· exact rfl); (· exact rfl); (· exact rfl); (· exact rfl)) | (apply S_fieldP; (· exact rfl); (· exact rfl); (· exact rfl); (· exact rfl); (· exact gt_any rfl)) | apply S_geq | (apply S_neq; (· exact gt_any rfl); (· exact gt_any rfl)) | apply S_box | apply S_callQ (f := 11) | apply c0 | apply S_call (f := 39) | apply cD | apply S_callQ (f := 66) | apply c1 | exact viewL_nil | apply viewL_cons | (apply View.pure; exact PureC.out) | exact FlatC.out | exact PureLC.out | exact gt_any rfl | exact gts_nil | (apply gts_cons; (· exact gt_any rfl)) | exact okCells_of rfl rfl | exact rfl | fail)
    · have d1 : decide (0 ≤ placeL (c.heads.map hdD) d) = true := decide_eq_true (by omega)
      rw [d1, Bool.true_and]
      obtain ⟨k, hk⟩ : ∃ k : Nat, placeL (c.heads.map hdD) d = (k : Int) := ⟨(placeL (c.heads.map hdD) d).toNat, by omega⟩
      rw [hk] at c1 d1 ⊢
      rw [Int.toNat_natCast]
      have c3 := l1Has_cv (confL c) k (by omega)
      repeat' (first | refine T_seq ?_ | refine N_then ?_ | refine T_regX tyOk ?_ | refine S_nil ?_ | refine T_skip ?_ | refine T_ret ?_ | (apply E_tmp; (· exact rfl); (· (repeat' (first | exact pure_int _ _ | exact pure_bool _ | exact pure_str _); done))) | (apply T_ifF; (· exact rfl); (· (first | assumption | exact rfl))) | (apply S_gt; (· exact rfl); (· exact rfl); (· (first | assumption | exact rfl))) | apply S_move | apply S_assign | (apply S_pickT; (· exact gt_any rfl); (· (first | assumption | exact rfl))) | (apply S_loadP; (· exact rfl); (· exact gt_any rfl); (· exact rfl); (· exact rfl); (· exact rfl); (· (first | exact ⟨rfl, rfl⟩ | exact ⟨rfl, trivial⟩ | assumption))) | (apply S_loadW; (· exact rfl); (· exact gt_any rfl); (· exact rfl); (· exact rfl); (· exact rfl); (· exact rfl); (· exact rfl); (· exact rfl)) | (apply S_fieldP; (· exact rfl); (· exact rfl); (· exact rfl); (· exact rfl); (· exact gt_any rfl)) | apply S_geq | (apply S_neq; (· exact gt_any rfl); (· exact gt_any rfl)) | apply S_box | apply S_callQ (f := 11) | apply c0 | apply S_call (f := 39) | apply cD | apply S_callQ (f := 66) | apply c1 | apply S_callW (f := 68) | apply c2 | apply S_callQ (f := 67) | apply c3 | exact viewL_nil | apply viewL_cons | (apply View.pure; exact PureC.out) | (apply view_ptr; (· exact rfl); (· exact rfl)) | exact FlatC.out | exact PureLC.out | exact gt_any rfl | exact gts_nil | (apply gts_cons; (· exact gt_any rfl)) | exact okCells_of rfl rfl | assumption | exact rfl | fail)
  · have d0 : decide (cliFault c = 0) = false := decide_eq_false g
    have e0 : (!decide (cliFault c = 0)) = true := by rw [d0]; rfl
    rw [d0, Bool.false_and]
    repeat' (first | refine T_seq ?_ | refine N_then ?_ | refine N_thenR ?_ | refine T_regX tyOk ?_ | refine S_nil ?_ | refine T_ret ?_ | (apply E_tmp; (· exact rfl); (· (repeat' (first | exact pure_int _ _ | exact pure_bool _ | exact pure_str _); done))) | (apply T_ifT; (· exact rfl); (· (first | assumption | exact rfl))) | apply S_assign | (apply S_loadW; (· exact rfl); (· exact gt_any rfl); (· exact rfl); (· exact rfl); (· exact rfl); (· exact rfl); (· exact rfl); (· exact rfl)) | (apply S_neq; (· exact gt_any rfl); (· exact gt_any rfl)) | apply S_box | apply S_callQ (f := 11) | apply c0 | exact viewL_nil | apply viewL_cons | (apply View.pure; exact PureC.out) | exact FlatC.out | exact gt_any rfl | exact gts_nil | (apply gts_cons; (· exact gt_any rfl)) | exact okCells_of rfl rfl | exact rfl | fail)

/-! forks -/
theorem broke1_cv (old now : Cli) (k : Nat) (ho : cliFault old = 0) (hn : cliFault now = 0) (hk : k < old.heads.length) :
    CV Try.prog 74 [natA k, .vp (cliAC now), .vp (cliAC old), .vp [natAS (mainL now.heads)]] (· = .bool (goneB now (hdD (headAt old.heads k)))) := by
  refine CV_intro tyOk Try.func74 (by kernel_rfl) rfl 23 rfl (by simp) [.tmp 5] rfl ?_
  intro w0 ok0
  obtain ⟨_, h1, h2, hJ⟩ := cliFault_zero ho
  obtain ⟨_, n1, n2, nJ⟩ := cliFault_zero hn
  have hget := map_getD hdA old.heads Hd0 (k := k) hk
  have hol : (old.heads.map hdA).length = old.heads.length := by simp
  have hx := hJ.1 _ (getD_mem old.heads Hd0 hk)
  have eh : headAt old.heads k = old.heads.getD k Hd0 := rfl
  rw [← eh] at hget hx
  generalize headAt old.heads k = x at *
  have c0 := hdDigest_cv x hx
  have c1 := find_cv now (hdD x) (by omega) nJ.1
  have hpr := place_range (now.heads.map hdD) (hdD x)
  have hml := mainL_le n1
  unfold goneB
  by_cases g : placeL (now.heads.map hdD) (hdD x) < 0
  · have d0 := decide_eq_true g
    rw [d0, Bool.true_or]
    repeat' (first | refine T_seq ?_ | refine N_then ?_ | refine T_regX tyOk ?_ | (apply T_drawM (id := 1) 7 tyOk mixed; (· exact rfl); (· exact rfl); (· kernel_rfl); (· exact Nat.le_of_ble_eq_true rfl)) | refine S_nil ?_ | refine T_ret ?_ | (apply E_tmp; (· exact rfl); (· (repeat' (first | exact pure_int _ _ | exact pure_bool _ | exact pure_str _); done))) | (apply S_gfT'; (· exact rfl); (· exact rfl); (· exact rfl); (· (first | assumption | exact rfl))) | apply S_move | apply S_assign | (apply S_pickT; (· exact gt_any rfl); (· (first | assumption | exact rfl))) | (apply S_loadV; (· exact rfl); (· exact gt_any rfl); (· exact rfl); (· (first | exact ⟨rfl, rfl⟩ | exact ⟨rfl, trivial⟩ | assumption))) | (apply S_loadVA; (· exact rfl); (· exact gt_any rfl); (· exact rfl); (· exact rfl)) | (apply S_fieldV; (· exact rfl); (· exact rfl); (· exact rfl); (· exact rfl); (· exact gt_any rfl)) | apply S_lss | (apply S_idxLs; (· exact rfl); (· exact rfl); (· exact gt_any rfl); (· exact gt_any rfl)) | apply S_call (f := 76) | apply c0 | apply S_callQ (f := 75) | apply c1 | exact viewL_nil | apply viewL_cons | (apply View.pure; exact PureC.out) | exact FlatC.out | exact PureLC.out | exact gt_any rfl | exact gts_nil | (apply gts_cons; (· exact gt_any rfl)) | assumption | (refine ⟨?_, ?_⟩ <;> omega) | exact rfl | fail)
  · have d0 := decide_eq_false g
    rw [d0, Bool.false_or]
    obtain ⟨m, hm⟩ : ∃ m : Nat, placeL (now.heads.map hdD) (hdD x) = (m : Int) := ⟨(placeL (now.heads.map hdD) (hdD x)).toNat, by omega⟩
    rw [hm] at c1 d0 ⊢
    rw [Int.toNat_natCast]
    have c2 := containsInt_cv (mainL now.heads) m (by omega)
    repeat' (first | refine T_seq ?_ | refine N_then ?_ | refine T_regX tyOk ?_ | (apply T_drawM (id := 1) 7 tyOk mixed; (· exact rfl); (· exact rfl); (· kernel_rfl); (· exact Nat.le_of_ble_eq_true rfl)) | refine S_nil ?_ | refine T_ret ?_ | (apply E_tmp; (· exact rfl); (· (repeat' (first | exact pure_int _ _ | exact pure_bool _ | exact pure_str _); done))) | (apply S_gf; (· exact rfl); (· exact rfl); (· (first | assumption | exact rfl))) | apply S_move | apply S_assign | (apply S_pickF; (· exact gt_any rfl); (· (first | assumption | exact rfl))) | (apply S_loadV; (· exact rfl); (· exact gt_any rfl); (· exact rfl); (· (first | exact ⟨rfl, rfl⟩ | exact ⟨rfl, trivial⟩ | assumption))) | (apply S_loadVA; (· exact rfl); (· exact gt_any rfl); (· exact rfl); (· exact rfl)) | (apply S_fieldV; (· exact rfl); (· exact rfl); (· exact rfl); (· exact rfl); (· exact gt_any rfl)) | apply S_lss | apply S_not | (apply S_idxLs; (· exact rfl); (· exact rfl); (· exact gt_any rfl); (· exact gt_any rfl)) | apply S_call (f := 76) | apply c0 | apply S_callQ (f := 75) | apply c1 | apply S_callQ (f := 77) | apply c2 | exact viewL_nil | apply viewL_cons | (apply View.pure; exact PureC.out) | exact FlatC.out | exact PureLC.out | exact gt_any rfl | exact gts_nil | (apply gts_cons; (· exact gt_any rfl)) | assumption | (refine ⟨?_, ?_⟩ <;> omega) | exact rfl | fail)

theorem main_cv (c : Cli) (h : cliFault c = 0) : CV Try.prog 71 [cliA c] (· = natAS (mainL c.heads)) := CR.byVal (main_cr c h 0) (by unfold mainL; simp) PureEC.out

theorem implBroke_cv (old now : Cli) (hl : old.heads.length ≤ 1048576) (hl2 : now.heads.length ≤ 1048576) : CV Try.prog 28 [cliA old, cliA now] (· = .bool (brokeV old now)) := by
  refine CV_intro tyOk Try.func28 (by kernel_rfl) rfl 20 rfl (by simp) [.tmp 4] rfl ?_
  intro w0 ok0
  have c0 := cliFault_cv old hl
  unfold brokeV
  by_cases g : cliFault old = 0
  · have d0 : decide (cliFault old = 0) = true := decide_eq_true g
    have e0 : (!decide (cliFault old = 0)) = false := by rw [d0]; rfl
    rw [d0, Bool.true_and]
    have c1 := cliFault_cv now hl2
    by_cases g1 : cliFault now = 0
    · have d1 : decide (cliFault now = 0) = true := decide_eq_true g1
      have e1 : (!decide (cliFault now = 0)) = false := by rw [d1]; rfl
      rw [d1, Bool.true_and]
      obtain ⟨_, h1, h2, hJ⟩ := cliFault_zero g
      have c2 := main_cv now g1
      have c3 := confirmed_cv old g
      have hcl := confL_le old
      have hml := mainL_le h1
      have c4 := containsNat_cv 74 [.vp (cliAC now), .vp (cliAC old), .vp [natAS (mainL now.heads)]] (confL old) (fun k => goneB now (hdD (headAt old.heads k))) inferInstance (by repeat' (first | exact viewL_nil | apply viewL_cons | (apply View.pure; exact PureC.out))) (by omega) (fun k hk => broke1_cv old now k g g1 (mainL_mem h1 (confL_mem hk)))
      have hB : ((confL old).any fun k => goneB now (hdD (headAt old.heads k))) = brokeB old now := rfl
      rw [hB] at c4
      repeat' (first | refine T_seq ?_ | refine N_then ?_ | refine T_regX tyOk ?_ | refine S_nil ?_ | refine T_skip ?_ | refine T_ret ?_ | (apply E_tmp; (· exact rfl); (· (repeat' (first | exact pure_int _ _ | exact pure_bool _ | exact pure_str _); done))) | (apply T_ifF; (· exact rfl); (· (first | assumption | exact rfl))) | (apply S_gf; (· exact rfl); (· exact rfl); (· (first | assumption | exact rfl))) | apply S_move | apply S_assign | (apply S_pickF; (· exact gt_any rfl); (· (first | assumption | exact rfl))) | (apply S_loadW; (· exact rfl); (· exact gt_any rfl); (· exact rfl); (· exact rfl); (· exact rfl); (· exact rfl); (· exact rfl); (· exact rfl)) | (apply S_neq; (· exact gt_any rfl); (· exact gt_any rfl)) | apply S_alloc | apply S_box | (apply S_store1; (· exact rfl); (· exact gt_any rfl); (· exact rfl); (· exact rfl); (· exact rfl); (· exact rfl)) | apply S_mkfn | apply S_callQ (f := 13) | apply c0 | apply c1 | apply S_call (f := 71) | apply c2 | apply S_call (f := 73) | apply c3 | apply S_callQ (f := 72) | apply c4 | exact viewL_nil | apply viewL_cons | (apply View.pure; exact PureC.out) | (apply view_ptr; (· exact rfl); (· exact rfl)) | exact FlatC.out | apply view_fn | exact PureLC.out | exact gt_any rfl | exact gts_nil | (apply gts_cons; (· exact gt_any rfl)) | exact okCells_of rfl rfl | exact rfl | fail)
    · have d1 : decide (cliFault now = 0) = false := decide_eq_false g1
      have e1 : (!decide (cliFault now = 0)) = true := by rw [d1]; rfl
      rw [d1, Bool.false_and]
      repeat' (first | refine T_seq ?_ | refine N_then ?_ | refine N_thenR ?_ | refine T_regX tyOk ?_ | refine S_nil ?_ | refine T_ret ?_ | (apply E_tmp; (· exact rfl); (· (repeat' (first | exact pure_int _ _ | exact pure_bool _ | exact pure_str _); done))) | (apply T_ifT; (· exact rfl); (· (first | assumption | exact rfl))) | (apply S_gf; (· exact rfl); (· exact rfl); (· (first | assumption | exact rfl))) | apply S_move | apply S_assign | (apply S_pickF; (· exact gt_any rfl); (· (first | assumption | exact rfl))) | (apply S_loadW; (· exact rfl); (· exact gt_any rfl); (· exact rfl); (· exact rfl); (· exact rfl); (· exact rfl); (· exact rfl); (· exact rfl)) | (apply S_neq; (· exact gt_any rfl); (· exact gt_any rfl)) | apply S_box | apply S_callQ (f := 13) | apply c0 | apply c1 | exact viewL_nil | apply viewL_cons | (apply View.pure; exact PureC.out) | exact FlatC.out | exact gt_any rfl | exact gts_nil | (apply gts_cons; (· exact gt_any rfl)) | exact okCells_of rfl rfl | exact rfl | fail)
  · have d0 : decide (cliFault old = 0) = false := decide_eq_false g
    have e0 : (!decide (cliFault old = 0)) = true := by rw [d0]; rfl
    rw [d0, Bool.false_and]
    repeat' (first | refine T_seq ?_ | refine N_then ?_ | refine N_thenR ?_ | refine T_regX tyOk ?_ | refine S_nil ?_ | refine T_ret ?_ | (apply E_tmp; (· exact rfl); (· (repeat' (first | exact pure_int _ _ | exact pure_bool _ | exact pure_str _); done))) | (apply T_ifT; (· exact rfl); (· (first | assumption | exact rfl))) | (apply S_gfT'; (· exact rfl); (· exact rfl); (· exact rfl); (· (first | assumption | exact rfl))) | apply S_move | apply S_assign | (apply S_pickT; (· exact gt_any rfl); (· (first | assumption | exact rfl))) | (apply S_loadW; (· exact rfl); (· exact gt_any rfl); (· exact rfl); (· exact rfl); (· exact rfl); (· exact rfl); (· exact rfl); (· exact rfl)) | (apply S_neq; (· exact gt_any rfl); (· exact gt_any rfl)) | apply S_box | apply S_callQ (f := 13) | apply c0 | exact viewL_nil | apply viewL_cons | (apply View.pure; exact PureC.out) | exact FlatC.out | exact gt_any rfl | exact gts_nil | (apply gts_cons; (· exact gt_any rfl)) | exact okCells_of rfl rfl | exact rfl | fail)

theorem brokeAny (old now : Cli) (hn : cliFault now = 0) : brokeB old now = (confL old).any fun k => decide (placeL (mineL now) (hdD (headAt old.heads k)) < 0) := by
  unfold brokeB
  congr 1
  funext k
  exact gone_mine hn _

theorem specBroke_cv (old now : Cli) (hl : old.heads.length ≤ 1048576) (hl2 : now.heads.length ≤ 1048576) : CV Try.prog 27 [cliA old, cliA now] (· = .bool (brokeV old now)) := by
  refine CV_intro tyOk Try.func27 (by kernel_rfl) rfl 57 rfl (by simp) [.tmp 4] rfl ?_
  intro w0 ok0
  have c0 := specCliFault_cv old hl
  unfold brokeV
  by_cases g : cliFault old = 0
  case neg =>
    have d0 : decide (cliFault old = 0) = false := decide_eq_false g
    have e0 : (!decide (cliFault old = 0)) = true := by rw [d0]; rfl
    rw [d0, Bool.false_and]
    repeat' (first | refine T_seq ?_ | refine N_then ?_ | refine N_thenR ?_ | refine T_regX tyOk ?_ | refine S_nil ?_ | refine T_ret ?_ | (apply E_tmp; (· exact rfl); (· (repeat' (first | exact pure_int _ _ | exact pure_bool _ | exact pure_str _); done))) | (apply T_ifT; (· exact rfl); (· (first | assumption | exact rfl))) | (apply S_gfT'; (· exact rfl); (· exact rfl); (· exact rfl); (· (first | assumption | exact rfl))) | apply S_move | apply S_assign | (apply S_pickT; (· exact gt_any rfl); (· (first | assumption | exact rfl))) | (apply S_loadW; (· exact rfl); (· exact gt_any rfl); (· exact rfl); (· exact rfl); (· exact rfl); (· exact rfl); (· exact rfl); (· exact rfl)) | (apply S_neq; (· exact gt_any rfl); (· exact gt_any rfl)) | apply S_box | apply S_callQ (f := 11) | apply c0 | exact viewL_nil | apply viewL_cons | (apply View.pure; exact PureC.out) | exact FlatC.out | exact gt_any rfl | exact gts_nil | (apply gts_cons; (· exact gt_any rfl)) | exact okCells_of rfl rfl | exact rfl | fail)
  have d0 : decide (cliFault old = 0) = true := decide_eq_true g
  have e0 : (!decide (cliFault old = 0)) = false := by rw [d0]; rfl
  rw [d0, Bool.true_and]
  have c1 := specCliFault_cv now hl2
  by_cases g1 : cliFault now = 0
  case neg =>
    have d1 : decide (cliFault now = 0) = false := decide_eq_false g1
    have e1 : (!decide (cliFault now = 0)) = true := by rw [d1]; rfl
    rw [d1, Bool.false_and]
    repeat' (first | refine T_seq ?_ | refine N_then ?_ | refine N_thenR ?_ | refine T_regX tyOk ?_ | refine S_nil ?_ | refine T_ret ?_ | (apply E_tmp; (· exact rfl); (· (repeat' (first | exact pure_int _ _ | exact pure_bool _ | exact pure_str _); done))) | (apply T_ifT; (· exact rfl); (· (first | assumption | exact rfl))) | (apply S_gf; (· exact rfl); (· exact rfl); (· (first | assumption | exact rfl))) | apply S_move | apply S_assign | (apply S_pickF; (· exact gt_any rfl); (· (first | assumption | exact rfl))) | (apply S_loadW; (· exact rfl); (· exact gt_any rfl); (· exact rfl); (· exact rfl); (· exact rfl); (· exact rfl); (· exact rfl); (· exact rfl)) | (apply S_neq; (· exact gt_any rfl); (· exact gt_any rfl)) | apply S_box | apply S_callQ (f := 11) | apply c0 | apply c1 | exact viewL_nil | apply viewL_cons | (apply View.pure; exact PureC.out) | exact FlatC.out | exact gt_any rfl | exact gts_nil | (apply gts_cons; (· exact gt_any rfl)) | exact okCells_of rfl rfl | exact rfl | fail)
  have d1 : decide (cliFault now = 0) = true := decide_eq_true g1
  have e1 : (!decide (cliFault now = 0)) = false := by rw [d1]; rfl
  rw [d1, Bool.true_and, brokeAny old now g1]
  obtain ⟨_, h1, h2, hJ⟩ := cliFault_zero g
  obtain ⟨_, n1, n2, nJ⟩ := cliFault_zero g1
  have c2 : CV Try.prog 49 [.vp (cliAC now)] (· = natAS (mainL now.heads)) := CR.byVal (l6Main_cr now g1 0) (by unfold mainL; simp) PureEC.out
  have c3 := l6Confirmed_cv old g
  have hcl := confL_le old
  have hmo := mainL_le h1
  have hml := mainL_le n1
  have hmem : ∀ j ∈ mainL now.heads, j < now.heads.length := fun j hj => mainL_mem n1 hj
  have hdem : ∀ j ∈ confL old, j < old.heads.length := fun j hj => mainL_mem h1 (confL_mem hj)
  have hM : mineL now = (mainL now.heads).map fun j => hdD (headAt now.heads j) := rfl
  rw [hM]
  generalize mainL now.heads = M at *
  generalize confL old = D at *
  have hMl : (M.map natA).length = M.length := by simp
  have hol : (old.heads.map hdA).length = old.heads.length := by simp
  have hnl : (now.heads.map hdA).length = now.heads.length := by simp
  have hDl : (D.map natA).length = D.length := by simp
  repeat' (first | refine T_seq ?_ | refine N_then ?_ | refine T_regX tyOk ?_ | refine S_nil ?_ | refine T_skip ?_ | refine T_block ?_ | (apply T_ifF; (· exact rfl); (· (first | assumption | exact rfl))) | (apply S_gf; (· exact rfl); (· exact rfl); (· (first | assumption | exact rfl))) | apply S_move | apply S_assign | (apply S_pickF; (· exact gt_any rfl); (· (first | assumption | exact rfl))) | (apply S_loadW; (· exact rfl); (· exact gt_any rfl); (· exact rfl); (· exact rfl); (· exact rfl); (· exact rfl); (· exact rfl); (· exact rfl)) | (apply S_neq; (· exact gt_any rfl); (· exact gt_any rfl)) | apply S_box | (apply S_buildL tyOk; (· exact rfl); (· exact rfl); (· exact rfl)) | apply S_callQ (f := 11) | apply c0 | apply c1 | apply S_callW (f := 49) | apply c2 | apply S_callW (f := 68) | apply c3 | exact viewL_nil | apply viewL_cons | (apply View.pure; exact PureC.out) | (apply view_ptr; (· exact rfl); (· exact rfl)) | exact FlatC.out | (dsimp only; omega) | exact gtsI_nil | exact elts_nil | exact gt_any rfl | exact gts_nil | (apply gts_cons; (· exact gt_any rfl)) | exact okCells_of rfl rfl | exact rfl | fail)
  refine T_roundsS (α := Nat) (fun k => ⟨[(2, .ptr 0 0 0), (3, .ptr 1 0 0), (5, natAS M), (6, natAS D), (7, .sl 2 0 k k), (8, .int .i64 k)], [(0, some ⟨[cliA old], 2, false, true⟩), (1, some ⟨[cliA now], 2, false, true⟩), (2, some ⟨((M.take k).map fun j => hdD (headAt now.heads j)).map byA, 1, true, false⟩)], 3⟩)
    (fun k => M.length - k) (fun k => k ≤ M.length) 0 ((weak_of (by repeat' (first | exact keepE_nil | refine keepE_cons rfl ?_)) (by repeat' (first | exact keepB_nil | refine keepB_cons (by first | rfl | exact congrArg (fun l => some (Box.mk l _ _ _)) hset) ?_)) (Nat.le_refl _))).sub (by omega) ?_
  intro k hk
  have hbl : (((M.take k).map fun j => hdD (headAt now.heads j)).map byA).length = k := by rw [List.length_map, List.length_map, List.length_take]; omega
  by_cases hkl : k < M.length
  · have a1 : decide ((k : Int) < ((M.map natA).length : Int)) = true := decide_eq_true (by omega)
    have hgk := map_getD natA M 0 (k := k) hkl
    have e : M.take (k + 1) = M.take k ++ [M.getD k 0] := by rw [List.take_add_one, List.getElem?_eq_getElem hkl, List.getD_eq_getElem?_getD, List.getElem?_eq_getElem hkl]; rfl
    have hj := hmem _ (getD_mem M 0 hkl)
    generalize M.getD k 0 = j at *
    have hgj := map_getD hdA now.heads Hd0 (k := j) hj
    have hx := nJ.1 _ (getD_mem now.heads Hd0 hj)
    have ehj : headAt now.heads j = now.heads.getD j Hd0 := rfl
    rw [← ehj] at hgj hx
    generalize hy : headAt now.heads j = y at *
    have c4 := specHdDigest_cv y hx
    have hset : ((M.take k).map fun j => hdD (headAt now.heads j)).map byA ++ [byA (hdD y)] = ((M.take (k + 1)).map fun j => hdD (headAt now.heads j)).map byA := by rw [e]; simp [hy]
    have hw : IntKind.wrap .i64 ((k : Int) + 1) = ((k + 1 : Nat) : Int) := by rw [wrap_i64 (by omega) (by omega)]; omega
    repeat' (first | refine T_seq ?_ | refine N_then ?_ | refine N_block ?_ | refine T_regX tyOk ?_ | (apply T_drawM (id := 9) 11 tyOk mixed; (· exact rfl); (· exact rfl); (· kernel_rfl); (· exact Nat.le_of_ble_eq_true rfl)) | refine S_nil ?_ | refine T_skip ?_ | refine T_block ?_ | (apply T_ifT; (· exact rfl); (· (first | assumption | exact rfl))) | apply S_move | apply S_assign | (apply S_loadP; (· exact rfl); (· exact gt_any rfl); (· exact rfl); (· exact rfl); (· exact rfl); (· (first | exact ⟨rfl, rfl⟩ | exact ⟨rfl, trivial⟩ | assumption))) | (apply S_loadV; (· exact rfl); (· exact gt_any rfl); (· exact rfl); (· (first | exact ⟨rfl, rfl⟩ | exact ⟨rfl, trivial⟩ | assumption))) | (apply S_loadVA; (· exact rfl); (· exact gt_any rfl); (· exact rfl); (· exact rfl)) | (apply S_fieldP; (· exact rfl); (· exact rfl); (· exact rfl); (· exact rfl); (· exact gt_any rfl)) | apply S_lss | apply S_add | (apply S_len_ls; (· exact rfl); (· exact gt_any rfl)) | (apply S_idxLs; (· exact rfl); (· exact rfl); (· exact gt_any rfl); (· exact gt_any rfl)) | (apply M_appB; (· exact rfl); (· exact rfl); (· exact gt_any rfl)) | (apply S_buildV tyOk; (· exact rfl); (· exact rfl)) | apply S_call (f := 70) | apply c4 | exact PureLC.out | (apply mlen; first | exact rfl | assumption | exact Nat.le_of_ble_eq_true rfl | omega | (simp [bA_length]; done) | (simp [bA_length]; omega)) | (apply msz; first | assumption | exact Nat.le_of_ble_eq_true rfl | (dsimp only; simp only [List.length_append, List.length_map, List.length_cons, List.length_nil, bA_length, List.length_take, List.length_drop, List.length_replicate] at *; omega) | (dsimp only; omega)) | (apply mnorm; first | with_reducible exact app_nil0 _ | exact app_norm _ _ | exact rfl) | exact Src.ls rfl rfl | (dsimp only; omega) | exact gtsI_nil | (apply gtsI_cons; (· exact gt_any rfl)) | exact elts_nil | apply elts_cons | (intro hu; cases hu; done) | exact gt_any rfl | exact gts_nil | (apply gts_cons; (· exact gt_any rfl)) | exact okCells_of rfl rfl | assumption | (refine ⟨?_, ?_⟩ <;> omega) | exact rfl | fail)
    exact N_againS (k + 1) (sub_names [(0, 0), (1, 1), (2, 3)] (k0 := 0) rfl (by rfl) (by repeat' (first | exact pullE_nil | (apply pullE_cons; (· exact rfl)) | exact Ren.sl _ _ _ _ | (apply ren_slE; (· first | exact rfl | omega); (· first | exact rfl | assumption | (simp [bA_length]; done) | (simp [bA_length]; omega)); (· first | exact rfl | assumption | (simp [bA_length]; done) | (simp [bA_length]; omega))) | exact Ren.ptr _ _ _ | (apply Ren.pure; (first | exact PureC.out | exact PureLC.out | assumption)) | exact renL_nil | apply renL_cons | apply ren_agg | apply ren_tup)) (by repeat' (first | exact pullB_nil | (apply pullB_pure; (· first | exact rfl | exact congrArg (fun l => some (Box.mk l _ _ _)) hset); (· (exact PureEC.out))) | (apply pullB_one; (· exact rfl)) | exact renL_nil | apply renL_cons | exact Ren.sl _ _ _ _ | exact Ren.ptr _ _ _ | (apply Ren.pure; (first | exact PureC.out | exact PureLC.out | assumption)) | apply ren_agg)) (by repeat' (first | exact lowE_nil | apply lowE_cons | exact Low.sl _ _ _ _ (by decide) | exact Low.ptr _ _ _ (by decide) | (apply Low.pure; (first | exact PureC.out | exact PureLC.out | assumption)) | exact lowL_nil | apply lowL_cons | apply low_agg | apply low_tup)) (by repeat' (first | exact lowBs_nil | apply lowBs_cons | (apply PureB.low; (exact PureEC.out)) | apply lowX_one | exact lowX_nil | exact lowL_nil | apply lowL_cons | exact Low.sl _ _ _ _ (by decide) | exact Low.ptr _ _ _ (by decide) | (apply Low.pure; (first | exact PureC.out | exact PureLC.out | assumption))))) (by omega) (by omega)
  have a1 : decide ((k : Int) < ((M.map natA).length : Int)) = false := decide_eq_false (by omega)
  obtain rfl : k = M.length := by omega
  rw [List.take_length] at hbl ⊢
  generalize hMine : (M.map fun j => hdD (headAt now.heads j)) = mine at *
  have hml2 : mine.length = M.length := by rw [← hMine]; simp
  have hmw : ∀ w ∈ mine, w.length ≤ 1000000 := fun w hw => by
    rw [← hMine] at hw
    obtain ⟨j, _, rfl⟩ := List.mem_map.1 hw
    rw [hdD_length]; decide
  have hmt : (mine.map byA).take M.length = mine.map byA := List.take_of_length_le (by omega)
  repeat' (first | refine T_seq ?_ | refine N_then ?_ | refine N_thenE ?_ | refine N_blockE ?_ | refine N_againSE ?_ | refine T_regX tyOk ?_ | refine S_nil ?_ | refine T_exit ?_ | refine T_block ?_ | (apply T_ifF; (· exact rfl); (· (first | assumption | exact rfl))) | apply S_move | apply S_assign | apply S_lss | (apply S_len_ls; (· exact rfl); (· exact gt_any rfl)) | exact gt_any rfl | exact rfl | fail)
  refine T_roundsS (α := Nat) (fun k => ⟨[(2, .ptr 0 0 0), (3, .ptr 1 0 0), (5, natAS M), (6, natAS D), (7, .sl 2 0 M.length M.length), (9, .int .i64 k)], [(0, some ⟨[cliA old], 2, false, true⟩), (1, some ⟨[cliA now], 2, false, true⟩), (2, some ⟨mine.map byA, 1, true, false⟩)], 3⟩)
    (fun k => D.length - k) (fun k => k ≤ D.length ∧ (D.any fun k => decide (placeL mine (hdD (headAt old.heads k)) < 0)) = (D.drop k).any fun k => decide (placeL mine (hdD (headAt old.heads k)) < 0)) 0 ((weak_of (by repeat' (first | exact keepE_nil | refine keepE_cons rfl ?_)) (by repeat' (first | exact keepB_nil | refine keepB_cons (by first | rfl | exact congrArg (fun l => some (Box.mk l _ _ _)) hset) ?_)) (Nat.le_refl _))).sub ⟨by omega, rfl⟩ ?_
  rintro k ⟨hk, hI⟩
  by_cases hkl : k < D.length
  · have a2 : decide ((k : Int) < ((D.map natA).length : Int)) = true := decide_eq_true (by omega)
    have hgk := map_getD natA D 0 (k := k) hkl
    rw [any_step _ D 0 hkl] at hI
    have hj := hdem _ (getD_mem D 0 hkl)
    generalize D.getD k 0 = j at *
    have hgj := map_getD hdA old.heads Hd0 (k := j) hj
    have hx := hJ.1 _ (getD_mem old.heads Hd0 hj)
    have ehj : headAt old.heads j = old.heads.getD j Hd0 := rfl
    rw [← ehj] at hgj hx
    generalize hy : headAt old.heads j = y at *
    have c4 := specHdDigest_cv y hx
    have hyl := hdD_length y
    have c5 := l5Place_cv mine (hdD y) (by omega) hmw (by omega)
    have hw : IntKind.wrap .i64 ((k : Int) + 1) = ((k + 1 : Nat) : Int) := by rw [wrap_i64 (by omega) (by omega)]; omega
    by_cases g2 : placeL mine (hdD y) < 0
    · have a3 := decide_eq_true g2
      rw [a3, Bool.true_or] at hI
      rw [hI]
      repeat' (first | refine T_seq ?_ | refine N_then ?_ | refine N_thenR ?_ | refine N_blockR ?_ | refine N_againSR ?_ | refine T_regX tyOk ?_ | (apply T_drawM (id := 13) 10 tyOk mixed; (· exact rfl); (· exact rfl); (· kernel_rfl); (· exact Nat.le_of_ble_eq_true rfl)) | refine S_nil ?_ | refine T_skip ?_ | refine T_ret ?_ | refine T_block ?_ | (apply E_tmp; (· exact rfl); (· (repeat' (first | exact pure_int _ _ | exact pure_bool _ | exact pure_str _); done))) | (apply T_ifT; (· exact rfl); (· (first | assumption | exact rfl))) | apply S_move | apply S_assign | (apply S_loadP; (· exact rfl); (· exact gt_any rfl); (· exact rfl); (· exact rfl); (· exact rfl); (· (first | exact ⟨rfl, rfl⟩ | exact ⟨rfl, trivial⟩ | assumption))) | (apply S_loadV; (· exact rfl); (· exact gt_any rfl); (· exact rfl); (· (first | exact ⟨rfl, rfl⟩ | exact ⟨rfl, trivial⟩ | assumption))) | (apply S_loadVA; (· exact rfl); (· exact gt_any rfl); (· exact rfl); (· exact rfl)) | (apply S_fieldP; (· exact rfl); (· exact rfl); (· exact rfl); (· exact rfl); (· exact gt_any rfl)) | apply S_lss | (apply S_len_ls; (· exact rfl); (· exact gt_any rfl)) | (apply S_idxLs; (· exact rfl); (· exact rfl); (· exact gt_any rfl); (· exact gt_any rfl)) | apply S_call (f := 70) | apply c4 | apply S_callQ (f := 66) | apply c5 | exact viewL_nil | apply viewL_cons | (apply View.pure; exact PureC.out) | (apply view_slM; (· exact rfl); (· (apply mlen; first | exact rfl | assumption | exact Nat.le_of_ble_eq_true rfl | omega | (simp [bA_length]; done) | (simp [bA_length]; omega))); (· exact PureEC.out)) | exact FlatC.out | exact PureLC.out | exact gt_any rfl | exact gts_nil | (apply gts_cons; (· exact gt_any rfl)) | assumption | (refine ⟨?_, ?_⟩ <;> omega) | exact rfl | fail)
    · have a3 := decide_eq_false g2
      rw [a3, Bool.false_or] at hI
      repeat' (first | refine T_seq ?_ | refine N_then ?_ | refine N_block ?_ | refine T_regX tyOk ?_ | (apply T_drawM (id := 13) 10 tyOk mixed; (· exact rfl); (· exact rfl); (· kernel_rfl); (· exact Nat.le_of_ble_eq_true rfl)) | refine S_nil ?_ | refine T_skip ?_ | refine T_block ?_ | (apply T_ifT; (· exact rfl); (· (first | assumption | exact rfl))) | (apply T_ifF; (· exact rfl); (· (first | assumption | exact rfl))) | apply S_move | apply S_assign | (apply S_loadP; (· exact rfl); (· exact gt_any rfl); (· exact rfl); (· exact rfl); (· exact rfl); (· (first | exact ⟨rfl, rfl⟩ | exact ⟨rfl, trivial⟩ | assumption))) | (apply S_loadV; (· exact rfl); (· exact gt_any rfl); (· exact rfl); (· (first | exact ⟨rfl, rfl⟩ | exact ⟨rfl, trivial⟩ | assumption))) | (apply S_loadVA; (· exact rfl); (· exact gt_any rfl); (· exact rfl); (· exact rfl)) | (apply S_fieldP; (· exact rfl); (· exact rfl); (· exact rfl); (· exact rfl); (· exact gt_any rfl)) | apply S_lss | apply S_add | (apply S_len_ls; (· exact rfl); (· exact gt_any rfl)) | (apply S_idxLs; (· exact rfl); (· exact rfl); (· exact gt_any rfl); (· exact gt_any rfl)) | apply S_call (f := 70) | apply c4 | apply S_callQ (f := 66) | apply c5 | exact viewL_nil | apply viewL_cons | (apply View.pure; exact PureC.out) | (apply view_slM; (· exact rfl); (· (apply mlen; first | exact rfl | assumption | exact Nat.le_of_ble_eq_true rfl | omega | (simp [bA_length]; done) | (simp [bA_length]; omega))); (· exact PureEC.out)) | exact FlatC.out | exact PureLC.out | exact gt_any rfl | exact gts_nil | (apply gts_cons; (· exact gt_any rfl)) | assumption | (refine ⟨?_, ?_⟩ <;> omega) | exact rfl | fail)
      exact N_againS (k + 1) ((weak_of (by repeat' (first | exact keepE_nil | refine keepE_cons rfl ?_)) (by repeat' (first | exact keepB_nil | refine keepB_cons (by first | rfl | exact congrArg (fun l => some (Box.mk l _ _ _)) hset) ?_)) (Nat.le_refl _))).sub ⟨by omega, hI⟩ (by omega)
  · have a2 : decide ((k : Int) < ((D.map natA).length : Int)) = false := decide_eq_false (by omega)
    obtain rfl : k = D.length := by omega
    rw [List.drop_length, List.any_nil] at hI
    rw [hI]
    repeat' (first | refine T_seq ?_ | refine N_then ?_ | refine N_thenE ?_ | refine N_blockE ?_ | refine N_againSE ?_ | refine T_regX tyOk ?_ | refine S_nil ?_ | refine T_ret ?_ | refine T_exit ?_ | (apply E_tmp; (· exact rfl); (· (repeat' (first | exact pure_int _ _ | exact pure_bool _ | exact pure_str _); done))) | (apply T_ifF; (· exact rfl); (· (first | assumption | exact rfl))) | apply S_move | apply S_assign | apply S_lss | (apply S_len_ls; (· exact rfl); (· exact gt_any rfl)) | exact gt_any rfl | exact rfl | fail)

end Go.Proofs.Ytaolmfgpebncjaa
