/- Events checked against a client. -/
import Derived.Test.YtaolmfgpebncjaaGreatZzg
import Derived.Test.YtaolmfgpebncjaaGreatZc
import Derived.Test.YtaolmfgpebncjaaGreatRb
set_option maxRecDepth 100000
set_option maxHeartbeats 3200000
set_option linter.unusedSimpArgs false
set_option linter.unusedVariables false
namespace Go.Proofs.YtaolmfgpebncjaaGreat
open Go.Av
attribute [local irreducible] T thenQ blockQ againQ againS WX retV retR Gt Gts GtsP okCells CV CR Av.Pure
attribute [local irreducible] sha zerosL lz8 hdD hdFault zerosN hardF firstB wayD chainL bestUp wtL joinF cliFault bestL confL mainL checkL

def placeC (c : Cli) (d : List UInt8) : Int := placeL (c.heads.map hdD) d
def ev6 (c : Cli) (d e : List UInt8) (p : Prf) : Int :=
  if placeC c d < 0 then 4 else if isConfB c d = false then 8 else if checkL (headAt c.heads (placeC c d).toNat).root e p = false then 6 else 0
def ev6V (c : Cli) (d e : List UInt8) (p : Prf) : Int := if cliFault c = 0 then ev6 c d e p else cliFault c

theorem isConf_at {c : Cli} {d : List UInt8} {k : Nat} (hk : placeC c d = (k : Int)) : isConfB c d = (confL c).any fun y => decide (y = k) := by
  have hk : placeL (c.heads.map hdD) d = (k : Int) := hk
  unfold isConfB
  rw [hk, Int.toNat_natCast, decide_eq_true (by omega), Bool.true_and]

theorem checkEvent_cv (c : Cli) (d e : List UInt8) (p : Prf) (h : cliFault c = 0) (he : e.length ≤ 100000000) (hl : p.path.length ≤ 1000000000) : CV Tryz.prog 81 [cliA c, byA d, byA e, prfA p] (· = .int .i64 (ev6 c d e p)) := by
  refine CV_intro tyOk Tryz.func81 (by kernel_rfl) rfl 32 rfl (by simp) [.tmp 8] rfl ?_
  intro w0 ok0
  obtain ⟨hdep, h1, h2, hJ⟩ := cliFault_zero h
  have c0 := find_cv c d (by omega) hJ.1
  have c1 := isConfirmed_cv c d h
  have hpr := place_range (c.heads.map hdD) d
  have hP : placeC c d = placeL (c.heads.map hdD) d := rfl
  rw [← hP] at c0 hpr
  rw [List.length_map] at hpr
  have hml : (c.heads.map hdA).length = c.heads.length := by simp
  unfold ev6
  by_cases g : placeC c d < 0
  · have d0 := decide_eq_true g
    rw [if_pos g]
    repeat' (first | refine T_seq ?_ | refine N_then ?_ | refine N_thenR ?_ | refine N_blockR ?_ | refine T_regX tyOk ?_ | refine S_nil ?_ | refine T_ret ?_ | refine T_block ?_ | (apply E_tmp; (· exact rfl); (· (repeat' (first | exact pure_int _ _ | exact pure_bool _ | exact pure_str _); done))) | (apply T_ifT; (· exact rfl); (· (first | assumption | exact rfl))) | apply S_move | apply S_assign | (apply S_loadW; (· exact rfl); (· exact gt_any rfl); (· exact rfl); (· exact rfl); (· exact rfl); (· exact rfl); (· exact rfl); (· exact rfl)) | apply S_lss | apply S_box | apply S_callQ (f := 100) | apply c0 | exact viewL_nil | apply viewL_cons | (apply View.pure; exact PureC.out) | exact FlatC.out | exact gt_any rfl | exact gts_nil | (apply gts_cons; (· exact gt_any rfl)) | exact okCells_of rfl rfl | exact rfl | fail)
  have d0 := decide_eq_false g
  rw [if_neg g]
  obtain ⟨k, hk⟩ : ∃ k : Nat, placeC c d = (k : Int) := ⟨(placeC c d).toNat, by omega⟩
  rw [hk] at c0 d0 hpr ⊢
  rw [Int.toNat_natCast]
  cases g1 : isConfB c d with
  | false =>
    rw [g1] at c1
    have e1 : (!false) = true := rfl
    rw [if_pos rfl]
    repeat' (first | refine T_seq ?_ | refine N_then ?_ | refine N_thenR ?_ | refine N_blockR ?_ | refine T_regX tyOk ?_ | refine S_nil ?_ | refine T_ret ?_ | refine T_block ?_ | (apply E_tmp; (· exact rfl); (· (repeat' (first | exact pure_int _ _ | exact pure_bool _ | exact pure_str _); done))) | (apply T_ifT; (· exact rfl); (· (first | assumption | exact rfl))) | (apply T_ifF; (· exact rfl); (· (first | assumption | exact rfl))) | apply S_move | apply S_assign | (apply S_loadW; (· exact rfl); (· exact gt_any rfl); (· exact rfl); (· exact rfl); (· exact rfl); (· exact rfl); (· exact rfl); (· exact rfl)) | apply S_lss | apply S_not | apply S_box | apply S_callQ (f := 100) | apply c0 | apply S_callQ (f := 108) | apply c1 | exact viewL_nil | apply viewL_cons | (apply View.pure; exact PureC.out) | exact FlatC.out | exact gt_any rfl | exact gts_nil | (apply gts_cons; (· exact gt_any rfl)) | exact okCells_of rfl rfl | assumption | exact rfl | fail)
  | true =>
  rw [g1] at c1
  have e1 : (!true) = false := rfl
  rw [if_neg (by decide)]
  have hget := map_getD hdA c.heads Hd0 (k := k) (by omega)
  have eh : headAt c.heads k = c.heads.getD k Hd0 := rfl
  rw [← eh] at hget
  generalize headAt c.heads k = x at *
  have c2 := checkProof_cv x.root e p he hl
  cases g2 : checkL x.root e p with
  | false =>
    rw [g2] at c2
    have e2 : (!false) = true := rfl
    rw [if_pos rfl]
    repeat' (first | refine T_seq ?_ | refine N_then ?_ | refine N_thenR ?_ | refine N_blockR ?_ | refine T_regX tyOk ?_ | (apply T_drawM (id := 6) 8 tyOk mixed; (· exact rfl); (· exact rfl); (· kernel_rfl); (· exact Nat.le_of_ble_eq_true rfl)) | refine S_nil ?_ | refine T_ret ?_ | refine T_block ?_ | (apply E_tmp; (· exact rfl); (· (repeat' (first | exact pure_int _ _ | exact pure_bool _ | exact pure_str _); done))) | (apply T_ifT; (· exact rfl); (· (first | assumption | exact rfl))) | (apply T_ifF; (· exact rfl); (· (first | assumption | exact rfl))) | apply S_move | apply S_assign | (apply S_loadP; (· exact rfl); (· exact gt_any rfl); (· exact rfl); (· exact rfl); (· exact rfl); (· (first | exact ⟨rfl, rfl⟩ | exact ⟨rfl, trivial⟩ | assumption))) | (apply S_loadW; (· exact rfl); (· exact gt_any rfl); (· exact rfl); (· exact rfl); (· exact rfl); (· exact rfl); (· exact rfl); (· exact rfl)) | (apply S_loadV; (· exact rfl); (· exact gt_any rfl); (· exact rfl); (· (first | exact ⟨rfl, rfl⟩ | exact ⟨rfl, trivial⟩ | assumption))) | (apply S_fieldP; (· exact rfl); (· exact rfl); (· exact rfl); (· exact rfl); (· exact gt_any rfl)) | (apply S_fieldV; (· exact rfl); (· exact rfl); (· exact rfl); (· exact rfl); (· exact gt_any rfl)) | apply S_lss | apply S_not | apply S_box | (apply S_idxLs; (· exact rfl); (· exact rfl); (· exact gt_any rfl); (· exact gt_any rfl)) | apply S_callQ (f := 100) | apply c0 | apply S_callQ (f := 108) | apply c1 | apply S_callQ (f := 145) | apply c2 | exact viewL_nil | apply viewL_cons | (apply View.pure; exact PureC.out) | exact FlatC.out | exact gt_any rfl | exact gts_nil | (apply gts_cons; (· exact gt_any rfl)) | exact okCells_of rfl rfl | assumption | (refine ⟨?_, ?_⟩ <;> omega) | exact rfl | fail)
  | true =>
    rw [g2] at c2
    rw [if_neg (by decide)]
    repeat' (first | refine T_seq ?_ | refine N_then ?_ | refine N_block ?_ | refine T_regX tyOk ?_ | (apply T_drawM (id := 6) 8 tyOk mixed; (· exact rfl); (· exact rfl); (· kernel_rfl); (· exact Nat.le_of_ble_eq_true rfl)) | refine S_nil ?_ | refine T_skip ?_ | refine T_ret ?_ | refine T_block ?_ | (apply E_tmp; (· exact rfl); (· (repeat' (first | exact pure_int _ _ | exact pure_bool _ | exact pure_str _); done))) | (apply T_ifF; (· exact rfl); (· (first | assumption | exact rfl))) | apply S_move | apply S_assign | (apply S_loadP; (· exact rfl); (· exact gt_any rfl); (· exact rfl); (· exact rfl); (· exact rfl); (· (first | exact ⟨rfl, rfl⟩ | exact ⟨rfl, trivial⟩ | assumption))) | (apply S_loadW; (· exact rfl); (· exact gt_any rfl); (· exact rfl); (· exact rfl); (· exact rfl); (· exact rfl); (· exact rfl); (· exact rfl)) | (apply S_loadV; (· exact rfl); (· exact gt_any rfl); (· exact rfl); (· (first | exact ⟨rfl, rfl⟩ | exact ⟨rfl, trivial⟩ | assumption))) | (apply S_fieldP; (· exact rfl); (· exact rfl); (· exact rfl); (· exact rfl); (· exact gt_any rfl)) | (apply S_fieldV; (· exact rfl); (· exact rfl); (· exact rfl); (· exact rfl); (· exact gt_any rfl)) | apply S_lss | apply S_not | apply S_box | (apply S_idxLs; (· exact rfl); (· exact rfl); (· exact gt_any rfl); (· exact gt_any rfl)) | apply S_callQ (f := 100) | apply c0 | apply S_callQ (f := 108) | apply c1 | apply S_callQ (f := 145) | apply c2 | exact viewL_nil | apply viewL_cons | (apply View.pure; exact PureC.out) | exact FlatC.out | exact gt_any rfl | exact gts_nil | (apply gts_cons; (· exact gt_any rfl)) | exact okCells_of rfl rfl | assumption | (refine ⟨?_, ?_⟩ <;> omega) | exact rfl | fail)

theorem l6Event_cv (c : Cli) (d e : List UInt8) (p : Prf) (h : cliFault c = 0) (hd : d.length ≤ 1048576) (he : e.length ≤ 100000000) (hl : p.path.length ≤ 1000000000) : CV Tryz.prog 79 [.vp (cliAC c), byA d, byA e, prfA p] (· = .int .i64 (ev6 c d e p)) := by
  refine CV_intro tyOk Tryz.func79 (by kernel_rfl) rfl 36 rfl (by simp) [.tmp 8] rfl ?_
  intro w0 ok0
  obtain ⟨hdep, h1, h2, hJ⟩ := cliFault_zero h
  have cD := l6Digests_cv c.heads (by omega)
  rw [digOrs hJ.1] at cD
  have c0 := l5Place_cv (c.heads.map hdD) d (by rw [List.length_map]; omega) digs_le hd
  have c1 := l6Confirmed_cv c h
  have hcl := confL_le c
  have hmL := mainL_le h1
  have hpr := place_range (c.heads.map hdD) d
  have hP : placeC c d = placeL (c.heads.map hdD) d := rfl
  rw [← hP] at c0 hpr
  rw [List.length_map] at hpr
  have hml : (c.heads.map hdA).length = c.heads.length := by simp
  unfold ev6
  by_cases g : placeC c d < 0
  · have d0 := decide_eq_true g
    rw [if_pos g]
    repeat' (first | refine T_seq ?_ | refine N_then ?_ | refine N_thenR ?_ | refine T_regX tyOk ?_ | refine S_nil ?_ | refine T_ret ?_ | (apply E_tmp; (· exact rfl); (· (repeat' (first | exact pure_int _ _ | exact pure_bool _ | exact pure_str _); done))) | (apply T_ifT; (· exact rfl); (· (first | assumption | exact rfl))) | apply S_move | apply S_assign | (apply S_loadV; (· exact rfl); (· exact gt_any rfl); (· exact rfl); (· (first | exact ⟨rfl, rfl⟩ | exact ⟨rfl, trivial⟩ | assumption))) | (apply S_fieldV; (· exact rfl); (· exact rfl); (· exact rfl); (· exact rfl); (· exact gt_any rfl)) | apply S_lss | apply S_box | (apply S_nilV; (· exact gt_any rfl)) | apply S_call (f := 102) | apply cD | apply S_callQ (f := 111) | apply c0 | exact viewL_nil | apply viewL_cons | (apply View.pure; exact PureC.out) | exact FlatC.out | exact PureLC.out | exact gt_any rfl | exact gts_nil | (apply gts_cons; (· exact gt_any rfl)) | exact okCells_of rfl rfl | exact rfl | fail)
  have d0 := decide_eq_false g
  rw [if_neg g]
  obtain ⟨k, hk⟩ : ∃ k : Nat, placeC c d = (k : Int) := ⟨(placeC c d).toNat, by omega⟩
  rw [isConf_at hk]
  rw [hk] at c0 d0 hpr ⊢
  rw [Int.toNat_natCast]
  have c3 := l1Has_cv (confL c) k (by omega)
  generalize confL c = cf at *
  cases g1 : (cf.any fun y => decide (y = k)) with
  | false =>
    rw [g1] at c3
    have e1 : (!false) = true := rfl
    rw [if_pos rfl]
    repeat' (first | refine T_seq ?_ | refine N_then ?_ | refine N_thenR ?_ | refine T_regX tyOk ?_ | refine S_nil ?_ | refine T_skip ?_ | refine T_ret ?_ | (apply E_tmp; (· exact rfl); (· (repeat' (first | exact pure_int _ _ | exact pure_bool _ | exact pure_str _); done))) | (apply T_ifT; (· exact rfl); (· (first | assumption | exact rfl))) | (apply T_ifF; (· exact rfl); (· (first | assumption | exact rfl))) | apply S_move | apply S_assign | (apply S_loadV; (· exact rfl); (· exact gt_any rfl); (· exact rfl); (· (first | exact ⟨rfl, rfl⟩ | exact ⟨rfl, trivial⟩ | assumption))) | (apply S_fieldV; (· exact rfl); (· exact rfl); (· exact rfl); (· exact rfl); (· exact gt_any rfl)) | apply S_lss | apply S_not | apply S_box | (apply S_nilV; (· exact gt_any rfl)) | apply S_call (f := 102) | apply cD | apply S_callQ (f := 111) | apply c0 | apply S_call (f := 109) | apply c1 | apply S_callQ (f := 143) | apply c3 | exact viewL_nil | apply viewL_cons | (apply View.pure; exact PureC.out) | exact FlatC.out | exact PureLC.out | exact gt_any rfl | exact gts_nil | (apply gts_cons; (· exact gt_any rfl)) | exact okCells_of rfl rfl | assumption | exact rfl | fail)
  | true =>
  rw [g1] at c3
  have e1 : (!true) = false := rfl
  rw [if_neg (by decide)]
  have hget := map_getD hdA c.heads Hd0 (k := k) (by omega)
  have hx := hJ.1 _ (getD_mem c.heads Hd0 (k := k) (by omega))
  have eh : headAt c.heads k = c.heads.getD k Hd0 := rfl
  rw [← eh] at hget hx
  generalize headAt c.heads k = x at *
  have hxl := (hd_zero hx).1
  have c2 := specCheckProof_cv x.root e p (by omega) he hl
  cases g2 : checkL x.root e p with
  | false =>
    rw [g2] at c2
    have e2 : (!false) = true := rfl
    rw [if_pos rfl]
    repeat' (first | refine T_seq ?_ | refine N_then ?_ | refine N_thenR ?_ | refine T_regX tyOk ?_ | (apply T_drawM (id := 6) 10 tyOk mixed; (· exact rfl); (· exact rfl); (· kernel_rfl); (· exact Nat.le_of_ble_eq_true rfl)) | refine S_nil ?_ | refine T_skip ?_ | refine T_ret ?_ | (apply E_tmp; (· exact rfl); (· (repeat' (first | exact pure_int _ _ | exact pure_bool _ | exact pure_str _); done))) | (apply T_ifT; (· exact rfl); (· (first | assumption | exact rfl))) | (apply T_ifF; (· exact rfl); (· (first | assumption | exact rfl))) | apply S_move | apply S_assign | (apply S_loadW; (· exact rfl); (· exact gt_any rfl); (· exact rfl); (· exact rfl); (· exact rfl); (· exact rfl); (· exact rfl); (· exact rfl)) | (apply S_loadV; (· exact rfl); (· exact gt_any rfl); (· exact rfl); (· (first | exact ⟨rfl, rfl⟩ | exact ⟨rfl, trivial⟩ | assumption))) | (apply S_fieldV; (· exact rfl); (· exact rfl); (· exact rfl); (· exact rfl); (· exact gt_any rfl)) | apply S_lss | apply S_not | apply S_box | (apply S_idxLs; (· exact rfl); (· exact rfl); (· exact gt_any rfl); (· exact gt_any rfl)) | (apply S_nilV; (· exact gt_any rfl)) | apply S_call (f := 102) | apply cD | apply S_callQ (f := 111) | apply c0 | apply S_call (f := 109) | apply c1 | apply S_callQ (f := 143) | apply c3 | apply S_callQ (f := 144) | apply c2 | exact viewL_nil | apply viewL_cons | (apply View.pure; exact PureC.out) | exact FlatC.out | exact PureLC.out | exact gt_any rfl | exact gts_nil | (apply gts_cons; (· exact gt_any rfl)) | exact okCells_of rfl rfl | assumption | (refine ⟨?_, ?_⟩ <;> omega) | exact rfl | fail)
  | true =>
    rw [g2] at c2
    rw [if_neg (by decide)]
    repeat' (first | refine T_seq ?_ | refine N_then ?_ | refine T_regX tyOk ?_ | (apply T_drawM (id := 6) 10 tyOk mixed; (· exact rfl); (· exact rfl); (· kernel_rfl); (· exact Nat.le_of_ble_eq_true rfl)) | refine S_nil ?_ | refine T_skip ?_ | refine T_ret ?_ | (apply E_tmp; (· exact rfl); (· (repeat' (first | exact pure_int _ _ | exact pure_bool _ | exact pure_str _); done))) | (apply T_ifF; (· exact rfl); (· (first | assumption | exact rfl))) | apply S_move | apply S_assign | (apply S_loadW; (· exact rfl); (· exact gt_any rfl); (· exact rfl); (· exact rfl); (· exact rfl); (· exact rfl); (· exact rfl); (· exact rfl)) | (apply S_loadV; (· exact rfl); (· exact gt_any rfl); (· exact rfl); (· (first | exact ⟨rfl, rfl⟩ | exact ⟨rfl, trivial⟩ | assumption))) | (apply S_fieldV; (· exact rfl); (· exact rfl); (· exact rfl); (· exact rfl); (· exact gt_any rfl)) | apply S_lss | apply S_not | apply S_box | (apply S_idxLs; (· exact rfl); (· exact rfl); (· exact gt_any rfl); (· exact gt_any rfl)) | (apply S_nilV; (· exact gt_any rfl)) | apply S_call (f := 102) | apply cD | apply S_callQ (f := 111) | apply c0 | apply S_call (f := 109) | apply c1 | apply S_callQ (f := 143) | apply c3 | apply S_callQ (f := 144) | apply c2 | exact viewL_nil | apply viewL_cons | (apply View.pure; exact PureC.out) | exact FlatC.out | exact PureLC.out | exact gt_any rfl | exact gts_nil | (apply gts_cons; (· exact gt_any rfl)) | exact okCells_of rfl rfl | assumption | (refine ⟨?_, ?_⟩ <;> omega) | exact rfl | fail)

theorem implCheckEvent_cv (c : Cli) (d e : List UInt8) (p : Prf) (hc : c.heads.length ≤ 1048576) (he : e.length ≤ 100000000) (hl : p.path.length ≤ 1000000000) : CV Tryz.prog 32 [cliA c, byA d, byA e, prfA p] (· = .int .i64 (ev6V c d e p)) := by
  refine CV_intro tyOk Tryz.func32 (by kernel_rfl) rfl 20 rfl (by simp) [.tmp 8] rfl ?_
  intro w0 ok0
  have c0 := cliFault_cv c hc
  by_cases g : cliFault c = 0
  · rw [show ev6V c d e p = ev6 c d e p from if_pos g]
    rw [g] at c0
    have d0 : (!decide ((0 : Int) = 0)) = false := rfl
    have c1 := checkEvent_cv c d e p g he hl
    repeat' (first | refine T_seq ?_ | refine N_then ?_ | refine T_regX tyOk ?_ | refine S_nil ?_ | refine T_skip ?_ | refine T_ret ?_ | (apply E_tmp; (· exact rfl); (· (repeat' (first | exact pure_int _ _ | exact pure_bool _ | exact pure_str _); done))) | (apply T_ifF; (· exact rfl); (· (first | assumption | exact rfl))) | apply S_move | apply S_assign | (apply S_loadW; (· exact rfl); (· exact gt_any rfl); (· exact rfl); (· exact rfl); (· exact rfl); (· exact rfl); (· exact rfl); (· exact rfl)) | (apply S_neq; (· exact gt_any rfl); (· exact gt_any rfl)) | apply S_box | apply S_callQ (f := 44) | apply c0 | apply S_callQ (f := 81) | apply c1 | exact viewL_nil | apply viewL_cons | (apply View.pure; exact PureC.out) | exact FlatC.out | exact gt_any rfl | exact gts_nil | (apply gts_cons; (· exact gt_any rfl)) | exact okCells_of rfl rfl | exact rfl | fail)
  · rw [show ev6V c d e p = cliFault c from if_neg g]
    have d0 : (!decide (cliFault c = 0)) = true := by rw [decide_eq_false g]; rfl
    repeat' (first | refine T_seq ?_ | refine N_then ?_ | refine N_thenR ?_ | refine T_regX tyOk ?_ | refine S_nil ?_ | refine T_ret ?_ | (apply E_tmp; (· exact rfl); (· (repeat' (first | exact pure_int _ _ | exact pure_bool _ | exact pure_str _); done))) | (apply T_ifT; (· exact rfl); (· (first | assumption | exact rfl))) | apply S_move | apply S_assign | (apply S_loadW; (· exact rfl); (· exact gt_any rfl); (· exact rfl); (· exact rfl); (· exact rfl); (· exact rfl); (· exact rfl); (· exact rfl)) | (apply S_neq; (· exact gt_any rfl); (· exact gt_any rfl)) | apply S_box | apply S_callQ (f := 44) | apply c0 | exact viewL_nil | apply viewL_cons | (apply View.pure; exact PureC.out) | exact FlatC.out | exact gt_any rfl | exact gts_nil | (apply gts_cons; (· exact gt_any rfl)) | exact okCells_of rfl rfl | exact rfl | fail)

theorem specCheckEvent_cv (c : Cli) (d e : List UInt8) (p : Prf) (hc : c.heads.length ≤ 1048576) (hd : d.length ≤ 1048576) (he : e.length ≤ 100000000) (hl : p.path.length ≤ 1000000000) : CV Tryz.prog 28 [cliA c, byA d, byA e, prfA p] (· = .int .i64 (ev6V c d e p)) := by
  refine CV_intro tyOk Tryz.func28 (by kernel_rfl) rfl 19 rfl (by simp) [.tmp 8] rfl ?_
  intro w0 ok0
  have c0 := specCliFault_cv c hc
  by_cases g : cliFault c = 0
  · rw [show ev6V c d e p = ev6 c d e p from if_pos g]
    rw [g] at c0
    have d0 : (!decide ((0 : Int) = 0)) = false := rfl
    have c1 := l6Event_cv c d e p g hd he hl
    repeat' (first | refine T_seq ?_ | refine N_then ?_ | refine T_regX tyOk ?_ | refine S_nil ?_ | refine T_skip ?_ | refine T_ret ?_ | (apply E_tmp; (· exact rfl); (· (repeat' (first | exact pure_int _ _ | exact pure_bool _ | exact pure_str _); done))) | (apply T_ifF; (· exact rfl); (· (first | assumption | exact rfl))) | apply S_move | apply S_assign | (apply S_loadW; (· exact rfl); (· exact gt_any rfl); (· exact rfl); (· exact rfl); (· exact rfl); (· exact rfl); (· exact rfl); (· exact rfl)) | (apply S_neq; (· exact gt_any rfl); (· exact gt_any rfl)) | apply S_box | apply S_callQ (f := 43) | apply c0 | apply S_callQ (f := 79) | apply c1 | exact viewL_nil | apply viewL_cons | (apply View.pure; exact PureC.out) | (apply view_ptr; (· exact rfl); (· exact rfl)) | exact FlatC.out | exact gt_any rfl | exact gts_nil | (apply gts_cons; (· exact gt_any rfl)) | exact okCells_of rfl rfl | exact rfl | fail)
  · rw [show ev6V c d e p = cliFault c from if_neg g]
    have d0 : (!decide (cliFault c = 0)) = true := by rw [decide_eq_false g]; rfl
    repeat' (first | refine T_seq ?_ | refine N_then ?_ | refine N_thenR ?_ | refine T_regX tyOk ?_ | refine S_nil ?_ | refine T_ret ?_ | (apply E_tmp; (· exact rfl); (· (repeat' (first | exact pure_int _ _ | exact pure_bool _ | exact pure_str _); done))) | (apply T_ifT; (· exact rfl); (· (first | assumption | exact rfl))) | apply S_move | apply S_assign | (apply S_loadW; (· exact rfl); (· exact gt_any rfl); (· exact rfl); (· exact rfl); (· exact rfl); (· exact rfl); (· exact rfl); (· exact rfl)) | (apply S_neq; (· exact gt_any rfl); (· exact gt_any rfl)) | apply S_box | apply S_callQ (f := 43) | apply c0 | exact viewL_nil | apply viewL_cons | (apply View.pure; exact PureC.out) | exact FlatC.out | exact gt_any rfl | exact gts_nil | (apply gts_cons; (· exact gt_any rfl)) | exact okCells_of rfl rfl | exact rfl | fail)

end Go.Proofs.YtaolmfgpebncjaaGreat
