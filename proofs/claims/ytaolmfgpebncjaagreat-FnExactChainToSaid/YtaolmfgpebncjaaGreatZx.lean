/- Heads: may one stand behind others. -/
import Derived.Test.YtaolmfgpebncjaaGreatZw
set_option maxRecDepth 100000
set_option maxHeartbeats 3200000
set_option linter.unusedSimpArgs false
set_option linter.unusedVariables false
namespace Go.Proofs.YtaolmfgpebncjaaGreat
open Go.Av
attribute [local irreducible] T thenQ blockQ againQ againS WX retV retR Gt Gts GtsP okCells CV CR Av.Pure
attribute [local irreducible] sha zerosL lz8 hdD hdFault parI zerosN

theorem place_any (hs : List Hd) (d : List UInt8) : decide (0 ≤ placeL (hs.map hdD) d) = hs.any fun y => decide (hdD y = d) := by
  have : placeL (hs.map hdD) d = idxL (fun y => decide (hdD y = d)) hs := idxL_map hdD _ hs
  rw [this, idxL_any]
theorem chain_ok {hs : List Hd} (hJ : Joined hs) {p : Nat} (hp : p < hs.length) : ∀ y ∈ chainL hs p, hdFault y = 0 := fun y hy => by
  obtain ⟨j, hj, rfl⟩ := List.mem_map.1 hy
  have := wayD_mem hs hp (List.mem_reverse.1 hj)
  exact hJ.1 _ (getD_mem hs Hd0 (by omega))
attribute [local irreducible] wayD chainL

def joinF (hs : List Hd) (x : Hd) : Int :=
  if 0 ≤ placeL (hs.map hdD) (hdD x) then 7 else if placeL (hs.map hdD) x.parent < 0 then 4
  else if ¬ x.height = (hs.getD (placeL (hs.map hdD) x.parent).toNat Hd0).height + 1 ∨ x.time ≤ (hs.getD (placeL (hs.map hdD) x.parent).toNat Hd0).time ∨ ¬ x.zeros = zerosN (chainL hs (placeL (hs.map hdD) x.parent).toNat) then 1 else 0

theorem joinFault_cv (hs : List Hd) (x : Hd) (hJ : Joined hs) (hx : hdFault x = 0) (hl : hs.length ≤ 100000) : CV Tryz.prog 74 [hdAS hs, hdA x] (· = .int .i64 (joinF hs x)) := by
  refine CV_intro tyOk Tryz.func74 (by kernel_rfl) rfl 47 rfl (by simp) [.tmp 4] rfl ?_
  intro w0 ok0
  have c0 := hdDigest_cv x hx
  have c1 := containsHd_cv 138 [.vp [byA (hdD x)]] hs (fun y => decide (hdD y = hdD x)) inferInstance (by repeat' (first | exact viewL_nil | apply viewL_cons | (apply View.pure; exact PureC.out))) (by omega) (fun y hy => joinFault1_cv y (hdD x) (hJ.1 y hy))
  rw [← place_any] at c1
  have c2 := parentOf_cv hs x (by omega) hJ.1
  unfold joinF
  by_cases g0 : 0 ≤ placeL (hs.map hdD) (hdD x)
  · have d0 := decide_eq_true g0
    rw [if_pos g0]
    rw [d0] at c1
    repeat' (first | refine T_seq ?_ | refine N_then ?_ | refine N_thenR ?_ | refine T_regX tyOk ?_ | refine S_nil ?_ | refine T_ret ?_ | (apply E_tmp; (· exact rfl); (· (repeat' (first | exact pure_int _ _ | exact pure_bool _ | exact pure_str _); done))) | (apply T_ifT; (· exact rfl); (· (first | assumption | exact rfl))) | apply S_move | apply S_assign | (apply S_loadW; (· exact rfl); (· exact gt_any rfl); (· exact rfl); (· exact rfl); (· exact rfl); (· exact rfl); (· exact rfl); (· exact rfl)) | apply S_alloc | apply S_box | (apply S_store1; (· exact rfl); (· exact gt_any rfl); (· exact rfl); (· exact rfl); (· exact rfl); (· exact rfl)) | apply S_mkfn | apply S_call (f := 71) | apply c0 | apply S_callQ (f := 137) | apply c1 | exact viewL_nil | apply viewL_cons | (apply View.pure; exact PureC.out) | (apply view_ptr; (· exact rfl); (· exact rfl)) | exact FlatC.out | apply view_fn | exact PureLC.out | exact gt_any rfl | exact gts_nil | (apply gts_cons; (· exact gt_any rfl)) | exact okCells_of rfl rfl | exact rfl | fail)
  have d0 := decide_eq_false g0
  rw [if_neg g0]
  rw [d0] at c1
  have hpr := place_range (hs.map hdD) x.parent
  rw [List.length_map] at hpr
  by_cases g1 : placeL (hs.map hdD) x.parent < 0
  · have d1 := decide_eq_true g1
    rw [if_pos g1]
    repeat' (first | refine T_seq ?_ | refine N_then ?_ | refine N_thenR ?_ | refine T_regX tyOk ?_ | refine S_nil ?_ | refine T_skip ?_ | refine T_ret ?_ | (apply E_tmp; (· exact rfl); (· (repeat' (first | exact pure_int _ _ | exact pure_bool _ | exact pure_str _); done))) | (apply T_ifT; (· exact rfl); (· (first | assumption | exact rfl))) | (apply T_ifF; (· exact rfl); (· (first | assumption | exact rfl))) | apply S_move | apply S_assign | (apply S_loadW; (· exact rfl); (· exact gt_any rfl); (· exact rfl); (· exact rfl); (· exact rfl); (· exact rfl); (· exact rfl); (· exact rfl)) | apply S_lss | apply S_alloc | apply S_box | (apply S_store1; (· exact rfl); (· exact gt_any rfl); (· exact rfl); (· exact rfl); (· exact rfl); (· exact rfl)) | apply S_mkfn | apply S_call (f := 71) | apply c0 | apply S_callQ (f := 137) | apply c1 | apply S_callQ (f := 119) | apply c2 | exact viewL_nil | apply viewL_cons | (apply View.pure; exact PureC.out) | (apply view_ptr; (· exact rfl); (· exact rfl)) | exact FlatC.out | apply view_fn | exact PureLC.out | exact gt_any rfl | exact gts_nil | (apply gts_cons; (· exact gt_any rfl)) | exact okCells_of rfl rfl | exact rfl | fail)
  · rw [if_neg g1]
    obtain ⟨p, hpe⟩ : ∃ p : Nat, placeL (hs.map hdD) x.parent = (p : Int) := ⟨(placeL (hs.map hdD) x.parent).toNat, by omega⟩
    rw [hpe] at hpr c2 ⊢
    have d1 : decide ((p : Int) < 0) = false := decide_eq_false (by omega)
    have hp : p < hs.length := by omega
    rw [Int.toNat_natCast]
    have hml : (hs.map hdA).length = hs.length := by simp
    have hget := map_getD hdA hs Hd0 (k := p) hp
    have hcl := chainL_length hs p
    have hcl1 : 0 < (chainL hs p).length := by rw [hcl]; exact wayD_pos hs p
    have hcl2 : (chainL hs p).length ≤ 1000000 := by have := wayD_le hs hp; omega
    have hcl3 : ∀ y ∈ chainL hs p, hdFault y = 0 := chain_ok hJ hp
    have c3 := chainTo_cv hs p hJ hp (by omega)
    have c4 := headsAt_cv hs p hp hl
    have c5 := nextZeros_cv (chainL hs p) hcl1 hcl2 hcl3
    have zy := (hd_zero (hJ.1 _ (getD_mem hs Hd0 hp))).2
    generalize zerosN (chainL hs p) = Z at *
    generalize hs.getD p Hd0 = y at *
    have w1 : IntKind.wrap .i64 (y.height + 1) = y.height + 1 := wrap_i64 (by omega) (by omega)
    by_cases a1 : x.height = y.height + 1
    · have e1 : (!decide (x.height = y.height + 1)) = false := by rw [decide_eq_true a1]; rfl
      by_cases a2 : x.time ≤ y.time
      · have e2 := decide_eq_true a2
        rw [if_pos (Or.inr (Or.inl a2))]
        repeat' (first | refine T_seq ?_ | refine N_then ?_ | refine N_thenR ?_ | refine T_regX tyOk ?_ | (apply T_drawAll tyOk mixed; (· kernel_rfl)) | refine S_nil ?_ | refine T_skip ?_ | refine T_ret ?_ | (apply E_tmp; (· exact rfl); (· (repeat' (first | exact pure_int _ _ | exact pure_bool _ | exact pure_str _); done))) | (apply T_ifT; (· exact rfl); (· (first | assumption | exact rfl))) | (apply T_ifF; (· exact rfl); (· (first | assumption | exact rfl))) | (apply S_gf; (· exact rfl); (· exact rfl); (· (first | assumption | exact rfl))) | (apply S_gfT'; (· exact rfl); (· exact rfl); (· exact rfl); (· (first | assumption | exact rfl))) | apply S_move | apply S_assign | (apply S_pickT; (· exact gt_any rfl); (· (first | assumption | exact rfl))) | (apply S_pickF; (· exact gt_any rfl); (· (first | assumption | exact rfl))) | (apply S_loadP; (· exact rfl); (· exact gt_any rfl); (· exact rfl); (· exact rfl); (· exact rfl); (· (first | exact ⟨rfl, rfl⟩ | exact ⟨rfl, trivial⟩ | assumption))) | (apply S_loadW; (· exact rfl); (· exact gt_any rfl); (· exact rfl); (· exact rfl); (· exact rfl); (· exact rfl); (· exact rfl); (· exact rfl)) | (apply S_loadV; (· exact rfl); (· exact gt_any rfl); (· exact rfl); (· (first | exact ⟨rfl, rfl⟩ | exact ⟨rfl, trivial⟩ | assumption))) | (apply S_fieldP; (· exact rfl); (· exact rfl); (· exact rfl); (· exact rfl); (· exact gt_any rfl)) | (apply S_fieldV; (· exact rfl); (· exact rfl); (· exact rfl); (· exact rfl); (· exact gt_any rfl)) | apply S_lss | apply S_leq | (apply S_neq; (· exact gt_any rfl); (· exact gt_any rfl)) | apply S_add | apply S_alloc | apply S_box | (apply S_store1; (· exact rfl); (· exact gt_any rfl); (· exact rfl); (· exact rfl); (· exact rfl); (· exact rfl)) | (apply S_idxLs; (· exact rfl); (· exact rfl); (· exact gt_any rfl); (· exact gt_any rfl)) | apply S_mkfn | apply S_call (f := 71) | apply c0 | apply S_callQ (f := 137) | apply c1 | apply S_callQ (f := 119) | apply c2 | exact viewL_nil | apply viewL_cons | (apply View.pure; exact PureC.out) | (apply view_ptr; (· exact rfl); (· exact rfl)) | exact FlatC.out | apply view_fn | exact PureLC.out | exact gt_any rfl | exact gts_nil | (apply gts_cons; (· exact gt_any rfl)) | exact okCells_of rfl rfl | assumption | (refine ⟨?_, ?_⟩ <;> omega) | exact rfl | fail)
      · have e2 := decide_eq_false a2
        by_cases a3 : x.zeros = Z
        · have e3 : (!decide (x.zeros = Z)) = false := by rw [decide_eq_true a3]; rfl
          rw [if_neg (fun k => k.elim (fun k => k a1) (fun k => k.elim a2 (fun k => k a3)))]
          repeat' (first | refine T_seq ?_ | refine N_then ?_ | refine T_regX tyOk ?_ | (apply T_drawAll tyOk mixed; (· kernel_rfl)) | refine S_nil ?_ | refine T_skip ?_ | refine T_ret ?_ | (apply E_tmp; (· exact rfl); (· (repeat' (first | exact pure_int _ _ | exact pure_bool _ | exact pure_str _); done))) | (apply T_ifF; (· exact rfl); (· (first | assumption | exact rfl))) | (apply S_gf; (· exact rfl); (· exact rfl); (· (first | assumption | exact rfl))) | apply S_move | apply S_assign | (apply S_pickF; (· exact gt_any rfl); (· (first | assumption | exact rfl))) | (apply S_loadP; (· exact rfl); (· exact gt_any rfl); (· exact rfl); (· exact rfl); (· exact rfl); (· (first | exact ⟨rfl, rfl⟩ | exact ⟨rfl, trivial⟩ | assumption))) | (apply S_loadW; (· exact rfl); (· exact gt_any rfl); (· exact rfl); (· exact rfl); (· exact rfl); (· exact rfl); (· exact rfl); (· exact rfl)) | (apply S_loadV; (· exact rfl); (· exact gt_any rfl); (· exact rfl); (· (first | exact ⟨rfl, rfl⟩ | exact ⟨rfl, trivial⟩ | assumption))) | (apply S_fieldP; (· exact rfl); (· exact rfl); (· exact rfl); (· exact rfl); (· exact gt_any rfl)) | (apply S_fieldV; (· exact rfl); (· exact rfl); (· exact rfl); (· exact rfl); (· exact gt_any rfl)) | apply S_lss | apply S_leq | (apply S_neq; (· exact gt_any rfl); (· exact gt_any rfl)) | apply S_add | apply S_alloc | apply S_box | (apply S_store1; (· exact rfl); (· exact gt_any rfl); (· exact rfl); (· exact rfl); (· exact rfl); (· exact rfl)) | (apply S_idxLs; (· exact rfl); (· exact rfl); (· exact gt_any rfl); (· exact gt_any rfl)) | apply S_mkfn | apply S_call (f := 71) | apply c0 | apply S_callQ (f := 137) | apply c1 | apply S_callQ (f := 119) | apply c2 | apply S_call (f := 58) | apply c3 | apply S_call (f := 70) | apply c4 | apply S_callQ (f := 69) | apply c5 | exact viewL_nil | apply viewL_cons | (apply View.pure; exact PureC.out) | (apply view_ptr; (· exact rfl); (· exact rfl)) | exact FlatC.out | apply view_fn | exact PureLC.out | exact gt_any rfl | exact gts_nil | (apply gts_cons; (· exact gt_any rfl)) | exact okCells_of rfl rfl | assumption | (refine ⟨?_, ?_⟩ <;> omega) | exact rfl | fail)
        · have e3 : (!decide (x.zeros = Z)) = true := by rw [decide_eq_false a3]; rfl
          rw [if_pos (Or.inr (Or.inr a3))]
          repeat' (first | refine T_seq ?_ | refine N_then ?_ | refine N_thenR ?_ | refine T_regX tyOk ?_ | (apply T_drawAll tyOk mixed; (· kernel_rfl)) | refine S_nil ?_ | refine T_skip ?_ | refine T_ret ?_ | (apply E_tmp; (· exact rfl); (· (repeat' (first | exact pure_int _ _ | exact pure_bool _ | exact pure_str _); done))) | (apply T_ifT; (· exact rfl); (· (first | assumption | exact rfl))) | (apply T_ifF; (· exact rfl); (· (first | assumption | exact rfl))) | (apply S_gf; (· exact rfl); (· exact rfl); (· (first | assumption | exact rfl))) | apply S_move | apply S_assign | (apply S_pickF; (· exact gt_any rfl); (· (first | assumption | exact rfl))) | (apply S_loadP; (· exact rfl); (· exact gt_any rfl); (· exact rfl); (· exact rfl); (· exact rfl); (· (first | exact ⟨rfl, rfl⟩ | exact ⟨rfl, trivial⟩ | assumption))) | (apply S_loadW; (· exact rfl); (· exact gt_any rfl); (· exact rfl); (· exact rfl); (· exact rfl); (· exact rfl); (· exact rfl); (· exact rfl)) | (apply S_loadV; (· exact rfl); (· exact gt_any rfl); (· exact rfl); (· (first | exact ⟨rfl, rfl⟩ | exact ⟨rfl, trivial⟩ | assumption))) | (apply S_fieldP; (· exact rfl); (· exact rfl); (· exact rfl); (· exact rfl); (· exact gt_any rfl)) | (apply S_fieldV; (· exact rfl); (· exact rfl); (· exact rfl); (· exact rfl); (· exact gt_any rfl)) | apply S_lss | apply S_leq | (apply S_neq; (· exact gt_any rfl); (· exact gt_any rfl)) | apply S_add | apply S_alloc | apply S_box | (apply S_store1; (· exact rfl); (· exact gt_any rfl); (· exact rfl); (· exact rfl); (· exact rfl); (· exact rfl)) | (apply S_idxLs; (· exact rfl); (· exact rfl); (· exact gt_any rfl); (· exact gt_any rfl)) | apply S_mkfn | apply S_call (f := 71) | apply c0 | apply S_callQ (f := 137) | apply c1 | apply S_callQ (f := 119) | apply c2 | apply S_call (f := 58) | apply c3 | apply S_call (f := 70) | apply c4 | apply S_callQ (f := 69) | apply c5 | exact viewL_nil | apply viewL_cons | (apply View.pure; exact PureC.out) | (apply view_ptr; (· exact rfl); (· exact rfl)) | exact FlatC.out | apply view_fn | exact PureLC.out | exact gt_any rfl | exact gts_nil | (apply gts_cons; (· exact gt_any rfl)) | exact okCells_of rfl rfl | assumption | (refine ⟨?_, ?_⟩ <;> omega) | exact rfl | fail)
    · have e1 : (!decide (x.height = y.height + 1)) = true := by rw [decide_eq_false a1]; rfl
      rw [if_pos (Or.inl a1)]
      repeat' (first | refine T_seq ?_ | refine N_then ?_ | refine N_thenR ?_ | refine T_regX tyOk ?_ | (apply T_drawAll tyOk mixed; (· kernel_rfl)) | refine S_nil ?_ | refine T_skip ?_ | refine T_ret ?_ | (apply E_tmp; (· exact rfl); (· (repeat' (first | exact pure_int _ _ | exact pure_bool _ | exact pure_str _); done))) | (apply T_ifT; (· exact rfl); (· (first | assumption | exact rfl))) | (apply T_ifF; (· exact rfl); (· (first | assumption | exact rfl))) | (apply S_gfT'; (· exact rfl); (· exact rfl); (· exact rfl); (· (first | assumption | exact rfl))) | apply S_move | apply S_assign | (apply S_pickT; (· exact gt_any rfl); (· (first | assumption | exact rfl))) | (apply S_loadP; (· exact rfl); (· exact gt_any rfl); (· exact rfl); (· exact rfl); (· exact rfl); (· (first | exact ⟨rfl, rfl⟩ | exact ⟨rfl, trivial⟩ | assumption))) | (apply S_loadW; (· exact rfl); (· exact gt_any rfl); (· exact rfl); (· exact rfl); (· exact rfl); (· exact rfl); (· exact rfl); (· exact rfl)) | (apply S_loadV; (· exact rfl); (· exact gt_any rfl); (· exact rfl); (· (first | exact ⟨rfl, rfl⟩ | exact ⟨rfl, trivial⟩ | assumption))) | (apply S_fieldP; (· exact rfl); (· exact rfl); (· exact rfl); (· exact rfl); (· exact gt_any rfl)) | (apply S_fieldV; (· exact rfl); (· exact rfl); (· exact rfl); (· exact rfl); (· exact gt_any rfl)) | apply S_lss | (apply S_neq; (· exact gt_any rfl); (· exact gt_any rfl)) | apply S_add | apply S_alloc | apply S_box | (apply S_store1; (· exact rfl); (· exact gt_any rfl); (· exact rfl); (· exact rfl); (· exact rfl); (· exact rfl)) | (apply S_idxLs; (· exact rfl); (· exact rfl); (· exact gt_any rfl); (· exact gt_any rfl)) | apply S_mkfn | apply S_call (f := 71) | apply c0 | apply S_callQ (f := 137) | apply c1 | apply S_callQ (f := 119) | apply c2 | exact viewL_nil | apply viewL_cons | (apply View.pure; exact PureC.out) | (apply view_ptr; (· exact rfl); (· exact rfl)) | exact FlatC.out | apply view_fn | exact PureLC.out | exact gt_any rfl | exact gts_nil | (apply gts_cons; (· exact gt_any rfl)) | exact okCells_of rfl rfl | assumption | (refine ⟨?_, ?_⟩ <;> omega) | exact rfl | fail)

theorem l5Next_cv (hs : List Hd) (x : Hd) (hJ : Joined hs) (hx : hdFault x = 0) (hl : hs.length ≤ 100000) : CV Tryz.prog 105 [hdAS hs, rowsA (hs.map hdD), hdA x] (· = .int .i64 (joinF hs x)) := by
  refine CV_intro tyOk Tryz.func105 (by kernel_rfl) rfl 48 rfl (by simp) [.tmp 6] rfl ?_
  intro w0 ok0
  have hps : ∀ y ∈ hs, y.parent.length ≤ 1000000 := fun y hy => by have := (hd_zero (hJ.1 y hy)).1; omega
  have hws : ∀ w ∈ hs.map hdD, w.length ≤ 1000000 := fun w hw => by
    obtain ⟨y, _, rfl⟩ := List.mem_map.1 hw
    rw [hdD_length]; decide
  have hxl := (hd_zero hx).1
  have hdl := hdD_length x
  have c0 := l5Digest_cv x hx
  have c1 := l5Place_cv (hs.map hdD) (hdD x) (by rw [List.length_map]; omega) hws (by omega)
  have c2 := l5Place_cv (hs.map hdD) x.parent (by rw [List.length_map]; omega) hws (by omega)
  unfold joinF
  by_cases g0 : 0 ≤ placeL (hs.map hdD) (hdD x)
  · have d0 := decide_eq_true g0
    rw [if_pos g0]
    repeat' (first | refine T_seq ?_ | refine N_then ?_ | refine N_thenR ?_ | refine T_regX tyOk ?_ | refine S_nil ?_ | refine T_ret ?_ | (apply E_tmp; (· exact rfl); (· (repeat' (first | exact pure_int _ _ | exact pure_bool _ | exact pure_str _); done))) | (apply T_ifT; (· exact rfl); (· (first | assumption | exact rfl))) | apply S_move | apply S_assign | (apply S_loadW; (· exact rfl); (· exact gt_any rfl); (· exact rfl); (· exact rfl); (· exact rfl); (· exact rfl); (· exact rfl); (· exact rfl)) | apply S_geq | apply S_box | apply S_callW (f := 124) | apply c0 | apply S_callQ (f := 111) | apply c1 | exact viewL_nil | apply viewL_cons | (apply View.pure; exact PureC.out) | exact FlatC.out | exact gt_any rfl | exact gts_nil | (apply gts_cons; (· exact gt_any rfl)) | exact okCells_of rfl rfl | exact rfl | fail)
  have d0 := decide_eq_false g0
  rw [if_neg g0]
  have hpr := place_range (hs.map hdD) x.parent
  rw [List.length_map] at hpr
  by_cases g1 : placeL (hs.map hdD) x.parent < 0
  · have d1 := decide_eq_true g1
    rw [if_pos g1]
    repeat' (first | refine T_seq ?_ | refine N_then ?_ | refine N_thenR ?_ | refine T_regX tyOk ?_ | refine S_nil ?_ | refine T_skip ?_ | refine T_ret ?_ | (apply E_tmp; (· exact rfl); (· (repeat' (first | exact pure_int _ _ | exact pure_bool _ | exact pure_str _); done))) | (apply T_ifT; (· exact rfl); (· (first | assumption | exact rfl))) | (apply T_ifF; (· exact rfl); (· (first | assumption | exact rfl))) | apply S_move | apply S_assign | (apply S_loadP; (· exact rfl); (· exact gt_any rfl); (· exact rfl); (· exact rfl); (· exact rfl); (· (first | exact ⟨rfl, rfl⟩ | exact ⟨rfl, trivial⟩ | assumption))) | (apply S_loadW; (· exact rfl); (· exact gt_any rfl); (· exact rfl); (· exact rfl); (· exact rfl); (· exact rfl); (· exact rfl); (· exact rfl)) | (apply S_fieldP; (· exact rfl); (· exact rfl); (· exact rfl); (· exact rfl); (· exact gt_any rfl)) | apply S_lss | apply S_geq | apply S_box | apply S_callW (f := 124) | apply c0 | apply S_callQ (f := 111) | apply c1 | apply c2 | exact viewL_nil | apply viewL_cons | (apply View.pure; exact PureC.out) | exact FlatC.out | exact gt_any rfl | exact gts_nil | (apply gts_cons; (· exact gt_any rfl)) | exact okCells_of rfl rfl | exact rfl | fail)
  · rw [if_neg g1]
    obtain ⟨p, hpe⟩ : ∃ p : Nat, placeL (hs.map hdD) x.parent = (p : Int) := ⟨(placeL (hs.map hdD) x.parent).toNat, by omega⟩
    rw [hpe] at hpr c2 ⊢
    have d1 : decide ((p : Int) < 0) = false := decide_eq_false (by omega)
    have hp : p < hs.length := by omega
    rw [Int.toNat_natCast]
    have hml : (hs.map hdA).length = hs.length := by simp
    have hget := map_getD hdA hs Hd0 (k := p) hp
    have hcl := chainL_length hs p
    have hcl1 : 0 < (chainL hs p).length := by rw [hcl]; exact wayD_pos hs p
    have hcl2 : (chainL hs p).length ≤ 1000000 := by have := wayD_le hs hp; omega
    have hcl3 : ∀ y ∈ chainL hs p, hdFault y = 0 := chain_ok hJ hp
    have c3 := l5Chain_cv hs p hJ hp hl hps
    have c4 := l5Zeros_cv (chainL hs p) hcl1 hcl2 hcl3
    have zy := (hd_zero (hJ.1 _ (getD_mem hs Hd0 hp))).2
    generalize zerosN (chainL hs p) = Z at *
    generalize hs.getD p Hd0 = y at *
    have w1 : IntKind.wrap .i64 (y.height + 1) = y.height + 1 := wrap_i64 (by omega) (by omega)
    by_cases a1 : x.height = y.height + 1
    · have e1 : (!decide (x.height = y.height + 1)) = false := by rw [decide_eq_true a1]; rfl
      by_cases a2 : x.time ≤ y.time
      · have e2 := decide_eq_true a2
        rw [if_pos (Or.inr (Or.inl a2))]
        repeat' (first | refine T_seq ?_ | refine N_then ?_ | refine N_thenR ?_ | refine T_regX tyOk ?_ | (apply T_drawAll tyOk mixed; (· kernel_rfl)) | refine S_nil ?_ | refine T_skip ?_ | refine T_ret ?_ | (apply E_tmp; (· exact rfl); (· (repeat' (first | exact pure_int _ _ | exact pure_bool _ | exact pure_str _); done))) | (apply T_ifT; (· exact rfl); (· (first | assumption | exact rfl))) | (apply T_ifF; (· exact rfl); (· (first | assumption | exact rfl))) | (apply S_gf; (· exact rfl); (· exact rfl); (· (first | assumption | exact rfl))) | (apply S_gfT'; (· exact rfl); (· exact rfl); (· exact rfl); (· (first | assumption | exact rfl))) | apply S_move | apply S_assign | (apply S_pickT; (· exact gt_any rfl); (· (first | assumption | exact rfl))) | (apply S_pickF; (· exact gt_any rfl); (· (first | assumption | exact rfl))) | (apply S_loadP; (· exact rfl); (· exact gt_any rfl); (· exact rfl); (· exact rfl); (· exact rfl); (· (first | exact ⟨rfl, rfl⟩ | exact ⟨rfl, trivial⟩ | assumption))) | (apply S_loadW; (· exact rfl); (· exact gt_any rfl); (· exact rfl); (· exact rfl); (· exact rfl); (· exact rfl); (· exact rfl); (· exact rfl)) | (apply S_loadV; (· exact rfl); (· exact gt_any rfl); (· exact rfl); (· (first | exact ⟨rfl, rfl⟩ | exact ⟨rfl, trivial⟩ | assumption))) | (apply S_fieldP; (· exact rfl); (· exact rfl); (· exact rfl); (· exact rfl); (· exact gt_any rfl)) | (apply S_fieldV; (· exact rfl); (· exact rfl); (· exact rfl); (· exact rfl); (· exact gt_any rfl)) | apply S_lss | apply S_leq | apply S_geq | (apply S_neq; (· exact gt_any rfl); (· exact gt_any rfl)) | apply S_add | apply S_box | (apply S_idxLs; (· exact rfl); (· exact rfl); (· exact gt_any rfl); (· exact gt_any rfl)) | apply S_callW (f := 124) | apply c0 | apply S_callQ (f := 111) | apply c1 | apply c2 | exact viewL_nil | apply viewL_cons | (apply View.pure; exact PureC.out) | exact FlatC.out | exact gt_any rfl | exact gts_nil | (apply gts_cons; (· exact gt_any rfl)) | exact okCells_of rfl rfl | assumption | (refine ⟨?_, ?_⟩ <;> omega) | exact rfl | fail)
      · have e2 := decide_eq_false a2
        by_cases a3 : x.zeros = Z
        · have e3 : (!decide (x.zeros = Z)) = false := by rw [decide_eq_true a3]; rfl
          rw [if_neg (fun k => k.elim (fun k => k a1) (fun k => k.elim a2 (fun k => k a3)))]
          repeat' (first | refine T_seq ?_ | refine N_then ?_ | refine T_regX tyOk ?_ | (apply T_drawAll tyOk mixed; (· kernel_rfl)) | refine S_nil ?_ | refine T_skip ?_ | refine T_ret ?_ | (apply E_tmp; (· exact rfl); (· (repeat' (first | exact pure_int _ _ | exact pure_bool _ | exact pure_str _); done))) | (apply T_ifF; (· exact rfl); (· (first | assumption | exact rfl))) | (apply S_gf; (· exact rfl); (· exact rfl); (· (first | assumption | exact rfl))) | apply S_move | apply S_assign | (apply S_pickF; (· exact gt_any rfl); (· (first | assumption | exact rfl))) | (apply S_loadP; (· exact rfl); (· exact gt_any rfl); (· exact rfl); (· exact rfl); (· exact rfl); (· (first | exact ⟨rfl, rfl⟩ | exact ⟨rfl, trivial⟩ | assumption))) | (apply S_loadW; (· exact rfl); (· exact gt_any rfl); (· exact rfl); (· exact rfl); (· exact rfl); (· exact rfl); (· exact rfl); (· exact rfl)) | (apply S_loadV; (· exact rfl); (· exact gt_any rfl); (· exact rfl); (· (first | exact ⟨rfl, rfl⟩ | exact ⟨rfl, trivial⟩ | assumption))) | (apply S_fieldP; (· exact rfl); (· exact rfl); (· exact rfl); (· exact rfl); (· exact gt_any rfl)) | (apply S_fieldV; (· exact rfl); (· exact rfl); (· exact rfl); (· exact rfl); (· exact gt_any rfl)) | apply S_lss | apply S_leq | apply S_geq | (apply S_neq; (· exact gt_any rfl); (· exact gt_any rfl)) | apply S_add | apply S_box | (apply S_idxLs; (· exact rfl); (· exact rfl); (· exact gt_any rfl); (· exact gt_any rfl)) | apply S_callW (f := 124) | apply c0 | apply S_callQ (f := 111) | apply c1 | apply c2 | apply S_call (f := 121) | apply c3 | apply S_callQ (f := 122) | apply c4 | exact viewL_nil | apply viewL_cons | (apply View.pure; exact PureC.out) | exact FlatC.out | exact PureLC.out | exact gt_any rfl | exact gts_nil | (apply gts_cons; (· exact gt_any rfl)) | exact okCells_of rfl rfl | assumption | (refine ⟨?_, ?_⟩ <;> omega) | exact rfl | fail)
        · have e3 : (!decide (x.zeros = Z)) = true := by rw [decide_eq_false a3]; rfl
          rw [if_pos (Or.inr (Or.inr a3))]
          repeat' (first | refine T_seq ?_ | refine N_then ?_ | refine N_thenR ?_ | refine T_regX tyOk ?_ | (apply T_drawAll tyOk mixed; (· kernel_rfl)) | refine S_nil ?_ | refine T_skip ?_ | refine T_ret ?_ | (apply E_tmp; (· exact rfl); (· (repeat' (first | exact pure_int _ _ | exact pure_bool _ | exact pure_str _); done))) | (apply T_ifT; (· exact rfl); (· (first | assumption | exact rfl))) | (apply T_ifF; (· exact rfl); (· (first | assumption | exact rfl))) | (apply S_gf; (· exact rfl); (· exact rfl); (· (first | assumption | exact rfl))) | apply S_move | apply S_assign | (apply S_pickF; (· exact gt_any rfl); (· (first | assumption | exact rfl))) | (apply S_loadP; (· exact rfl); (· exact gt_any rfl); (· exact rfl); (· exact rfl); (· exact rfl); (· (first | exact ⟨rfl, rfl⟩ | exact ⟨rfl, trivial⟩ | assumption))) | (apply S_loadW; (· exact rfl); (· exact gt_any rfl); (· exact rfl); (· exact rfl); (· exact rfl); (· exact rfl); (· exact rfl); (· exact rfl)) | (apply S_loadV; (· exact rfl); (· exact gt_any rfl); (· exact rfl); (· (first | exact ⟨rfl, rfl⟩ | exact ⟨rfl, trivial⟩ | assumption))) | (apply S_fieldP; (· exact rfl); (· exact rfl); (· exact rfl); (· exact rfl); (· exact gt_any rfl)) | (apply S_fieldV; (· exact rfl); (· exact rfl); (· exact rfl); (· exact rfl); (· exact gt_any rfl)) | apply S_lss | apply S_leq | apply S_geq | (apply S_neq; (· exact gt_any rfl); (· exact gt_any rfl)) | apply S_add | apply S_box | (apply S_idxLs; (· exact rfl); (· exact rfl); (· exact gt_any rfl); (· exact gt_any rfl)) | apply S_callW (f := 124) | apply c0 | apply S_callQ (f := 111) | apply c1 | apply c2 | apply S_call (f := 121) | apply c3 | apply S_callQ (f := 122) | apply c4 | exact viewL_nil | apply viewL_cons | (apply View.pure; exact PureC.out) | exact FlatC.out | exact PureLC.out | exact gt_any rfl | exact gts_nil | (apply gts_cons; (· exact gt_any rfl)) | exact okCells_of rfl rfl | assumption | (refine ⟨?_, ?_⟩ <;> omega) | exact rfl | fail)
    · have e1 : (!decide (x.height = y.height + 1)) = true := by rw [decide_eq_false a1]; rfl
      rw [if_pos (Or.inl a1)]
      repeat' (first | refine T_seq ?_ | refine N_then ?_ | refine N_thenR ?_ | refine T_regX tyOk ?_ | (apply T_drawAll tyOk mixed; (· kernel_rfl)) | refine S_nil ?_ | refine T_skip ?_ | refine T_ret ?_ | (apply E_tmp; (· exact rfl); (· (repeat' (first | exact pure_int _ _ | exact pure_bool _ | exact pure_str _); done))) | (apply T_ifT; (· exact rfl); (· (first | assumption | exact rfl))) | (apply T_ifF; (· exact rfl); (· (first | assumption | exact rfl))) | (apply S_gfT'; (· exact rfl); (· exact rfl); (· exact rfl); (· (first | assumption | exact rfl))) | apply S_move | apply S_assign | (apply S_pickT; (· exact gt_any rfl); (· (first | assumption | exact rfl))) | (apply S_loadP; (· exact rfl); (· exact gt_any rfl); (· exact rfl); (· exact rfl); (· exact rfl); (· (first | exact ⟨rfl, rfl⟩ | exact ⟨rfl, trivial⟩ | assumption))) | (apply S_loadW; (· exact rfl); (· exact gt_any rfl); (· exact rfl); (· exact rfl); (· exact rfl); (· exact rfl); (· exact rfl); (· exact rfl)) | (apply S_loadV; (· exact rfl); (· exact gt_any rfl); (· exact rfl); (· (first | exact ⟨rfl, rfl⟩ | exact ⟨rfl, trivial⟩ | assumption))) | (apply S_fieldP; (· exact rfl); (· exact rfl); (· exact rfl); (· exact rfl); (· exact gt_any rfl)) | (apply S_fieldV; (· exact rfl); (· exact rfl); (· exact rfl); (· exact rfl); (· exact gt_any rfl)) | apply S_lss | apply S_geq | (apply S_neq; (· exact gt_any rfl); (· exact gt_any rfl)) | apply S_add | apply S_box | (apply S_idxLs; (· exact rfl); (· exact rfl); (· exact gt_any rfl); (· exact gt_any rfl)) | apply S_callW (f := 124) | apply c0 | apply S_callQ (f := 111) | apply c1 | apply c2 | exact viewL_nil | apply viewL_cons | (apply View.pure; exact PureC.out) | exact FlatC.out | exact gt_any rfl | exact gts_nil | (apply gts_cons; (· exact gt_any rfl)) | exact okCells_of rfl rfl | assumption | (refine ⟨?_, ?_⟩ <;> omega) | exact rfl | fail)

end Go.Proofs.YtaolmfgpebncjaaGreat
