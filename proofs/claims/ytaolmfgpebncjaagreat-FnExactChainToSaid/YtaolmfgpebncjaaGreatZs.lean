/- Heads: places by digest. -/
import Derived.Test.YtaolmfgpebncjaaGreatZr
set_option maxRecDepth 100000
set_option maxHeartbeats 3200000
set_option linter.unusedSimpArgs false
set_option linter.unusedVariables false
namespace Go.Proofs.YtaolmfgpebncjaaGreat
open Go.Av
attribute [local irreducible] T thenQ blockQ againQ againS WX retV retR Gt Gts GtsP okCells CV CR Av.Pure
attribute [local irreducible] sha zerosL lz8 hdD hdFault

theorem fiGo_map {α β : Type} (f : α → β) (p : β → Bool) : ∀ (l : List α) (i : Nat), fiGo p (l.map f) i = fiGo (fun x => p (f x)) l i
  | [], i => rfl
  | x :: l, i => by rw [List.map_cons, fiGo, fiGo, fiGo_map f p l (i + 1)]
theorem idxL_map {α β : Type} (f : α → β) (p : β → Bool) (l : List α) : idxL p (l.map f) = idxL (fun x => p (f x)) l := fiGo_map f p l 0
def digOr (x : Hd) : List UInt8 := if hdFault x = 0 then hdD x else []
theorem digOr_ok {x : Hd} (h : hdFault x = 0) : digOr x = hdD x := if_pos h
theorem digOrs {l : List Hd} (h : ∀ x ∈ l, hdFault x = 0) : l.map digOr = l.map hdD := List.map_congr_left fun x hx => digOr_ok (h x hx)

theorem specDigOr_cv (x : Hd) : CV Tryz.prog 110 [hdA x] (· = sl1 (bA (digOr x))) := by
  by_cases g : hdFault x = 0
  · rw [digOr_ok g]
    exact specHdDigest_cv x g
  · rw [show digOr x = [] from if_neg g]
    refine CV_intro tyOk Tryz.func110 (by kernel_rfl) rfl 8 rfl (by simp) [.tmp 2] rfl ?_
    intro w0 ok0
    have k0 := specHdFault_cv x
    have d0 : (!decide (hdFault x = 0)) = true := by rw [decide_eq_false g]; rfl
    repeat' (first | refine T_seq ?_ | refine N_then ?_ | refine N_thenR ?_ | refine T_regX tyOk ?_ | refine S_nil ?_ | refine T_ret ?_ | (apply E_X <;> repeat' (first | exact resL_nil | (apply resL_tmp; (· exact rfl)) | (apply resL_cell; (· exact rfl); (· exact rfl); (· exact rfl); (· exact rfl); (· exact rfl); (· exact rfl)) | (apply resL_arr; (· exact rfl); (· exact rfl); (· exact rfl); (· exact rfl); (· (first | assumption | exact rfl))) | exact viewL_nil | apply viewL_cons | apply view_nothingE | (apply view_slE; (· exact rfl); (· first | exact rfl | assumption | (simp [bA_length]; done) | (simp [bA_length]; omega) | omega); (· exact PureEC.out)) | (apply view_loose; (· exact PureEC.out)) | apply view_agg | apply view_tup | (apply View.ofEq; (· exact PureC.out)) | exact rfl)) | (apply T_ifT; (· exact rfl); (· (first | assumption | exact rfl))) | apply S_assign | (apply S_loadW; (· exact rfl); (· exact gt_any rfl); (· exact rfl); (· exact rfl); (· exact rfl); (· exact rfl); (· exact rfl); (· exact rfl)) | (apply S_neq; (· exact gt_any rfl); (· exact gt_any rfl)) | apply S_box | apply S_callQ (f := 113) | apply k0 | exact viewL_nil | apply viewL_cons | (apply View.pure; exact PureC.out) | exact FlatC.out | exact gt_any rfl | exact gts_nil | (apply gts_cons; (· exact gt_any rfl)) | exact okCells_of rfl rfl | exact rfl | fail)

def placeL (ds : List (List UInt8)) (d : List UInt8) : Int := idxL (fun w => decide (w = d)) ds
theorem place_range (ds : List (List UInt8)) (d : List UInt8) : placeL ds d = -1 ∨ (0 ≤ placeL ds d ∧ placeL ds d < ds.length) := idxL_range _ ds

theorem l5Place_cv (ds : List (List UInt8)) (d : List UInt8) (h : ds.length ≤ 1000000) (hs : ∀ w ∈ ds, w.length ≤ 1000000) (hd : d.length ≤ 1048576) : CV Tryz.prog 111 [rowsA ds, byA d] (· = .int .i64 (placeL ds d)) := by
  refine CV_intro tyOk Tryz.func111 (by kernel_rfl) rfl 19 rfl (by simp) [.tmp 4] rfl ?_
  intro w0 ok0
  have hml : (ds.map byA).length = ds.length := by simp
  have hF : placeL ds d = fiGo (fun w => decide (w = d)) (ds.drop 0) 0 := rfl
  repeat' (first | refine T_seq ?_ | refine N_then ?_ | refine T_regX tyOk ?_ | refine S_nil ?_ | refine T_block ?_ | apply S_assign | exact gt_any rfl | exact rfl | fail)
  refine T_roundsS (α := Nat) (fun k => ⟨[(0, rowsA ds), (1, byA d), (5, .int .i64 k)], [], 0⟩)
    (fun k => ds.length - k) (fun k => k ≤ ds.length ∧ placeL ds d = fiGo (fun w => decide (w = d)) (ds.drop k) k) 0 ((weak_of (by repeat' (first | exact keepE_nil | refine keepE_cons rfl ?_)) (by repeat' (first | exact keepB_nil | refine keepB_cons (by first | rfl | exact congrArg (fun l => some (Box.mk l _ _ _)) hset) ?_)) (Nat.le_refl _))).sub ⟨by omega, hF⟩ ?_
  rintro k ⟨hk, hI⟩
  by_cases hkl : k < ds.length
  · have d1 : decide ((k : Int) < ((ds.map byA).length : Int)) = true := decide_eq_true (by omega)
    have hget := map_getD byA ds [] (k := k) (by omega)
    rw [fiGo_step _ ds [] hkl] at hI
    have hk2 := hs _ (getD_mem ds [] hkl)
    generalize ds.getD k [] = w at *
    have c0 := same_cv w d (by omega) (by omega)
    simp only [decide_eq_true_eq] at hI
    by_cases g : w = d
    · rw [decide_eq_true g] at c0
      rw [if_pos g] at hI
      rw [hI]
      repeat' (first | refine T_seq ?_ | refine N_then ?_ | refine N_thenR ?_ | refine N_blockR ?_ | refine N_againSR ?_ | refine T_regX tyOk ?_ | refine S_nil ?_ | refine T_skip ?_ | refine T_ret ?_ | refine T_block ?_ | (apply E_tmp; (· exact rfl); (· (repeat' (first | exact pure_int _ _ | exact pure_bool _ | exact pure_str _); done))) | (apply T_ifT; (· exact rfl); (· (first | assumption | exact rfl))) | apply S_move | apply S_assign | (apply S_loadV; (· exact rfl); (· exact gt_any rfl); (· exact rfl); (· (first | exact ⟨rfl, rfl⟩ | exact ⟨rfl, trivial⟩ | assumption))) | apply S_lss | (apply S_len_ls; (· exact rfl); (· exact gt_any rfl)) | (apply S_idxLs; (· exact rfl); (· exact rfl); (· exact gt_any rfl); (· exact gt_any rfl)) | apply S_callQ (f := 114) | apply c0 | exact viewL_nil | apply viewL_cons | (apply View.pure; exact PureC.out) | exact FlatC.out | exact gt_any rfl | exact gts_nil | (apply gts_cons; (· exact gt_any rfl)) | assumption | (refine ⟨?_, ?_⟩ <;> omega) | exact rfl | fail)
    · rw [decide_eq_false g] at c0
      rw [if_neg g] at hI
      have hw : IntKind.wrap .i64 ((k : Int) + 1) = ((k + 1 : Nat) : Int) := by rw [wrap_i64 (by omega) (by omega)]; omega
      repeat' (first | refine T_seq ?_ | refine N_then ?_ | refine N_block ?_ | refine T_regX tyOk ?_ | refine S_nil ?_ | refine T_skip ?_ | refine T_block ?_ | (apply T_ifT; (· exact rfl); (· (first | assumption | exact rfl))) | (apply T_ifF; (· exact rfl); (· (first | assumption | exact rfl))) | apply S_move | apply S_assign | (apply S_loadV; (· exact rfl); (· exact gt_any rfl); (· exact rfl); (· (first | exact ⟨rfl, rfl⟩ | exact ⟨rfl, trivial⟩ | assumption))) | apply S_lss | apply S_add | (apply S_len_ls; (· exact rfl); (· exact gt_any rfl)) | (apply S_idxLs; (· exact rfl); (· exact rfl); (· exact gt_any rfl); (· exact gt_any rfl)) | apply S_callQ (f := 114) | apply c0 | exact viewL_nil | apply viewL_cons | (apply View.pure; exact PureC.out) | exact FlatC.out | exact gt_any rfl | exact gts_nil | (apply gts_cons; (· exact gt_any rfl)) | assumption | (refine ⟨?_, ?_⟩ <;> omega) | exact rfl | fail)
      exact N_againS (k + 1) ((weak_of (by repeat' (first | exact keepE_nil | refine keepE_cons rfl ?_)) (by repeat' (first | exact keepB_nil | refine keepB_cons (by first | rfl | exact congrArg (fun l => some (Box.mk l _ _ _)) hset) ?_)) (Nat.le_refl _))).sub ⟨by omega, hI⟩ (by omega)
  · have d1 : decide ((k : Int) < ((ds.map byA).length : Int)) = false := decide_eq_false (by omega)
    obtain rfl : k = ds.length := by omega
    rw [List.drop_length] at hI
    rw [hI]
    repeat' (first | refine T_seq ?_ | refine N_then ?_ | refine N_thenE ?_ | refine N_blockE ?_ | refine N_againSE ?_ | refine T_regX tyOk ?_ | refine S_nil ?_ | refine T_ret ?_ | refine T_exit ?_ | (apply E_tmp; (· exact rfl); (· (repeat' (first | exact pure_int _ _ | exact pure_bool _ | exact pure_str _); done))) | (apply T_ifF; (· exact rfl); (· (first | assumption | exact rfl))) | apply S_move | apply S_assign | apply S_lss | (apply S_len_ls; (· exact rfl); (· exact gt_any rfl)) | exact gt_any rfl | exact rfl | fail)

theorem indexHd_cv (g : Nat) (caps : List AV) (l : List Hd) (p : Hd → Bool) (hp : PureC (.fn g caps)) (hv : ViewL [] caps caps) (hl : l.length ≤ 1000000000) (hc : ∀ x ∈ l, CV Tryz.prog g (hdA x :: caps) (· = .bool (p x))) :
    CV Tryz.prog 155 [hdAS l, .fn g caps] (· = .int .i64 (idxL p l)) := by
  refine CV_intro tyOk Tryz.func155 (by kernel_rfl) rfl 19 rfl (by simp) [.tmp 4] rfl ?_
  intro w0 ok0
  have hml : (l.map hdA).length = l.length := by simp
  have hF : idxL p l = fiGo p (l.drop 0) 0 := rfl
  repeat' (first | refine T_seq ?_ | refine N_then ?_ | refine T_regX tyOk ?_ | refine S_nil ?_ | refine T_block ?_ | apply S_move | apply S_assign | (apply S_len_ls; (· exact rfl); (· exact gt_any rfl)) | exact gt_any rfl | exact rfl | fail)
  refine T_roundsS (α := Nat) (fun k => ⟨[(0, hdAS l), (1, .fn g caps), (7, .int .i64 (l.map hdA).length), (8, .int .i64 k)], [], 0⟩)
    (fun k => l.length - k) (fun k => k ≤ l.length ∧ idxL p l = fiGo p (l.drop k) k) 0 ((weak_of (by repeat' (first | exact keepE_nil | refine keepE_cons rfl ?_)) (by repeat' (first | exact keepB_nil | refine keepB_cons (by first | rfl | exact congrArg (fun l => some (Box.mk l _ _ _)) hset) ?_)) (Nat.le_refl _))).sub ⟨by omega, hF⟩ ?_
  rintro k ⟨hk, hI⟩
  by_cases hkl : k < l.length
  · have d : decide ((k : Int) < ((l.map hdA).length : Int)) = true := by simp only [decide_eq_true_eq]; omega
    have hget := map_getD hdA l Hd0 (k := k) (by omega)
    rw [fiGo_step p l Hd0 hkl] at hI
    have c0 := hc _ (getD_mem l Hd0 hkl)
    by_cases he : p (l.getD k Hd0) = true
    · rw [if_pos he] at hI
      rw [hI]
      rw [he] at c0
      repeat' (first | refine T_seq ?_ | refine N_then ?_ | refine N_thenR ?_ | refine N_blockR ?_ | refine N_againSR ?_ | refine T_regX tyOk ?_ | refine S_nil ?_ | refine T_skip ?_ | refine T_ret ?_ | refine T_block ?_ | (apply E_tmp; (· exact rfl); (· (repeat' (first | exact pure_int _ _ | exact pure_bool _ | exact pure_str _); done))) | (apply T_ifT; (· exact rfl); (· (first | assumption | exact rfl))) | apply S_move | apply S_assign | (apply S_loadVA; (· exact rfl); (· exact gt_any rfl); (· exact rfl); (· exact rfl)) | apply S_lss | (apply S_idxLs; (· exact rfl); (· exact rfl); (· exact gt_any rfl); (· exact gt_any rfl)) | apply S_callFC | apply c0 | apply viewL_cons | (apply View.pure; exact PureC.out) | exact FlatC.out | exact gt_any rfl | exact gts_nil | (apply gts_cons; (· exact gt_any rfl)) | assumption | (refine ⟨?_, ?_⟩ <;> omega) | exact rfl | fail)
    · rw [if_neg he] at hI
      simp only [Bool.not_eq_true] at he
      rw [he] at c0
      have hw : IntKind.wrap .i64 ((k : Int) + 1) = ((k + 1 : Nat) : Int) := by rw [wrap_i64 (by omega) (by omega)]; omega
      repeat' (first | refine T_seq ?_ | refine N_then ?_ | refine N_block ?_ | refine T_regX tyOk ?_ | refine S_nil ?_ | refine T_skip ?_ | refine T_block ?_ | (apply T_ifT; (· exact rfl); (· (first | assumption | exact rfl))) | (apply T_ifF; (· exact rfl); (· (first | assumption | exact rfl))) | apply S_move | apply S_assign | (apply S_loadVA; (· exact rfl); (· exact gt_any rfl); (· exact rfl); (· exact rfl)) | apply S_lss | apply S_add | (apply S_idxLs; (· exact rfl); (· exact rfl); (· exact gt_any rfl); (· exact gt_any rfl)) | apply S_callFC | apply c0 | apply viewL_cons | (apply View.pure; exact PureC.out) | exact FlatC.out | exact gt_any rfl | exact gts_nil | (apply gts_cons; (· exact gt_any rfl)) | assumption | (refine ⟨?_, ?_⟩ <;> omega) | exact rfl | fail)
      exact N_againS (k + 1) ((weak_of (by repeat' (first | exact keepE_nil | refine keepE_cons rfl ?_)) (by repeat' (first | exact keepB_nil | refine keepB_cons (by first | rfl | exact congrArg (fun l => some (Box.mk l _ _ _)) hset) ?_)) (Nat.le_refl _))).sub ⟨by omega, hI⟩ (by omega)
  · have d : decide ((k : Int) < ((l.map hdA).length : Int)) = false := by simp only [decide_eq_false_iff_not]; omega
    obtain rfl : k = l.length := by omega
    rw [List.drop_length] at hI
    rw [hI]
    repeat' (first | refine T_seq ?_ | refine N_then ?_ | refine N_thenE ?_ | refine N_blockE ?_ | refine N_againSE ?_ | refine T_regX tyOk ?_ | refine S_nil ?_ | refine T_ret ?_ | refine T_exit ?_ | (apply E_tmp; (· exact rfl); (· (repeat' (first | exact pure_int _ _ | exact pure_bool _ | exact pure_str _); done))) | (apply T_ifF; (· exact rfl); (· (first | assumption | exact rfl))) | apply S_assign | apply S_lss | exact gt_any rfl | exact rfl | fail)

theorem containsHd_cv (g : Nat) (caps : List AV) (l : List Hd) (p : Hd → Bool) (hp : PureC (.fn g caps)) (hv : ViewL [] caps caps) (hl : l.length ≤ 1000000000) (hc : ∀ x ∈ l, CV Tryz.prog g (hdA x :: caps) (· = .bool (p x))) :
    CV Tryz.prog 137 [hdAS l, .fn g caps] (· = .bool (l.any p)) := by
  refine CV_intro tyOk Tryz.func137 (by kernel_rfl) rfl 9 rfl (by simp) [.tmp 4] rfl ?_
  intro w0 ok0
  have c0 := indexHd_cv g caps l p hp hv hl hc
  rw [← idxL_any]
  repeat' (first | refine T_seq ?_ | refine N_then ?_ | refine T_regX tyOk ?_ | refine S_nil ?_ | refine T_ret ?_ | (apply E_tmp; (· exact rfl); (· (repeat' (first | exact pure_int _ _ | exact pure_bool _ | exact pure_str _); done))) | apply S_move | apply S_assign | apply S_geq | apply S_callQ (f := 155) | apply c0 | exact viewL_nil | apply viewL_cons | (apply View.pure; exact PureC.out) | exact FlatC.out | exact gt_any rfl | exact gts_nil | (apply gts_cons; (· exact gt_any rfl)) | exact rfl | fail)

theorem joinFault1_cv (x : Hd) (d : List UInt8) (h : hdFault x = 0) : CV Tryz.prog 138 [hdA x, .vp [byA d]] (· = .bool (decide (hdD x = d))) := by
  refine CV_intro tyOk Tryz.func138 (by kernel_rfl) rfl 8 rfl (by simp) [.tmp 3] rfl ?_
  intro w0 ok0
  have c0 := hdDigest_cv x h
  have c1 := equal_cv (hdD x) d
  repeat' (first | refine T_seq ?_ | refine N_then ?_ | refine T_regX tyOk ?_ | (apply T_drawM (id := 1) 3 tyOk mixed; (· exact rfl); (· exact rfl); (· kernel_rfl); (· exact Nat.le_of_ble_eq_true rfl)) | refine S_nil ?_ | refine T_ret ?_ | (apply E_tmp; (· exact rfl); (· (repeat' (first | exact pure_int _ _ | exact pure_bool _ | exact pure_str _); done))) | apply S_assign | (apply S_loadW; (· exact rfl); (· exact gt_any rfl); (· exact rfl); (· exact rfl); (· exact rfl); (· exact rfl); (· exact rfl); (· exact rfl)) | (apply S_loadV; (· exact rfl); (· exact gt_any rfl); (· exact rfl); (· (first | exact ⟨rfl, rfl⟩ | exact ⟨rfl, trivial⟩ | assumption))) | apply S_box | apply S_call (f := 71) | apply c0 | apply S_callQ (f := 91) | apply c1 | exact viewL_nil | apply viewL_cons | (apply View.pure; exact PureC.out) | exact FlatC.out | exact PureLC.out | exact gt_any rfl | exact gts_nil | (apply gts_cons; (· exact gt_any rfl)) | exact okCells_of rfl rfl | exact rfl | fail)

theorem parentOf1_cv (x y : Hd) (h : hdFault x = 0) : CV Tryz.prog 165 [hdA x, .vp (hdAC y)] (· = .bool (decide (hdD x = y.parent))) := by
  refine CV_intro tyOk Tryz.func165 (by kernel_rfl) rfl 9 rfl (by simp) [.tmp 3] rfl ?_
  intro w0 ok0
  have c0 := hdDigest_cv x h
  have c1 := equal_cv (hdD x) y.parent
  repeat' (first | refine T_seq ?_ | refine N_then ?_ | refine T_regX tyOk ?_ | (apply T_drawM (id := 1) 4 tyOk mixed; (· exact rfl); (· exact rfl); (· kernel_rfl); (· exact Nat.le_of_ble_eq_true rfl)) | refine S_nil ?_ | refine T_ret ?_ | (apply E_tmp; (· exact rfl); (· (repeat' (first | exact pure_int _ _ | exact pure_bool _ | exact pure_str _); done))) | apply S_assign | (apply S_loadW; (· exact rfl); (· exact gt_any rfl); (· exact rfl); (· exact rfl); (· exact rfl); (· exact rfl); (· exact rfl); (· exact rfl)) | (apply S_loadV; (· exact rfl); (· exact gt_any rfl); (· exact rfl); (· (first | exact ⟨rfl, rfl⟩ | exact ⟨rfl, trivial⟩ | assumption))) | (apply S_fieldV; (· exact rfl); (· exact rfl); (· exact rfl); (· exact rfl); (· exact gt_any rfl)) | apply S_box | apply S_call (f := 71) | apply c0 | apply S_callQ (f := 91) | apply c1 | exact viewL_nil | apply viewL_cons | (apply View.pure; exact PureC.out) | exact FlatC.out | exact PureLC.out | exact gt_any rfl | exact gts_nil | (apply gts_cons; (· exact gt_any rfl)) | exact okCells_of rfl rfl | exact rfl | fail)

theorem parentOf_cv (l : List Hd) (y : Hd) (h : l.length ≤ 1000000) (hl : ∀ x ∈ l, hdFault x = 0) : CV Tryz.prog 119 [hdAS l, hdA y] (· = .int .i64 (placeL (l.map hdD) y.parent)) := by
  have e : placeL (l.map hdD) y.parent = idxL (fun x => decide (hdD x = y.parent)) l := idxL_map hdD _ l
  rw [e]
  refine CV_intro tyOk Tryz.func119 (by kernel_rfl) rfl 8 rfl (by simp) [.tmp 4] rfl ?_
  intro w0 ok0
  have c0 := indexHd_cv 165 [.vp (hdAC y)] l (fun x => decide (hdD x = y.parent)) inferInstance (by repeat' (first | exact viewL_nil | apply viewL_cons | (apply View.pure; exact PureC.out))) (by omega) (fun x hx => parentOf1_cv x y (hl x hx))
  repeat' (first | refine T_seq ?_ | refine N_then ?_ | refine T_regX tyOk ?_ | refine S_nil ?_ | refine T_ret ?_ | (apply E_tmp; (· exact rfl); (· (repeat' (first | exact pure_int _ _ | exact pure_bool _ | exact pure_str _); done))) | apply S_move | apply S_assign | apply S_box | apply S_mkfn | apply S_callQ (f := 155) | apply c0 | exact viewL_nil | apply viewL_cons | (apply View.pure; exact PureC.out) | (apply view_ptr; (· exact rfl); (· exact rfl)) | exact FlatC.out | apply view_fn | exact gt_any rfl | exact gts_nil | (apply gts_cons; (· exact gt_any rfl)) | exact okCells_of rfl rfl | exact rfl | fail)

end Go.Proofs.YtaolmfgpebncjaaGreat
