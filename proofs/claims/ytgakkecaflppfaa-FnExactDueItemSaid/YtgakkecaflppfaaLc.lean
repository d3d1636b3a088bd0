/- The law of DueItem. -/
import Derived.Test.YtgakkecaflppfaaWh
import Derived.Test.YtgakkecaflppfaaWt
set_option maxRecDepth 100000
set_option linter.unusedSimpArgs false
set_option linter.unusedVariables false
namespace Go.Proofs.Ytgakkecaflppfaa
open Go.Av
attribute [local irreducible] T thenQ blockQ againQ againS WX retV retR Gt Gts GtsP okCells CV CR Av.Pure

theorem law_DueItem (c : Int) (q : List Itm) (now : Int) (hq : q.length ≤ 9223372036854775807) (h0 : -9223372036854775808 ≤ now) : CV Try.prog 11 [relA c q, .int .i64 now] (· = .bool true) := by
  refine CV_intro tyOk Try.func11 (by kernel_rfl) rfl 32 rfl (by simp) [.tmp 4] rfl ?_
  intro w0 ok0
  by_cases hc : szAfter 1048576 q.length < 0
  · have hd : decide (szAfter 1048576 q.length < 0) = true := by simpa using hc
    repeat' (first | refine T_seq ?_ | refine N_then ?_ | refine N_thenR ?_ | refine N_thenE ?_ | refine N_block ?_ | refine N_blockR ?_ | refine N_blockE ?_ | refine N_blockX rfl ?_ | refine N_againR ?_ | refine N_againE ?_ | refine N_againSR ?_ | refine N_againSE ?_ | refine T_regX tyOk ?_ | (apply T_drawAll tyOk mixed; (· kernel_rfl)) | refine S_nil ?_ | refine T_skip ?_ | refine T_ret ?_ | refine T_exit ?_ | refine T_block ?_ | (apply E_tmp; (· exact rfl); (· (repeat' (first | exact pure_int _ _ | exact pure_bool _ | exact pure_str _); done))) | (apply E_tmpN; (· exact rfl); (· (repeat' (first | exact pure_int _ _ | exact pure_bool _ | exact pure_str _); done))) | (apply T_ifT; (· exact rfl); (· (first | assumption | exact rfl))) | (apply T_ifF; (· exact rfl); (· (first | assumption | exact rfl))) | refine T_if rfl (fun _ => ?_) (fun _ => ?_) | apply S_move | apply S_assign | (apply S_loadP; (· exact rfl); (· exact gt_any rfl); (· exact rfl); (· exact rfl); (· exact rfl); (· (first | exact ⟨rfl, rfl⟩ | exact ⟨rfl, trivial⟩ | assumption))) | (apply S_loadW; (· exact rfl); (· exact gt_any rfl); (· exact rfl); (· exact rfl); (· exact rfl); (· exact rfl); (· exact rfl); (· exact rfl)) | (apply S_loadV; (· exact rfl); (· exact gt_any rfl); (· exact rfl); (· (first | exact ⟨rfl, rfl⟩ | exact ⟨rfl, trivial⟩ | assumption))) | (apply S_loadVA; (· exact rfl); (· exact gt_any rfl); (· exact rfl); (· exact rfl)) | apply S_lss | apply S_not | apply S_alloc | apply S_box | (apply S_store1; (· exact rfl); (· exact gt_any rfl); (· exact rfl); (· exact rfl); (· exact rfl); (· exact rfl)) | (apply S_storeF; (· exact rfl); (· exact gt_any rfl); (· exact rfl); (· exact rfl); (· exact rfl); (· exact rfl); (· exact gt_any rfl); (· exact rfl); (· exact rfl); (· (repeat' constructor))) | (apply S_storeE; (· exact rfl); (· exact gt_any rfl); (· exact rfl); (· exact rfl); (· exact rfl)) | apply S_xor1 | apply S_callQ (f := 28) | apply szRelayer_cv | apply S_call (f := 30) | apply toRelayer_cv | apply S_callQ (f := 49) | apply specDueItem_cv | apply S_callQ (f := 50) | apply implDueItem_cv | apply S_callQ (f := 17) | apply eqIntResult_cv | apply S_callQ (f := 32) | apply eqRelayer_cv | exact viewL_nil | apply viewL_cons | (apply View.pure; exact PureC.out) | (apply view_slM; (· exact rfl); (· (apply mlen; first | exact rfl | assumption | exact Nat.le_of_ble_eq_true rfl | omega | (simp [bA_length]; done) | (simp [bA_length]; omega)))) | (apply view_slN; (· exact rfl); (· (apply mlen; first | exact rfl | assumption | exact Nat.le_of_ble_eq_true rfl | omega | (simp [bA_length]; done) | (simp [bA_length]; omega)))) | (apply view_ptr; (· exact rfl); (· exact rfl)) | apply view_agg | apply view_tup | exact PureEC.out | (apply mtake; first | assumption | exact take_full (by first | rfl | (simp; done)) | exact rfl) | exact FlatC.out | exact PureLC.out | exact PureC.out | exact gt_any rfl | exact gts_nil | (apply gts_cons; (· exact gt_any rfl)) | exact okCells_of rfl rfl | assumption | (apply wrap_i64; (· omega); (· omega)) | (apply wrap_u8; (· omega); (· omega)) | exact Nat.le_of_ble_eq_true rfl | (refine ⟨?_, ?_⟩ <;> omega) | omega | exact rfl | fail)
  · have hd : decide (szAfter 1048576 q.length < 0) = false := by simpa using hc
    have hab : q.length ≤ 1048576 := by have := szAfter_ge hc; omega
    have e1 : (!(decide (dueCode c q now = dueCode c q now) && decide (dueVal c q now = dueVal c q now))) = false := by simp
    have e2 : (!(decide (c = c) && decide (q = q))) = false := by simp
    repeat' (first | refine T_seq ?_ | refine N_then ?_ | refine N_thenR ?_ | refine N_thenE ?_ | refine N_block ?_ | refine N_blockR ?_ | refine N_blockE ?_ | refine N_blockX rfl ?_ | refine N_againR ?_ | refine N_againE ?_ | refine N_againSR ?_ | refine N_againSE ?_ | refine T_regX tyOk ?_ | (apply T_drawAll tyOk mixed; (· kernel_rfl)) | refine S_nil ?_ | refine T_skip ?_ | refine T_ret ?_ | refine T_exit ?_ | refine T_block ?_ | (apply E_tmp; (· exact rfl); (· (repeat' (first | exact pure_int _ _ | exact pure_bool _ | exact pure_str _); done))) | (apply E_tmpN; (· exact rfl); (· (repeat' (first | exact pure_int _ _ | exact pure_bool _ | exact pure_str _); done))) | (apply T_ifT; (· exact rfl); (· (first | assumption | exact rfl))) | (apply T_ifF; (· exact rfl); (· (first | assumption | exact rfl))) | refine T_if rfl (fun _ => ?_) (fun _ => ?_) | apply S_move | apply S_assign | (apply S_loadP; (· exact rfl); (· exact gt_any rfl); (· exact rfl); (· exact rfl); (· exact rfl); (· (first | exact ⟨rfl, rfl⟩ | exact ⟨rfl, trivial⟩ | assumption))) | (apply S_loadW; (· exact rfl); (· exact gt_any rfl); (· exact rfl); (· exact rfl); (· exact rfl); (· exact rfl); (· exact rfl); (· exact rfl)) | (apply S_loadV; (· exact rfl); (· exact gt_any rfl); (· exact rfl); (· (first | exact ⟨rfl, rfl⟩ | exact ⟨rfl, trivial⟩ | assumption))) | (apply S_loadVA; (· exact rfl); (· exact gt_any rfl); (· exact rfl); (· exact rfl)) | apply S_lss | apply S_not | apply S_alloc | apply S_box | (apply S_store1; (· exact rfl); (· exact gt_any rfl); (· exact rfl); (· exact rfl); (· exact rfl); (· exact rfl)) | (apply S_storeF; (· exact rfl); (· exact gt_any rfl); (· exact rfl); (· exact rfl); (· exact rfl); (· exact rfl); (· exact gt_any rfl); (· exact rfl); (· exact rfl); (· (repeat' constructor))) | (apply S_storeE; (· exact rfl); (· exact gt_any rfl); (· exact rfl); (· exact rfl); (· exact rfl)) | apply S_xor1 | apply S_callQ (f := 28) | apply szRelayer_cv | apply S_call (f := 30) | apply toRelayer_cv | apply S_callQ (f := 49) | apply specDueItem_cv | apply S_callQ (f := 50) | apply implDueItem_cv | apply S_callQ (f := 17) | apply eqIntResult_cv | apply S_callQ (f := 32) | apply eqRelayer_cv | exact viewL_nil | apply viewL_cons | (apply View.pure; exact PureC.out) | (apply view_slM; (· exact rfl); (· (apply mlen; first | exact rfl | assumption | exact Nat.le_of_ble_eq_true rfl | omega | (simp [bA_length]; done) | (simp [bA_length]; omega)))) | (apply view_slN; (· exact rfl); (· (apply mlen; first | exact rfl | assumption | exact Nat.le_of_ble_eq_true rfl | omega | (simp [bA_length]; done) | (simp [bA_length]; omega)))) | (apply view_ptr; (· exact rfl); (· exact rfl)) | apply view_agg | apply view_tup | exact PureEC.out | (apply mtake; first | assumption | exact take_full (by first | rfl | (simp; done)) | exact rfl) | exact FlatC.out | exact PureLC.out | exact PureC.out | exact gt_any rfl | exact gts_nil | (apply gts_cons; (· exact gt_any rfl)) | exact okCells_of rfl rfl | assumption | (apply wrap_i64; (· omega); (· omega)) | (apply wrap_u8; (· omega); (· omega)) | exact Nat.le_of_ble_eq_true rfl | (refine ⟨?_, ?_⟩ <;> omega) | omega | exact rfl | fail)

theorem isItem {x : AV} {ei : TI} (hk : isAggK ei.k = true) (h : TyN ty 1 126 x.cells ∧ x = (if isAggK ei.k then .agg x.cells else x.cells.getD 0 .undef)) : ∃ a : Itm, x = itemA a := by
  obtain ⟨⟨ls, h1, h2, h3⟩, h4⟩ := h
  have hl : leafs ty 8 126 = some [2, 2, 2] := rfl
  rw [hl] at h1
  obtain rfl := Option.some.inj h1
  rw [if_pos hk] at h4
  generalize x.cells = cs at h2 h3 h4
  subst h4
  match cs, h2 with
  | [a, b, c], _ =>
    obtain ⟨i, rfl, _⟩ := h3 0 _ _ rfl rfl
    obtain ⟨j, rfl, _⟩ := h3 1 _ _ rfl rfl
    obtain ⟨k, rfl, _⟩ := h3 2 _ _ rfl rfl
    exact ⟨⟨i, j, k⟩, rfl⟩

theorem isRel {x : AV} (h : TyV ty 44 x) : ∃ (c : Int) (q : List Itm), x = relA c q ∧ q.length ≤ 9223372036854775807 := by
  obtain ⟨h1, h2⟩ := inv_leafs h (l := [2, 42]) rfl
  have h3 := h.2.2.1 ⟨_, rfl, rfl⟩
  generalize x.cells = cs at h1 h2 h3
  subst h3
  match cs, h1 with
  | [a, b], _ =>
    obtain ⟨c, rfl, _⟩ := h2 0 _ _ rfl rfl
    obtain ⟨ei, xs, e1, rfl, e2, e3⟩ := h2 1 _ _ rfl rfl
    obtain rfl := Option.some.inj e1
    obtain ⟨q, rfl⟩ := list_of itemA (fun x hx => isItem rfl hx) xs e3
    rw [List.length_map] at e2
    exact ⟨c, q, rfl, e2⟩

end Go.Proofs.Ytgakkecaflppfaa
