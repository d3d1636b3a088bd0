/- Trees of blocks: their heads, and few events. -/
import Derived.Test.YtaolmfgpebncjaaGreatZza
import Derived.Test.YtaolmfgpebncjaaGreatRd
set_option maxRecDepth 100000
set_option maxHeartbeats 3200000
set_option linter.unusedSimpArgs false
set_option linter.unusedVariables false
namespace Go.Proofs.YtaolmfgpebncjaaGreat
open Go.Av
attribute [local irreducible] T thenQ blockQ againQ againS WX retV retR Gt Gts GtsP okCells CV CR Av.Pure
attribute [local irreducible] sha zerosL lz8 hdD hdFault zerosN hardF firstB wayD chainL bestUp wtL joinF

def fewB (ev : List (List UInt8)) : Bool := decide (ev.length ≤ 8) && !(ev.any fun e => decide (60 < e.length))
theorem few_len {ev : List (List UInt8)} (h : fewB ev = true) : ev.length ≤ 8 ∧ ∀ w ∈ ev, w.length ≤ 60 := by
  unfold fewB at h
  simp only [Bool.and_eq_true, decide_eq_true_eq, Bool.not_eq_true', List.any_eq_false] at h
  exact ⟨h.1, fun w hw => by have := h.2 w hw; omega⟩

theorem events1_cv (e : List UInt8) : CV Tryz.prog 127 [byA e] (· = .bool (decide (60 < e.length))) := by
  refine CV_intro tyOk Tryz.func127 (by kernel_rfl) rfl 6 rfl (by simp) [.tmp 2] rfl ?_
  intro w0 ok0
  have hl := bA_length e
  have q : decide (60 < e.length) = decide ((60 : Int) < ((bA e).length : Int)) := by
    by_cases h : 60 < e.length
    · rw [decide_eq_true h, decide_eq_true (by omega)]
    · rw [decide_eq_false h, decide_eq_false (by omega)]
  rw [q]
  repeat' (first | refine T_seq ?_ | refine N_then ?_ | refine T_regX tyOk ?_ | refine S_nil ?_ | refine T_ret ?_ | (apply E_tmp; (· exact rfl); (· (repeat' (first | exact pure_int _ _ | exact pure_bool _ | exact pure_str _); done))) | apply S_move | apply S_assign | apply S_gtr | (apply S_len_ls; (· exact rfl); (· exact gt_any rfl)) | exact gt_any rfl | exact rfl | fail)

theorem areEvents_cv (ev : List (List UInt8)) (hl : ev.length ≤ 1048576) : CV Tryz.prog 68 [rowsA ev] (· = .bool (fewB ev)) := by
  refine CV_intro tyOk Tryz.func68 (by kernel_rfl) rfl 11 rfl (by simp) [.tmp 2] rfl ?_
  intro w0 ok0
  have hml : (ev.map byA).length = ev.length := by simp
  have c0 := containsRows_cv 127 [] ev (fun e => decide (60 < e.length)) inferInstance viewL_nil (by omega) (fun w _ => events1_cv w)
  unfold fewB
  by_cases g : ev.length ≤ 8
  · have d0 : decide (((ev.map byA).length : Int) ≤ 8) = true := decide_eq_true (by omega)
    rw [decide_eq_true g, Bool.true_and]
    repeat' (first | refine T_seq ?_ | refine N_then ?_ | refine T_regX tyOk ?_ | refine S_nil ?_ | refine T_ret ?_ | (apply E_tmp; (· exact rfl); (· (repeat' (first | exact pure_int _ _ | exact pure_bool _ | exact pure_str _); done))) | (apply S_gt; (· exact rfl); (· exact rfl); (· (first | assumption | exact rfl))) | apply S_move | apply S_assign | (apply S_pickT; (· exact gt_any rfl); (· (first | assumption | exact rfl))) | apply S_leq | apply S_not | (apply S_len_ls; (· exact rfl); (· exact gt_any rfl)) | apply S_callQ (f := 126) | apply c0 | exact viewL_nil | apply viewL_cons | (apply View.pure; exact PureC.out) | exact FlatC.out | exact gt_any rfl | exact gts_nil | (apply gts_cons; (· exact gt_any rfl)) | exact rfl | fail)
  · have d0 : decide (((ev.map byA).length : Int) ≤ 8) = false := decide_eq_false (by omega)
    rw [decide_eq_false g, Bool.false_and]
    repeat' (first | refine T_seq ?_ | refine N_then ?_ | refine T_regX tyOk ?_ | refine S_nil ?_ | refine T_ret ?_ | (apply E_tmp; (· exact rfl); (· (repeat' (first | exact pure_int _ _ | exact pure_bool _ | exact pure_str _); done))) | (apply S_gtF'; (· exact rfl); (· exact rfl); (· exact rfl); (· (first | assumption | exact rfl))) | apply S_move | apply S_assign | (apply S_pickF; (· exact gt_any rfl); (· (first | assumption | exact rfl))) | apply S_leq | (apply S_len_ls; (· exact rfl); (· exact gt_any rfl)) | exact gt_any rfl | exact rfl | fail)

theorem l5Few_cv (ev : List (List UInt8)) (hl : ev.length ≤ 1048576) : CV Tryz.prog 66 [rowsA ev] (· = .bool (fewB ev)) := by
  refine CV_intro tyOk Tryz.func66 (by kernel_rfl) rfl 19 rfl (by simp) [.tmp 2] rfl ?_
  intro w0 ok0
  have hml : (ev.map byA).length = ev.length := by simp
  unfold fewB
  by_cases g : ev.length ≤ 8
  case neg =>
    have d0 : decide ((8 : Int) < ((ev.map byA).length : Int)) = true := decide_eq_true (by omega)
    rw [decide_eq_false g, Bool.false_and]
    repeat' (first | refine T_seq ?_ | refine N_then ?_ | refine N_thenR ?_ | refine T_regX tyOk ?_ | refine S_nil ?_ | refine T_ret ?_ | (apply E_tmp; (· exact rfl); (· (repeat' (first | exact pure_int _ _ | exact pure_bool _ | exact pure_str _); done))) | (apply T_ifT; (· exact rfl); (· (first | assumption | exact rfl))) | apply S_move | apply S_assign | apply S_gtr | (apply S_len_ls; (· exact rfl); (· exact gt_any rfl)) | exact gt_any rfl | exact rfl | fail)
  have d0 : decide ((8 : Int) < ((ev.map byA).length : Int)) = false := decide_eq_false (by omega)
  rw [decide_eq_true g, Bool.true_and]
  repeat' (first | refine T_seq ?_ | refine N_then ?_ | refine T_regX tyOk ?_ | refine S_nil ?_ | refine T_skip ?_ | refine T_block ?_ | (apply T_ifF; (· exact rfl); (· (first | assumption | exact rfl))) | apply S_move | apply S_assign | apply S_gtr | (apply S_len_ls; (· exact rfl); (· exact gt_any rfl)) | exact gt_any rfl | exact rfl | fail)
  refine T_roundsS (α := Nat) (fun k => ⟨[(0, rowsA ev), (3, .int .i64 k)], [], 0⟩)
    (fun k => ev.length - k) (fun k => k ≤ ev.length ∧ (ev.any fun e => decide (60 < e.length)) = (ev.drop k).any fun e => decide (60 < e.length)) 0 ((weak_of (by repeat' (first | exact keepE_nil | refine keepE_cons rfl ?_)) (by repeat' (first | exact keepB_nil | refine keepB_cons (by first | rfl | exact congrArg (fun l => some (Box.mk l _ _ _)) hset) ?_)) (Nat.le_refl _))).sub ⟨by omega, rfl⟩ ?_
  rintro k ⟨hk, hI⟩
  by_cases hkl : k < ev.length
  · have d1 : decide ((k : Int) < ((ev.map byA).length : Int)) = true := decide_eq_true (by omega)
    have hget := map_getD byA ev [] (k := k) (by omega)
    rw [any_step _ ev [] hkl] at hI
    generalize ev.getD k [] = e at *
    have hel := bA_length e
    have hw : IntKind.wrap .i64 ((k : Int) + 1) = ((k + 1 : Nat) : Int) := by rw [wrap_i64 (by omega) (by omega)]; omega
    by_cases q : 60 < e.length
    · have d2 : decide ((60 : Int) < ((bA e).length : Int)) = true := decide_eq_true (by omega)
      rw [decide_eq_true q, Bool.true_or] at hI
      rw [hI, Bool.not_true]
      repeat' (first | refine T_seq ?_ | refine N_then ?_ | refine N_thenR ?_ | refine N_blockR ?_ | refine N_againSR ?_ | refine T_regX tyOk ?_ | refine S_nil ?_ | refine T_skip ?_ | refine T_ret ?_ | refine T_block ?_ | (apply E_tmp; (· exact rfl); (· (repeat' (first | exact pure_int _ _ | exact pure_bool _ | exact pure_str _); done))) | (apply T_ifT; (· exact rfl); (· (first | assumption | exact rfl))) | apply S_move | apply S_assign | (apply S_loadV; (· exact rfl); (· exact gt_any rfl); (· exact rfl); (· (first | exact ⟨rfl, rfl⟩ | exact ⟨rfl, trivial⟩ | assumption))) | apply S_lss | apply S_gtr | (apply S_len_ls; (· exact rfl); (· exact gt_any rfl)) | (apply S_idxLs; (· exact rfl); (· exact rfl); (· exact gt_any rfl); (· exact gt_any rfl)) | exact gt_any rfl | assumption | (refine ⟨?_, ?_⟩ <;> omega) | exact rfl | fail)
    · have d2 : decide ((60 : Int) < ((bA e).length : Int)) = false := decide_eq_false (by omega)
      rw [decide_eq_false q, Bool.false_or] at hI
      repeat' (first | refine T_seq ?_ | refine N_then ?_ | refine N_block ?_ | refine T_regX tyOk ?_ | refine S_nil ?_ | refine T_skip ?_ | refine T_block ?_ | (apply T_ifT; (· exact rfl); (· (first | assumption | exact rfl))) | (apply T_ifF; (· exact rfl); (· (first | assumption | exact rfl))) | apply S_move | apply S_assign | (apply S_loadV; (· exact rfl); (· exact gt_any rfl); (· exact rfl); (· (first | exact ⟨rfl, rfl⟩ | exact ⟨rfl, trivial⟩ | assumption))) | apply S_lss | apply S_gtr | apply S_add | (apply S_len_ls; (· exact rfl); (· exact gt_any rfl)) | (apply S_idxLs; (· exact rfl); (· exact rfl); (· exact gt_any rfl); (· exact gt_any rfl)) | exact gt_any rfl | assumption | (refine ⟨?_, ?_⟩ <;> omega) | exact rfl | fail)
      exact N_againS (k + 1) ((weak_of (by repeat' (first | exact keepE_nil | refine keepE_cons rfl ?_)) (by repeat' (first | exact keepB_nil | refine keepB_cons (by first | rfl | exact congrArg (fun l => some (Box.mk l _ _ _)) hset) ?_)) (Nat.le_refl _))).sub ⟨by omega, hI⟩ (by omega)
  · have d1 : decide ((k : Int) < ((ev.map byA).length : Int)) = false := decide_eq_false (by omega)
    obtain rfl : k = ev.length := by omega
    rw [List.drop_length, List.any_nil] at hI
    rw [hI, Bool.not_false]
    repeat' (first | refine T_seq ?_ | refine N_then ?_ | refine N_thenE ?_ | refine N_blockE ?_ | refine N_againSE ?_ | refine T_regX tyOk ?_ | refine S_nil ?_ | refine T_ret ?_ | refine T_exit ?_ | (apply E_tmp; (· exact rfl); (· (repeat' (first | exact pure_int _ _ | exact pure_bool _ | exact pure_str _); done))) | (apply T_ifF; (· exact rfl); (· (first | assumption | exact rfl))) | apply S_move | apply S_assign | apply S_lss | (apply S_len_ls; (· exact rfl); (· exact gt_any rfl)) | exact gt_any rfl | exact rfl | fail)

def headsL (tr : List Blk) : List Hd := tr.map Blk.head
theorem headsL_length (tr : List Blk) : (headsL tr).length = tr.length := by simp [headsL]
theorem headsL_getD (tr : List Blk) (k : Nat) (h : k < tr.length) : (headsL tr).getD k Hd0 = (tr.getD k Blk0).head := by
  simp [headsL, List.getD_eq_getElem?_getD, List.getElem?_map, List.getElem?_eq_getElem h]
theorem take_snoc {α : Type} (l : List α) (d : α) {k : Nat} (h : k < l.length) : l.take (k + 1) = l.take k ++ [l.getD k d] := by
  rw [List.take_add_one, List.getElem?_eq_getElem h, List.getD_eq_getElem?_getD, List.getElem?_eq_getElem h]; rfl

theorem headsOf_cr0 (tr : List Blk) (hl : tr.length ≤ 1048576) : CR Tryz.prog 59 [blkAS tr] [] 0 (Is (.sl 0 0 tr.length tr.length) [(0, some ⟨(headsL tr).map hdA, 6, true, false⟩)] (0 + 1)) := by
  refine CR_introU tyOk Tryz.func59 (by kernel_rfl) rfl 20 rfl (by simp) [.tmp 2] rfl ?_
  intro w0 ok0 wr φ0
  have hml : (tr.map blkA).length = tr.length := by simp
  have hH : headsL tr = tr.map Blk.head := rfl
  rw [hH]
  repeat' (first | refine T_seq ?_ | refine N_then ?_ | refine T_regX tyOk ?_ | refine S_nil ?_ | refine T_block ?_ | apply S_move | apply S_assign | (apply S_len_ls; (· exact rfl); (· exact gt_any rfl)) | (apply S_buildL tyOk; (· exact rfl); (· exact rfl); (· exact rfl)) | (dsimp only; omega) | exact gtsI_nil | exact elts_nil | exact gt_any rfl | exact rfl | fail)
  refine T_roundsS (α := Nat) (fun k => ⟨[(3, .sl 0 0 k k), (7, blkAS tr), (8, .int .i64 (tr.map blkA).length), (9, .int .i64 k)], [(0, some ⟨((tr.take k).map Blk.head).map hdA, 6, true, false⟩)], 1⟩)
    (fun k => tr.length - k) (fun k => k ≤ tr.length) 0 ((weak_of (by repeat' (first | exact keepE_nil | refine keepE_cons rfl ?_)) (by repeat' (first | exact keepB_nil | refine keepB_cons (by first | rfl | exact congrArg (fun l => some (Box.mk l _ _ _)) hset) ?_)) (Nat.le_refl _))).sub (by omega) ?_
  intro k hk
  have hbl : (((tr.take k).map Blk.head).map hdA).length = k := by rw [List.length_map, List.length_map, List.length_take]; omega
  by_cases hkl : k < tr.length
  · have d1 : decide ((k : Int) < ((tr.map blkA).length : Int)) = true := decide_eq_true (by omega)
    have hget := map_getD blkA tr Blk0 (k := k) (by omega)
    have e := take_snoc tr Blk0 hkl
    generalize tr.getD k Blk0 = b at *
    have hset : ((tr.take k).map Blk.head).map hdA ++ [hdA b.head] = ((tr.take (k + 1)).map Blk.head).map hdA := by rw [e]; simp
    have hw : IntKind.wrap .i64 ((k : Int) + 1) = ((k + 1 : Nat) : Int) := by rw [wrap_i64 (by omega) (by omega)]; omega
    repeat' (first | refine T_seq ?_ | refine N_then ?_ | refine N_block ?_ | refine T_regX tyOk ?_ | refine S_nil ?_ | refine T_skip ?_ | refine T_block ?_ | (apply T_ifT; (· exact rfl); (· (first | assumption | exact rfl))) | apply S_move | apply S_assign | (apply M_loadA; (· exact rfl); (· exact rfl); (· exact gt_any rfl); (· exact rfl); (· exact rfl); (· (repeat' constructor))) | (apply S_loadVA; (· exact rfl); (· exact gt_any rfl); (· exact rfl); (· exact rfl)) | (apply S_fieldP; (· exact rfl); (· exact rfl); (· exact rfl); (· exact rfl); (· exact gt_any rfl)) | apply S_lss | apply S_add | apply S_alloc | (apply S_store1; (· exact rfl); (· exact gt_any rfl); (· exact rfl); (· exact rfl); (· exact rfl); (· exact rfl)) | (apply S_idxLs; (· exact rfl); (· exact rfl); (· exact gt_any rfl); (· exact gt_any rfl)) | (apply M_appB; (· exact rfl); (· exact rfl); (· exact gt_any rfl)) | (apply S_buildV tyOk; (· exact rfl); (· exact rfl)) | (apply mlen; first | exact rfl | assumption | exact Nat.le_of_ble_eq_true rfl | omega | (simp [bA_length]; done) | (simp [bA_length]; omega)) | (apply msz; first | assumption | exact Nat.le_of_ble_eq_true rfl | (dsimp only; simp only [List.length_append, List.length_map, List.length_cons, List.length_nil, bA_length, List.length_take, List.length_drop, List.length_replicate] at *; omega) | (dsimp only; omega)) | (apply mnorm; first | with_reducible exact app_nil0 _ | exact app_norm _ _ | exact rfl) | exact Src.ls rfl rfl | (dsimp only; omega) | exact gtsI_nil | (apply gtsI_cons; (· exact gt_any rfl)) | exact elts_nil | apply elts_cons | (intro hu; cases hu; done) | exact gt_any rfl | exact okCells_of rfl rfl | assumption | (refine ⟨?_, ?_⟩ <;> omega) | exact rfl | fail)
    exact N_againS (k + 1) (sub_names [(0, 2)] (k0 := 0) rfl (by rfl) (by repeat' (first | exact pullE_nil | (apply pullE_cons; (· exact rfl)) | exact Ren.sl _ _ _ _ | (apply ren_slE; (· first | exact rfl | omega); (· first | exact rfl | assumption | (simp [bA_length]; done) | (simp [bA_length]; omega)); (· first | exact rfl | assumption | (simp [bA_length]; done) | (simp [bA_length]; omega))) | exact Ren.ptr _ _ _ | (apply Ren.pure; (first | exact PureC.out | exact PureLC.out | assumption)) | exact renL_nil | apply renL_cons | apply ren_agg | apply ren_tup)) (by repeat' (first | exact pullB_nil | (apply pullB_pure; (· first | exact rfl | exact congrArg (fun l => some (Box.mk l _ _ _)) hset); (· (exact PureEC.out))) | (apply pullB_one; (· exact rfl)) | exact renL_nil | apply renL_cons | exact Ren.sl _ _ _ _ | exact Ren.ptr _ _ _ | (apply Ren.pure; (first | exact PureC.out | exact PureLC.out | assumption)) | apply ren_agg)) (by repeat' (first | exact lowE_nil | apply lowE_cons | exact Low.sl _ _ _ _ (by decide) | exact Low.ptr _ _ _ (by decide) | (apply Low.pure; (first | exact PureC.out | exact PureLC.out | assumption)) | exact lowL_nil | apply lowL_cons | apply low_agg | apply low_tup)) (by repeat' (first | exact lowBs_nil | apply lowBs_cons | (apply PureB.low; (exact PureEC.out)) | apply lowX_one | exact lowX_nil | exact lowL_nil | apply lowL_cons | exact Low.sl _ _ _ _ (by decide) | exact Low.ptr _ _ _ (by decide) | (apply Low.pure; (first | exact PureC.out | exact PureLC.out | assumption))))) (by omega) (by omega)
  · have d1 : decide ((k : Int) < ((tr.map blkA).length : Int)) = false := decide_eq_false (by omega)
    obtain rfl : k = tr.length := by omega
    rw [List.take_length]
    repeat' (first | refine T_seq ?_ | refine N_then ?_ | refine N_thenE ?_ | refine N_blockE ?_ | refine N_againSE ?_ | refine T_regX tyOk ?_ | refine S_nil ?_ | refine T_ret ?_ | refine T_exit ?_ | (apply T_ifF; (· exact rfl); (· (first | assumption | exact rfl))) | apply S_move | apply S_assign | apply S_lss | exact gt_any rfl | exact rfl | fail)
    (apply E_U0 [(0, 0)] <;> repeat' (first | exact resL_nil | (apply resL_tmp; (· exact rfl)) | (apply resL_cell; (· exact rfl); (· exact rfl); (· exact rfl); (· exact rfl); (· exact rfl); (· exact rfl)) | (apply resL_arr; (· exact rfl); (· exact rfl); (· exact rfl); (· exact rfl); (· (first | assumption | exact rfl))) | exact Ren.sl _ _ _ _ | (apply ren_slE; (· first | exact rfl | omega); (· first | exact rfl | assumption | (simp [bA_length]; done) | (simp [bA_length]; omega)); (· first | exact rfl | assumption | (simp [bA_length]; done) | (simp [bA_length]; omega))) | exact Ren.ptr _ _ _ | exact renL_nil | apply renL_cons | (apply Ren.pure; exact PureC.out) | apply ren_agg | apply ren_tup | exact Low.sl _ _ _ _ (by decide) | exact Low.ptr _ _ _ (by decide) | exact lowL_nil | apply lowL_cons | (apply Low.pure; exact PureC.out) | apply low_agg | apply low_tup | exact pullB_nil | (apply pullB_pureE; (· exact rfl); (· first | exact rfl | assumption | (simp [bA]; done)); (· exact PureEC.out)) | (apply pullB_one; (· exact rfl)) | exact lowBs_nil | apply lowBs_cons | (apply PureB.low; exact PureEC.out) | apply lowX_one | exact lowX_nil | exact rfl))

theorem headsOf_cr (tr : List Blk) (hl : tr.length ≤ 1048576) (N : Nat) : CR Tryz.prog 59 [blkAS tr] [] N (Is (.sl N 0 tr.length tr.length) [(N, some ⟨(headsL tr).map hdA, 6, true, false⟩)] (N + 1)) :=
  CR.allN (headsOf_cr0 tr hl) N (by first | exact PureC.out | exact PureLC.out | assumption) (by repeat' (first | exact Ren.sl _ _ _ _ | exact Ren.ptr _ _ _ | exact renL_nil | apply renL_cons | (apply Ren.pure; (first | exact PureC.out | exact PureLC.out | assumption)) | apply ren_agg | apply ren_tup)) (by repeat' (first | exact renBs_nil | (apply renBs_pure; (· exact rfl); (· (exact PureEC.out))) | (apply renBs_one; (· exact rfl)) | exact renL_nil | apply renL_cons | exact Ren.sl _ _ _ _ | exact Ren.ptr _ _ _ | (apply Ren.pure; (first | exact PureC.out | exact PureLC.out | assumption)) | apply ren_agg))

theorem headsOf_cv (tr : List Blk) (hl : tr.length ≤ 1048576) : CV Tryz.prog 59 [blkAS tr] (· = hdAS (headsL tr)) := CR.byVal (headsOf_cr tr hl 0) (by simp [headsL]) PureEC.out

theorem l5Heads_cr0 (tr : List Blk) (hl : tr.length ≤ 1048576) : CR Tryz.prog 54 [blkAS tr] [] 0 (Is (.tup [.sl 0 0 tr.length tr.length, .sl (0 + 1) 0 tr.length tr.length]) [(0, some ⟨(headsL tr).map hdA, 6, true, false⟩), (0 + 1, some ⟨((headsL tr).map digOr).map byA, 1, true, false⟩)] (0 + 2)) := by
  refine CR_introU tyOk Tryz.func54 (by kernel_rfl) rfl 34 rfl (by simp) [.tmp 2, .tmp 3] rfl ?_
  intro w0 ok0 wr φ0
  have hml : (tr.map blkA).length = tr.length := by simp
  have hH : headsL tr = tr.map Blk.head := rfl
  rw [hH]
  repeat' (first | refine T_seq ?_ | refine N_then ?_ | refine T_regX tyOk ?_ | refine S_nil ?_ | refine T_block ?_ | apply S_assign | (apply S_buildL tyOk; (· exact rfl); (· exact rfl); (· exact rfl)) | (dsimp only; omega) | exact gtsI_nil | exact elts_nil | exact gt_any rfl | exact rfl | fail)
  refine T_roundsS (α := Nat) (fun k => ⟨[(0, blkAS tr), (4, .sl 0 0 k k), (5, .sl 1 0 k k), (6, .int .i64 k)], [(0, some ⟨((tr.take k).map Blk.head).map hdA, 6, true, false⟩), (1, some ⟨(((tr.take k).map Blk.head).map digOr).map byA, 1, true, false⟩)], 2⟩)
    (fun k => tr.length - k) (fun k => k ≤ tr.length) 0 ((weak_of (by repeat' (first | exact keepE_nil | refine keepE_cons rfl ?_)) (by repeat' (first | exact keepB_nil | refine keepB_cons (by first | rfl | exact congrArg (fun l => some (Box.mk l _ _ _)) hset) ?_)) (Nat.le_refl _))).sub (by omega) ?_
  intro k hk
  have hbl : (((tr.take k).map Blk.head).map hdA).length = k := by rw [List.length_map, List.length_map, List.length_take]; omega
  have hbl2 : ((((tr.take k).map Blk.head).map digOr).map byA).length = k := by rw [List.length_map, List.length_map, List.length_map, List.length_take]; omega
  by_cases hkl : k < tr.length
  · have d1 : decide ((k : Int) < ((tr.map blkA).length : Int)) = true := decide_eq_true (by omega)
    have hget := map_getD blkA tr Blk0 (k := k) (by omega)
    have e := take_snoc tr Blk0 hkl
    have c0 := specDigOr_cv (tr.getD k Blk0).head
    generalize tr.getD k Blk0 = b at *
    have hset : ((tr.take k).map Blk.head).map hdA ++ [hdA b.head] = ((tr.take (k + 1)).map Blk.head).map hdA := by rw [e]; simp
    have hset2 : (((tr.take k).map Blk.head).map digOr).map byA ++ [byA (digOr b.head)] = (((tr.take (k + 1)).map Blk.head).map digOr).map byA := by rw [e]; simp
    have hw : IntKind.wrap .i64 ((k : Int) + 1) = ((k + 1 : Nat) : Int) := by rw [wrap_i64 (by omega) (by omega)]; omega
    repeat' (first | refine T_seq ?_ | refine N_then ?_ | refine N_block ?_ | refine T_regX tyOk ?_ | refine S_nil ?_ | refine T_skip ?_ | refine T_block ?_ | (apply T_ifT; (· exact rfl); (· (first | assumption | exact rfl))) | apply S_move | apply S_assign | (apply M_loadVA; (· exact rfl); (· exact rfl); (· exact gt_any rfl); (· (repeat' constructor))) | (apply S_fieldV; (· exact rfl); (· exact rfl); (· exact rfl); (· exact rfl); (· exact gt_any rfl)) | apply S_lss | apply S_add | (apply S_len_ls; (· exact rfl); (· exact gt_any rfl)) | (apply S_idxLs; (· exact rfl); (· exact rfl); (· exact gt_any rfl); (· exact gt_any rfl)) | (apply M_appB; (· exact rfl); (· exact rfl); (· exact gt_any rfl)) | (apply S_buildV tyOk; (· exact rfl); (· exact rfl)) | apply S_call (f := 110) | apply c0 | exact PureLC.out | (apply mlen; first | exact rfl | assumption | exact Nat.le_of_ble_eq_true rfl | omega | (simp [bA_length]; done) | (simp [bA_length]; omega)) | (apply msz; first | assumption | exact Nat.le_of_ble_eq_true rfl | (dsimp only; simp only [List.length_append, List.length_map, List.length_cons, List.length_nil, bA_length, List.length_take, List.length_drop, List.length_replicate] at *; omega) | (dsimp only; omega)) | (apply mnorm; first | with_reducible exact app_nil0 _ | exact app_norm _ _ | exact rfl) | exact Src.ls rfl rfl | (dsimp only; omega) | exact gtsI_nil | (apply gtsI_cons; (· exact gt_any rfl)) | exact elts_nil | apply elts_cons | (intro hu; cases hu; done) | exact gt_any rfl | exact gts_nil | (apply gts_cons; (· exact gt_any rfl)) | exact okCells_of rfl rfl | assumption | (refine ⟨?_, ?_⟩ <;> omega) | exact rfl | fail)
    exact N_againS (k + 1) (sub_names [(0, 2), (1, 3)] (k0 := 0) rfl (by rfl) (by repeat' (first | exact pullE_nil | (apply pullE_cons; (· exact rfl)) | exact Ren.sl _ _ _ _ | (apply ren_slE; (· first | exact rfl | omega); (· first | exact rfl | assumption | (simp [bA_length]; done) | (simp [bA_length]; omega)); (· first | exact rfl | assumption | (simp [bA_length]; done) | (simp [bA_length]; omega))) | exact Ren.ptr _ _ _ | (apply Ren.pure; (first | exact PureC.out | exact PureLC.out | assumption)) | exact renL_nil | apply renL_cons | apply ren_agg | apply ren_tup)) (by repeat' (first | exact pullB_nil | (apply pullB_pure; (· first | exact rfl | exact congrArg (fun l => some (Box.mk l _ _ _)) hset | exact congrArg (fun l => some (Box.mk l _ _ _)) hset2); (· (exact PureEC.out))) | (apply pullB_one; (· exact rfl)) | exact renL_nil | apply renL_cons | exact Ren.sl _ _ _ _ | exact Ren.ptr _ _ _ | (apply Ren.pure; (first | exact PureC.out | exact PureLC.out | assumption)) | apply ren_agg)) (by repeat' (first | exact lowE_nil | apply lowE_cons | exact Low.sl _ _ _ _ (by decide) | exact Low.ptr _ _ _ (by decide) | (apply Low.pure; (first | exact PureC.out | exact PureLC.out | assumption)) | exact lowL_nil | apply lowL_cons | apply low_agg | apply low_tup)) (by repeat' (first | exact lowBs_nil | apply lowBs_cons | (apply PureB.low; (exact PureEC.out)) | apply lowX_one | exact lowX_nil | exact lowL_nil | apply lowL_cons | exact Low.sl _ _ _ _ (by decide) | exact Low.ptr _ _ _ (by decide) | (apply Low.pure; (first | exact PureC.out | exact PureLC.out | assumption))))) (by omega) (by omega)
  · have d1 : decide ((k : Int) < ((tr.map blkA).length : Int)) = false := decide_eq_false (by omega)
    obtain rfl : k = tr.length := by omega
    rw [List.take_length]
    repeat' (first | refine T_seq ?_ | refine N_then ?_ | refine N_thenE ?_ | refine N_blockE ?_ | refine N_againSE ?_ | refine T_regX tyOk ?_ | refine S_nil ?_ | refine T_ret ?_ | refine T_exit ?_ | (apply T_ifF; (· exact rfl); (· (first | assumption | exact rfl))) | apply S_move | apply S_assign | apply S_lss | (apply S_len_ls; (· exact rfl); (· exact gt_any rfl)) | exact gt_any rfl | exact rfl | fail)
    (apply E_U0 [(0, 0), (1, 1)] <;> repeat' (first | exact resL_nil | (apply resL_tmp; (· exact rfl)) | (apply resL_cell; (· exact rfl); (· exact rfl); (· exact rfl); (· exact rfl); (· exact rfl); (· exact rfl)) | (apply resL_arr; (· exact rfl); (· exact rfl); (· exact rfl); (· exact rfl); (· (first | assumption | exact rfl))) | exact Ren.sl _ _ _ _ | (apply ren_slE; (· first | exact rfl | omega); (· first | exact rfl | assumption | (simp [bA_length]; done) | (simp [bA_length]; omega)); (· first | exact rfl | assumption | (simp [bA_length]; done) | (simp [bA_length]; omega))) | exact Ren.ptr _ _ _ | exact renL_nil | apply renL_cons | (apply Ren.pure; exact PureC.out) | apply ren_agg | apply ren_tup | exact Low.sl _ _ _ _ (by decide) | exact Low.ptr _ _ _ (by decide) | exact lowL_nil | apply lowL_cons | (apply Low.pure; exact PureC.out) | apply low_agg | apply low_tup | exact pullB_nil | (apply pullB_pureE; (· exact rfl); (· first | exact rfl | assumption | (simp [bA]; done)); (· exact PureEC.out)) | (apply pullB_one; (· exact rfl)) | exact lowBs_nil | apply lowBs_cons | (apply PureB.low; exact PureEC.out) | apply lowX_one | exact lowX_nil | exact rfl))

theorem l5Heads_cr (tr : List Blk) (hl : tr.length ≤ 1048576) (N : Nat) : CR Tryz.prog 54 [blkAS tr] [] N (Is (.tup [.sl N 0 tr.length tr.length, .sl (N + 1) 0 tr.length tr.length]) [(N, some ⟨(headsL tr).map hdA, 6, true, false⟩), (N + 1, some ⟨((headsL tr).map digOr).map byA, 1, true, false⟩)] (N + 2)) :=
  CR.allN (l5Heads_cr0 tr hl) N (by first | exact PureC.out | exact PureLC.out | assumption) (by repeat' (first | exact Ren.sl _ _ _ _ | exact Ren.ptr _ _ _ | exact renL_nil | apply renL_cons | (apply Ren.pure; (first | exact PureC.out | exact PureLC.out | assumption)) | apply ren_agg | apply ren_tup)) (by repeat' (first | exact renBs_nil | (apply renBs_pure; (· exact rfl); (· (exact PureEC.out))) | (apply renBs_one; (· exact rfl)) | exact renL_nil | apply renL_cons | exact Ren.sl _ _ _ _ | exact Ren.ptr _ _ _ | (apply Ren.pure; (first | exact PureC.out | exact PureLC.out | assumption)) | apply ren_agg))

theorem l5Heads_cv (tr : List Blk) (hl : tr.length ≤ 1048576) : CV Tryz.prog 54 [blkAS tr] (· = .tup [hdAS (headsL tr), rowsA ((headsL tr).map digOr)]) := by
  refine (l5Heads_cr tr hl 0).toCV fun r bs n ⟨e1, e2, e3⟩ => ?_
  subst e1 e2
  exact view_tup ⟨view_slA rfl (by simp [headsL]) PureEC.out, view_slA rfl (by simp [headsL]) PureEC.out, trivial⟩

end Go.Proofs.YtaolmfgpebncjaaGreat
