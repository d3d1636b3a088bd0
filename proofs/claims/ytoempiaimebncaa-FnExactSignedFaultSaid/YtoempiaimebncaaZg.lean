/- Signatures checked. -/
import Derived.Test.YtoempiaimebncaaZf
set_option maxRecDepth 100000
set_option maxHeartbeats 3200000
set_option linter.unusedSimpArgs false
set_option linter.unusedVariables false
namespace Go.Proofs.Ytoempiaimebncaa
open Go.Av
attribute [local irreducible] T thenQ blockQ againQ againS WX retV retR Gt Gts GtsP okCells CV CR Av.Pure
attribute [local irreducible] sha digL

/-- The ends of so many chains, behind one another. -/
def endsL (ps : List (List UInt8)) (ds : List Int) : Nat → List UInt8
  | 0 => []
  | k + 1 => endsL ps ds k ++ stepN (ps.getD k []) (3 - ds.getD k 0).toNat
theorem endsL_succ (ps : List (List UInt8)) (ds : List Int) (k : Nat) : endsL ps ds (k + 1) = endsL ps ds k ++ stepN (ps.getD k []) (3 - ds.getD k 0).toNat := rfl
theorem endsL_zero (ps : List (List UInt8)) (ds : List Int) : endsL ps ds 0 = [] := rfl
theorem endsL_length (ps : List (List UInt8)) (ds : List Int) (h : ∀ k, (ps.getD k []).length ≤ 32) : ∀ k, (endsL ps ds k).length ≤ 32 * k
  | 0 => Nat.le_refl _
  | k + 1 => by
    rw [endsL, List.length_append]
    have h1 := endsL_length ps ds h k
    have h2 := stepN_length (ps.getD k []) (b := 32) (by decide) (h k) (3 - ds.getD k 0).toNat
    omega
theorem rows32_all {ws : List (List UInt8)} (h : rows32 ws = true) (k : Nat) : (ws.getD k []).length ≤ 32 := by
  by_cases hk : k < ws.length
  · rw [rows32_mem h hk]; exact Nat.le_refl _
  · rw [List.getD_eq_getElem?_getD, List.getElem?_eq_none (by omega)]; simp

attribute [local irreducible] endsL stepN checkL prfOk rows32 upSt

def signL (root m : List UInt8) (x : Sig) : Bool := placed x && (rows32 x.parts && checkL root (endsL x.parts (digL m) 19) x.prf)

theorem checkSign_cv (root m : List UInt8) (x : Sig) (hm : m.length ≤ 100000000) (h : x.parts.length ≤ 1000000000) (h2 : x.prf.path.length ≤ 1000000000) : CV Try.prog 31 [byA root, byA m, sigA x] (· = .bool (signL root m x)) := by
  refine CV_intro tyOk Try.func31 (by kernel_rfl) rfl 44 rfl (by simp) [.tmp 6] rfl ?_
  intro w0 ok0
  have hml : (x.parts.map byA).length = x.parts.length := by simp
  have c0 := isPlaced_cv x h
  have c1 := areDigests_cv x.parts h
  unfold signL
  cases h3 : placed x with
  | false =>
    rw [h3] at c0
    have d0 : (!false) = true := rfl
    repeat' (first | refine T_seq ?_ | refine N_then ?_ | refine N_thenR ?_ | refine T_regX tyOk ?_ | refine S_nil ?_ | refine T_ret ?_ | (apply E_tmp; (· exact rfl); (· (repeat' (first | exact pure_int _ _ | exact pure_bool _ | exact pure_str _); done))) | (apply T_ifT; (· exact rfl); (· (first | assumption | exact rfl))) | (apply S_gfT'; (· exact rfl); (· exact rfl); (· exact rfl); (· (first | assumption | exact rfl))) | apply S_move | apply S_assign | (apply S_pickT; (· exact gt_any rfl); (· (first | assumption | exact rfl))) | (apply S_loadW; (· exact rfl); (· exact gt_any rfl); (· exact rfl); (· exact rfl); (· exact rfl); (· exact rfl); (· exact rfl); (· exact rfl)) | apply S_not | apply S_box | apply S_callQ (f := 53) | apply c0 | exact viewL_nil | apply viewL_cons | (apply View.pure; exact PureC.out) | exact FlatC.out | exact gt_any rfl | exact gts_nil | (apply gts_cons; (· exact gt_any rfl)) | exact okCells_of rfl rfl | assumption | exact rfl | fail)
  | true =>
    rw [h3] at c0
    cases h4 : rows32 x.parts with
    | false =>
      rw [h4] at c1
      have d0 : (!true) = false := rfl
      have d1 : (!false) = true := rfl
      repeat' (first | refine T_seq ?_ | refine N_then ?_ | refine N_thenR ?_ | refine T_regX tyOk ?_ | refine S_nil ?_ | refine T_ret ?_ | (apply E_tmp; (· exact rfl); (· (repeat' (first | exact pure_int _ _ | exact pure_bool _ | exact pure_str _); done))) | (apply T_ifT; (· exact rfl); (· (first | assumption | exact rfl))) | (apply S_gf; (· exact rfl); (· exact rfl); (· (first | assumption | exact rfl))) | apply S_move | apply S_assign | (apply S_pickF; (· exact gt_any rfl); (· (first | assumption | exact rfl))) | (apply S_loadP; (· exact rfl); (· exact gt_any rfl); (· exact rfl); (· exact rfl); (· exact rfl); (· (first | exact ⟨rfl, rfl⟩ | exact ⟨rfl, trivial⟩ | assumption))) | (apply S_loadW; (· exact rfl); (· exact gt_any rfl); (· exact rfl); (· exact rfl); (· exact rfl); (· exact rfl); (· exact rfl); (· exact rfl)) | (apply S_fieldP; (· exact rfl); (· exact rfl); (· exact rfl); (· exact rfl); (· exact gt_any rfl)) | apply S_not | apply S_box | apply S_callQ (f := 53) | apply c0 | apply S_callQ (f := 49) | apply c1 | exact viewL_nil | apply viewL_cons | (apply View.pure; exact PureC.out) | exact FlatC.out | exact gt_any rfl | exact gts_nil | (apply gts_cons; (· exact gt_any rfl)) | exact okCells_of rfl rfl | assumption | exact rfl | fail)
    | true =>
      rw [h4] at c1
      have d0 : (!true) = false := rfl
      have hp19 : x.parts.length = 19 := by
        unfold placed at h3
        simp only [Bool.and_eq_true, decide_eq_true_eq] at h3
        exact h3.2.1
      have c2 := implDigitsOf_cv m hm
      have hdl := digL_length m
      have hdr := digL_range m
      generalize digL m = ds at *
      have hdm : (ds.map numA).length = ds.length := by simp
      have he := endsL_length x.parts ds (rows32_all h4)
      repeat' (first | refine T_seq ?_ | refine N_then ?_ | refine T_regX tyOk ?_ | refine S_nil ?_ | refine T_skip ?_ | refine T_block ?_ | (apply T_ifF; (· exact rfl); (· (first | assumption | exact rfl))) | (apply S_gf; (· exact rfl); (· exact rfl); (· (first | assumption | exact rfl))) | apply S_move | apply S_assign | (apply S_pickF; (· exact gt_any rfl); (· (first | assumption | exact rfl))) | (apply S_loadP; (· exact rfl); (· exact gt_any rfl); (· exact rfl); (· exact rfl); (· exact rfl); (· (first | exact ⟨rfl, rfl⟩ | exact ⟨rfl, trivial⟩ | assumption))) | (apply S_loadW; (· exact rfl); (· exact gt_any rfl); (· exact rfl); (· exact rfl); (· exact rfl); (· exact rfl); (· exact rfl); (· exact rfl)) | (apply S_fieldP; (· exact rfl); (· exact rfl); (· exact rfl); (· exact rfl); (· exact gt_any rfl)) | apply S_not | (apply S_len_ls; (· exact rfl); (· exact gt_any rfl)) | apply S_box | (apply S_buildL tyOk; (· exact rfl); (· exact rfl); (· exact rfl)) | apply S_callQ (f := 53) | apply c0 | apply S_callQ (f := 49) | apply c1 | apply S_call (f := 54) | apply c2 | exact viewL_nil | apply viewL_cons | (apply View.pure; exact PureC.out) | exact FlatC.out | exact PureLC.out | (dsimp only; omega) | exact gtsI_nil | exact elts_nil | exact gt_any rfl | exact gts_nil | (apply gts_cons; (· exact gt_any rfl)) | exact okCells_of rfl rfl | exact rfl | fail)
      refine T_roundsS (α := Nat) (fun k => ⟨[(0, byA root), (5, .ptr 0 0 0), (7, .sl 1 0 (endsL x.parts ds k).length (endsL x.parts ds k).length), (21, sl1 (ds.map numA)), (22, .int .i64 (ds.map numA).length), (23, .int .i64 k)], [(0, some ⟨[sigA x], 5, false, false⟩), (1, some ⟨bA (endsL x.parts ds k), 1, true, false⟩)], 2⟩)
        (fun k => 19 - k) (fun k => k ≤ 19) 0 ?_ (by omega) ?_
      · rw [endsL_zero]
        exact ((weak_of (by repeat' (first | exact keepE_nil | refine keepE_cons rfl ?_)) (by repeat' (first | exact keepB_nil | refine keepB_cons (by first | rfl | exact congrArg (fun l => some (Box.mk l _ _ _)) hset) ?_)) (Nat.le_refl _))).sub
      intro k hk
      have hek := he k
      have hbl := bA_length (endsL x.parts ds k)
      by_cases hkl : k < 19
      · have d2 : decide ((k : Int) < ((ds.map numA).length : Int)) = true := decide_eq_true (by omega)
        have hget := map_getD numA ds 0 (k := k) (by omega)
        have hget2 := map_getD byA x.parts [] (k := k) (by omega)
        have hpl := rows32_mem h4 (k := k) (by omega)
        have hdg := hdr _ (getD_mem ds 0 (by omega : k < ds.length))
        have hn : endsL x.parts ds (k + 1) = endsL x.parts ds k ++ stepN (x.parts.getD k []) (3 - ds.getD k 0).toNat := endsL_succ _ _ _
        have hsl := stepN_length (x.parts.getD k []) (b := 32) (by decide) (by omega) (3 - ds.getD k 0).toNat
        have c3 := climb_cv (x.parts.getD k []) (3 - ds.getD k 0).toNat (by omega) (by omega)
        generalize x.parts.getD k [] = q at *
        generalize ds.getD k 0 = z at *
        have w1 : IntKind.wrap .i64 (3 - z) = (((3 - z).toNat : Nat) : Int) := by rw [wrap_i64 (by omega) (by omega)]; omega
        generalize (3 - z).toNat = t at *
        have hset : bA (endsL x.parts ds k) ++ bA (stepN q t) = bA (endsL x.parts ds (k + 1)) := by rw [hn, bA_app]
        have hbq := bA_length (stepN q t)
        have hln : (endsL x.parts ds k).length + (bA (stepN q t)).length = (endsL x.parts ds (k + 1)).length := by rw [hn, List.length_append, hbq]
        have hw : IntKind.wrap .i64 ((k : Int) + 1) = ((k + 1 : Nat) : Int) := by rw [wrap_i64 (by omega) (by omega)]; omega
        repeat' (first | refine T_seq ?_ | refine N_then ?_ | refine N_block ?_ | refine T_regX tyOk ?_ | refine S_nil ?_ | refine T_skip ?_ | refine T_block ?_ | (apply T_ifT; (· exact rfl); (· (first | assumption | exact rfl))) | apply S_move | apply S_assign | (apply S_loadP; (· exact rfl); (· exact gt_any rfl); (· exact rfl); (· exact rfl); (· exact rfl); (· (first | exact ⟨rfl, rfl⟩ | exact ⟨rfl, trivial⟩ | assumption))) | (apply S_loadV; (· exact rfl); (· exact gt_any rfl); (· exact rfl); (· (first | exact ⟨rfl, rfl⟩ | exact ⟨rfl, trivial⟩ | assumption))) | (apply S_fieldP; (· exact rfl); (· exact rfl); (· exact rfl); (· exact rfl); (· exact gt_any rfl)) | apply S_lss | apply S_add | apply S_sub | (apply S_idxLs; (· exact rfl); (· exact rfl); (· exact gt_any rfl); (· exact gt_any rfl)) | (apply M_appB; (· exact rfl); (· exact rfl); (· exact gt_any rfl)) | apply S_call (f := 55) | apply c3 | exact PureLC.out | (apply mlen; first | exact rfl | assumption | exact Nat.le_of_ble_eq_true rfl | omega | (simp [bA_length]; done) | (simp [bA_length]; omega)) | (apply msz; first | assumption | exact Nat.le_of_ble_eq_true rfl | (dsimp only; simp only [List.length_append, List.length_map, List.length_cons, List.length_nil, bA_length, List.length_take, List.length_drop, List.length_replicate] at *; omega) | (dsimp only; omega)) | (apply mnorm; first | with_reducible exact app_nil0 _ | exact app_norm _ _ | exact rfl) | exact Src.ls rfl rfl | (dsimp only; omega) | exact gt_any rfl | exact gts_nil | (apply gts_cons; (· exact gt_any rfl)) | assumption | (refine ⟨?_, ?_⟩ <;> omega) | exact rfl | fail)
        exact N_againS (k + 1) (sub_names [(0, 0), (1, 2)] (k0 := 0) rfl (by rfl) (by repeat' (first | exact pullE_nil | (apply pullE_cons; (· exact rfl)) | exact Ren.sl _ _ _ _ | (apply ren_slE; (· first | exact rfl | omega); (· first | exact rfl | assumption | (simp [bA_length]; done) | (simp [bA_length]; omega)); (· first | exact rfl | assumption | (simp [bA_length]; done) | (simp [bA_length]; omega))) | exact Ren.ptr _ _ _ | (apply Ren.pure; (first | exact PureC.out | exact PureLC.out | assumption)) | exact renL_nil | apply renL_cons | apply ren_agg | apply ren_tup)) (by repeat' (first | exact pullB_nil | (apply pullB_pure; (· first | exact rfl | exact congrArg (fun l => some (Box.mk l _ _ _)) hset); (· (exact PureEC.out))) | (apply pullB_one; (· exact rfl)) | exact renL_nil | apply renL_cons | exact Ren.sl _ _ _ _ | exact Ren.ptr _ _ _ | (apply Ren.pure; (first | exact PureC.out | exact PureLC.out | assumption)) | apply ren_agg)) (by repeat' (first | exact lowE_nil | apply lowE_cons | exact Low.sl _ _ _ _ (by decide) | exact Low.ptr _ _ _ (by decide) | (apply Low.pure; (first | exact PureC.out | exact PureLC.out | assumption)) | exact lowL_nil | apply lowL_cons | apply low_agg | apply low_tup)) (by repeat' (first | exact lowBs_nil | apply lowBs_cons | (apply PureB.low; (exact PureEC.out)) | apply lowX_one | exact lowX_nil | exact lowL_nil | apply lowL_cons | exact Low.sl _ _ _ _ (by decide) | exact Low.ptr _ _ _ (by decide) | (apply Low.pure; (first | exact PureC.out | exact PureLC.out | assumption))))) (by omega) (by omega)
      · have d2 : decide ((k : Int) < ((ds.map numA).length : Int)) = false := decide_eq_false (by omega)
        obtain rfl : k = 19 := by omega
        have c3 := checkProof_cv root (endsL x.parts ds 19) x.prf (by omega) h2
        repeat' (first | refine T_seq ?_ | refine N_then ?_ | refine N_thenE ?_ | refine N_blockE ?_ | refine N_againSE ?_ | refine T_regX tyOk ?_ | refine S_nil ?_ | refine T_ret ?_ | refine T_exit ?_ | (apply E_tmp; (· exact rfl); (· (repeat' (first | exact pure_int _ _ | exact pure_bool _ | exact pure_str _); done))) | (apply T_ifF; (· exact rfl); (· (first | assumption | exact rfl))) | apply S_move | apply S_assign | (apply M_loadA; (· exact rfl); (· exact rfl); (· exact gt_any rfl); (· exact rfl); (· exact rfl); (· (repeat' constructor))) | (apply S_fieldP; (· exact rfl); (· exact rfl); (· exact rfl); (· exact rfl); (· exact gt_any rfl)) | apply S_lss | apply S_callQ (f := 56) | apply c3 | exact viewL_nil | apply viewL_cons | (apply View.pure; exact PureC.out) | (apply view_slM; (· exact rfl); (· (apply mlen; first | exact rfl | assumption | exact Nat.le_of_ble_eq_true rfl | omega | (simp [bA_length]; done) | (simp [bA_length]; omega))); (· exact PureEC.out)) | exact FlatC.out | exact gt_any rfl | exact gts_nil | (apply gts_cons; (· exact gt_any rfl)) | exact rfl | fail)

theorem specCheckSign_cv (root m : List UInt8) (x : Sig) (hr : root.length ≤ 1000000000) (hm : m.length ≤ 100000000) (h : x.parts.length ≤ 1000000000) (h2 : x.prf.path.length ≤ 1000000000) : CV Try.prog 21 [byA root, byA m, sigA x] (· = .bool (signL root m x)) := by
  refine CV_intro tyOk Try.func21 (by kernel_rfl) rfl 45 rfl (by simp) [.tmp 6] rfl ?_
  intro w0 ok0
  have hml : (x.parts.map byA).length = x.parts.length := by simp
  have c0 := l4Right_cv x h h2
  unfold signL
  cases h3 : placed x && prfOk x.prf with
  | false =>
    rw [h3] at c0
    have d0 : (!false) = true := rfl
    have hf : (placed x && (rows32 x.parts && checkL root (endsL x.parts (digL m) 19) x.prf)) = false := by
      unfold checkL
      revert h3
      cases placed x <;> cases prfOk x.prf <;> simp
    rw [hf]
    repeat' (first | refine T_seq ?_ | refine N_then ?_ | refine N_thenR ?_ | refine T_regX tyOk ?_ | refine S_nil ?_ | refine T_ret ?_ | (apply E_tmp; (· exact rfl); (· (repeat' (first | exact pure_int _ _ | exact pure_bool _ | exact pure_str _); done))) | (apply T_ifT; (· exact rfl); (· (first | assumption | exact rfl))) | apply S_assign | (apply S_loadW; (· exact rfl); (· exact gt_any rfl); (· exact rfl); (· exact rfl); (· exact rfl); (· exact rfl); (· exact rfl); (· exact rfl)) | apply S_not | apply S_box | apply S_callQ (f := 41) | apply c0 | exact viewL_nil | apply viewL_cons | (apply View.pure; exact PureC.out) | exact FlatC.out | exact gt_any rfl | exact gts_nil | (apply gts_cons; (· exact gt_any rfl)) | exact okCells_of rfl rfl | assumption | exact rfl | fail)
  | true =>
    rw [h3] at c0
    have d0 : (!true) = false := rfl
    simp only [Bool.and_eq_true] at h3
    obtain ⟨h3, h5⟩ := h3
    have hp19 : x.parts.length = 19 := by
      unfold placed at h3
      simp only [Bool.and_eq_true, decide_eq_true_eq] at h3
      exact h3.2.1
    rw [h3, Bool.true_and]
    have c2 := specDigitsOf_cv m hm
    have hdl := digL_length m
    have hdr := digL_range m
    generalize digL m = ds at *
    have hdm : (ds.map numA).length = ds.length := by simp
    repeat' (first | refine T_seq ?_ | refine N_then ?_ | refine T_regX tyOk ?_ | refine S_nil ?_ | refine T_skip ?_ | refine T_block ?_ | (apply T_ifF; (· exact rfl); (· (first | assumption | exact rfl))) | apply S_move | apply S_assign | (apply S_loadW; (· exact rfl); (· exact gt_any rfl); (· exact rfl); (· exact rfl); (· exact rfl); (· exact rfl); (· exact rfl); (· exact rfl)) | apply S_not | apply S_box | (apply S_buildL tyOk; (· exact rfl); (· exact rfl); (· exact rfl)) | apply S_callQ (f := 41) | apply c0 | apply S_call (f := 42) | apply c2 | exact viewL_nil | apply viewL_cons | (apply View.pure; exact PureC.out) | exact FlatC.out | exact PureLC.out | (dsimp only; omega) | exact gtsI_nil | exact elts_nil | exact gt_any rfl | exact gts_nil | (apply gts_cons; (· exact gt_any rfl)) | exact okCells_of rfl rfl | exact rfl | fail)
    refine T_roundsS (α := Nat) (fun k => ⟨[(0, byA root), (5, .ptr 0 0 0), (7, sl1 (ds.map numA)), (8, .sl 1 0 (endsL x.parts ds k).length (endsL x.parts ds k).length), (9, .int .i64 k)], [(0, some ⟨[sigA x], 5, false, false⟩), (1, some ⟨bA (endsL x.parts ds k), 1, true, false⟩)], 2⟩)
      (fun k => 19 - k) (fun k => k ≤ 19 ∧ rows32 x.parts = rows32 (x.parts.drop k) ∧ (endsL x.parts ds k).length ≤ 32 * k) 0 ?_ ⟨by omega, rfl, by rw [endsL_zero]; exact Nat.le_refl _⟩ ?_
    · rw [endsL_zero]
      exact ((weak_of (by repeat' (first | exact keepE_nil | refine keepE_cons rfl ?_)) (by repeat' (first | exact keepB_nil | refine keepB_cons (by first | rfl | exact congrArg (fun l => some (Box.mk l _ _ _)) hset) ?_)) (Nat.le_refl _))).sub
    rintro k ⟨hk, hI, hek⟩
    have hbl := bA_length (endsL x.parts ds k)
    by_cases hkl : k < 19
    · have d2 : decide ((k : Int) < 19) = true := decide_eq_true (by omega)
      have hget := map_getD numA ds 0 (k := k) (by omega)
      have hget2 := map_getD byA x.parts [] (k := k) (by omega)
      have hst := rows32_step x.parts (k := k) (by omega)
      have hgl := bA_length (x.parts.getD k [])
      by_cases h32 : (x.parts.getD k []).length = 32
      · have d3 : (!decide (((bA (x.parts.getD k [])).length : Int) = 32)) = false := by rw [decide_eq_true (by omega)]; rfl
        rw [decide_eq_true h32, Bool.true_and] at hst
        have hdg := hdr _ (getD_mem ds 0 (by omega : k < ds.length))
        have hn : endsL x.parts ds (k + 1) = endsL x.parts ds k ++ stepN (x.parts.getD k []) (3 - ds.getD k 0).toNat := endsL_succ _ _ _
        have hsl := stepN_length (x.parts.getD k []) (b := 32) (by decide) (by omega) (3 - ds.getD k 0).toNat
        have c3 := l4Step_cv (x.parts.getD k []) (3 - ds.getD k 0).toNat (by omega) (by omega)
        generalize x.parts.getD k [] = q at *
        generalize ds.getD k 0 = z at *
        have w1 : IntKind.wrap .i64 (3 - z) = (((3 - z).toNat : Nat) : Int) := by rw [wrap_i64 (by omega) (by omega)]; omega
        generalize (3 - z).toNat = t at *
        have hset : bA (endsL x.parts ds k) ++ bA (stepN q t) = bA (endsL x.parts ds (k + 1)) := by rw [hn, bA_app]
        have hbq := bA_length (stepN q t)
        have hln : (endsL x.parts ds k).length + (bA (stepN q t)).length = (endsL x.parts ds (k + 1)).length := by rw [hn, List.length_append, hbq]
        have hw : IntKind.wrap .i64 ((k : Int) + 1) = ((k + 1 : Nat) : Int) := by rw [wrap_i64 (by omega) (by omega)]; omega
        repeat' (first | refine T_seq ?_ | refine N_then ?_ | refine N_block ?_ | refine T_regX tyOk ?_ | (apply T_drawM (id := 10) 12 tyOk mixed; (· exact rfl); (· exact rfl); (· kernel_rfl); (· exact Nat.le_of_ble_eq_true rfl)) | refine S_nil ?_ | refine T_skip ?_ | refine T_block ?_ | (apply T_ifT; (· exact rfl); (· (first | assumption | exact rfl))) | (apply T_ifF; (· exact rfl); (· (first | assumption | exact rfl))) | apply S_move | apply S_assign | (apply S_loadP; (· exact rfl); (· exact gt_any rfl); (· exact rfl); (· exact rfl); (· exact rfl); (· (first | exact ⟨rfl, rfl⟩ | exact ⟨rfl, trivial⟩ | assumption))) | (apply S_loadV; (· exact rfl); (· exact gt_any rfl); (· exact rfl); (· (first | exact ⟨rfl, rfl⟩ | exact ⟨rfl, trivial⟩ | assumption))) | (apply S_fieldP; (· exact rfl); (· exact rfl); (· exact rfl); (· exact rfl); (· exact gt_any rfl)) | apply S_lss | (apply S_neq; (· exact gt_any rfl); (· exact gt_any rfl)) | apply S_add | apply S_sub | (apply S_len_ls; (· exact rfl); (· exact gt_any rfl)) | (apply S_idxLs; (· exact rfl); (· exact rfl); (· exact gt_any rfl); (· exact gt_any rfl)) | (apply M_appB; (· exact rfl); (· exact rfl); (· exact gt_any rfl)) | apply S_call (f := 43) | apply c3 | exact PureLC.out | (apply mlen; first | exact rfl | assumption | exact Nat.le_of_ble_eq_true rfl | omega | (simp [bA_length]; done) | (simp [bA_length]; omega)) | (apply msz; first | assumption | exact Nat.le_of_ble_eq_true rfl | (dsimp only; simp only [List.length_append, List.length_map, List.length_cons, List.length_nil, bA_length, List.length_take, List.length_drop, List.length_replicate] at *; omega) | (dsimp only; omega)) | (apply mnorm; first | with_reducible exact app_nil0 _ | exact app_norm _ _ | exact rfl) | exact Src.ls rfl rfl | (dsimp only; omega) | exact gt_any rfl | exact gts_nil | (apply gts_cons; (· exact gt_any rfl)) | assumption | (refine ⟨?_, ?_⟩ <;> omega) | exact rfl | fail)
        exact N_againS (k + 1) (sub_names [(0, 0), (1, 2)] (k0 := 0) rfl (by rfl) (by repeat' (first | exact pullE_nil | (apply pullE_cons; (· exact rfl)) | exact Ren.sl _ _ _ _ | (apply ren_slE; (· first | exact rfl | omega); (· first | exact rfl | assumption | (simp [bA_length]; done) | (simp [bA_length]; omega)); (· first | exact rfl | assumption | (simp [bA_length]; done) | (simp [bA_length]; omega))) | exact Ren.ptr _ _ _ | (apply Ren.pure; (first | exact PureC.out | exact PureLC.out | assumption)) | exact renL_nil | apply renL_cons | apply ren_agg | apply ren_tup)) (by repeat' (first | exact pullB_nil | (apply pullB_pure; (· first | exact rfl | exact congrArg (fun l => some (Box.mk l _ _ _)) hset); (· (exact PureEC.out))) | (apply pullB_one; (· exact rfl)) | exact renL_nil | apply renL_cons | exact Ren.sl _ _ _ _ | exact Ren.ptr _ _ _ | (apply Ren.pure; (first | exact PureC.out | exact PureLC.out | assumption)) | apply ren_agg)) (by repeat' (first | exact lowE_nil | apply lowE_cons | exact Low.sl _ _ _ _ (by decide) | exact Low.ptr _ _ _ (by decide) | (apply Low.pure; (first | exact PureC.out | exact PureLC.out | assumption)) | exact lowL_nil | apply lowL_cons | apply low_agg | apply low_tup)) (by repeat' (first | exact lowBs_nil | apply lowBs_cons | (apply PureB.low; (exact PureEC.out)) | apply lowX_one | exact lowX_nil | exact lowL_nil | apply lowL_cons | exact Low.sl _ _ _ _ (by decide) | exact Low.ptr _ _ _ (by decide) | (apply Low.pure; (first | exact PureC.out | exact PureLC.out | assumption))))) ⟨by omega, hI.trans hst, by omega⟩ (by omega)
      · have d3 : (!decide (((bA (x.parts.getD k [])).length : Int) = 32)) = true := by rw [decide_eq_false (by omega)]; rfl
        rw [decide_eq_false h32, Bool.false_and] at hst
        rw [hI, hst]
        repeat' (first | refine T_seq ?_ | refine N_then ?_ | refine N_thenR ?_ | refine N_blockR ?_ | refine N_againSR ?_ | refine T_regX tyOk ?_ | refine S_nil ?_ | refine T_skip ?_ | refine T_ret ?_ | refine T_block ?_ | (apply E_tmp; (· exact rfl); (· (repeat' (first | exact pure_int _ _ | exact pure_bool _ | exact pure_str _); done))) | (apply T_ifT; (· exact rfl); (· (first | assumption | exact rfl))) | apply S_move | apply S_assign | (apply S_loadP; (· exact rfl); (· exact gt_any rfl); (· exact rfl); (· exact rfl); (· exact rfl); (· (first | exact ⟨rfl, rfl⟩ | exact ⟨rfl, trivial⟩ | assumption))) | (apply S_loadV; (· exact rfl); (· exact gt_any rfl); (· exact rfl); (· (first | exact ⟨rfl, rfl⟩ | exact ⟨rfl, trivial⟩ | assumption))) | (apply S_fieldP; (· exact rfl); (· exact rfl); (· exact rfl); (· exact rfl); (· exact gt_any rfl)) | apply S_lss | (apply S_neq; (· exact gt_any rfl); (· exact gt_any rfl)) | (apply S_len_ls; (· exact rfl); (· exact gt_any rfl)) | (apply S_idxLs; (· exact rfl); (· exact rfl); (· exact gt_any rfl); (· exact gt_any rfl)) | exact gt_any rfl | assumption | (refine ⟨?_, ?_⟩ <;> omega) | exact rfl | fail)
    · have d2 : decide ((k : Int) < 19) = false := decide_eq_false (by omega)
      obtain rfl : k = 19 := by omega
      have c3 := specCheckProof_cv root (endsL x.parts ds 19) x.prf hr (by omega) h2
      have hn : x.parts.drop 19 = [] := List.drop_of_length_le (by omega)
      have hI' : rows32 x.parts = true := by rw [hI, hn]; unfold rows32; rfl
      rw [hI', Bool.true_and]
      repeat' (first | refine T_seq ?_ | refine N_then ?_ | refine N_thenE ?_ | refine N_blockE ?_ | refine N_againSE ?_ | refine T_regX tyOk ?_ | refine S_nil ?_ | refine T_ret ?_ | refine T_exit ?_ | (apply E_tmp; (· exact rfl); (· (repeat' (first | exact pure_int _ _ | exact pure_bool _ | exact pure_str _); done))) | (apply T_ifF; (· exact rfl); (· (first | assumption | exact rfl))) | apply S_move | apply S_assign | (apply M_loadA; (· exact rfl); (· exact rfl); (· exact gt_any rfl); (· exact rfl); (· exact rfl); (· (repeat' constructor))) | (apply S_fieldP; (· exact rfl); (· exact rfl); (· exact rfl); (· exact rfl); (· exact gt_any rfl)) | apply S_lss | apply S_callQ (f := 44) | apply c3 | exact viewL_nil | apply viewL_cons | (apply View.pure; exact PureC.out) | (apply view_slM; (· exact rfl); (· (apply mlen; first | exact rfl | assumption | exact Nat.le_of_ble_eq_true rfl | omega | (simp [bA_length]; done) | (simp [bA_length]; omega))); (· exact PureEC.out)) | exact FlatC.out | exact gt_any rfl | exact gts_nil | (apply gts_cons; (· exact gt_any rfl)) | exact rfl | fail)

end Go.Proofs.Ytoempiaimebncaa
