/- Proofs checked. -/
import Derived.Test.YtaolmfgpebncjaaGreatZb
set_option maxRecDepth 100000
set_option maxHeartbeats 3200000
set_option linter.unusedSimpArgs false
set_option linter.unusedVariables false
namespace Go.Proofs.YtaolmfgpebncjaaGreat
open Go.Av
attribute [local irreducible] T thenQ blockQ againQ againS WX retV retR Gt Gts GtsP okCells CV CR Av.Pure
attribute [local irreducible] sha

def prfOk (x : Prf) : Bool := plOk x.count x.place && (decide (x.path.length = (sidesL x.count.toNat x.place.toNat).length) && rows32 x.path)

theorem plC_zero (c p : Int) : decide (plC c p = 0) = plOk c p := by
  unfold plC
  cases plOk c p <;> rfl

theorem isProof_cv (x : Prf) (hl : x.path.length ≤ 1000000000) : CV Tryz.prog 179 [prfA x] (· = .bool (prfOk x)) := by
  refine CV_intro tyOk Tryz.func179 (by kernel_rfl) rfl 25 rfl (by simp) [.tmp 2] rfl ?_
  intro w0 ok0
  have hml : (x.path.map byA).length = x.path.length := by simp
  have c0 := pathLength_cv x.count x.place
  have c1 := areDigests_cv x.path hl
  unfold prfOk
  cases hok : plOk x.count x.place with
  | false =>
    have e0 := plC_zero x.count x.place
    rw [hok] at e0
    repeat' (first | refine T_seq ?_ | refine N_then ?_ | refine T_regX tyOk ?_ | refine S_nil ?_ | refine T_ret ?_ | (apply E_tmp; (· exact rfl); (· (repeat' (first | exact pure_int _ _ | exact pure_bool _ | exact pure_str _); done))) | (apply S_gtF'; (· exact rfl); (· exact rfl); (· exact rfl); (· (first | assumption | exact rfl))) | apply S_move | apply S_assign | (apply S_pickF; (· exact gt_any rfl); (· (first | assumption | exact rfl))) | (apply S_loadP; (· exact rfl); (· exact gt_any rfl); (· exact rfl); (· exact rfl); (· exact rfl); (· (first | exact ⟨rfl, rfl⟩ | exact ⟨rfl, trivial⟩ | assumption))) | (apply S_fieldP; (· exact rfl); (· exact rfl); (· exact rfl); (· exact rfl); (· exact gt_any rfl)) | (apply S_eql; (· exact gt_any rfl); (· exact gt_any rfl)) | apply S_alloc | apply S_box | (apply S_store1; (· exact rfl); (· exact gt_any rfl); (· exact rfl); (· exact rfl); (· exact rfl); (· exact rfl)) | apply S_callQ (f := 196) | apply c0 | exact viewL_nil | apply viewL_cons | (apply View.pure; exact PureC.out) | exact FlatC.out | exact gt_any rfl | exact gts_nil | (apply gts_cons; (· exact gt_any rfl)) | exact okCells_of rfl rfl | exact rfl | fail)
  | true =>
    have e0 := plC_zero x.count x.place
    rw [hok] at e0
    have e1 : plV x.count x.place = ((sidesL x.count.toNat x.place.toNat).length : Int) := if_pos hok
    rw [e1] at c0
    by_cases h : x.path.length = (sidesL x.count.toNat x.place.toNat).length
    · have d1 : decide (((sidesL x.count.toNat x.place.toNat).length : Int) = ((x.path.map byA).length : Int)) = true := decide_eq_true (by omega)
      rw [decide_eq_true h]
      repeat' (first | refine T_seq ?_ | refine N_then ?_ | refine T_regX tyOk ?_ | refine S_nil ?_ | refine T_ret ?_ | (apply E_tmp; (· exact rfl); (· (repeat' (first | exact pure_int _ _ | exact pure_bool _ | exact pure_str _); done))) | (apply S_gt; (· exact rfl); (· exact rfl); (· (first | assumption | exact rfl))) | apply S_move | apply S_assign | (apply S_pickT; (· exact gt_any rfl); (· (first | assumption | exact rfl))) | (apply S_loadP; (· exact rfl); (· exact gt_any rfl); (· exact rfl); (· exact rfl); (· exact rfl); (· (first | exact ⟨rfl, rfl⟩ | exact ⟨rfl, trivial⟩ | assumption))) | (apply S_fieldP; (· exact rfl); (· exact rfl); (· exact rfl); (· exact rfl); (· exact gt_any rfl)) | (apply S_eql; (· exact gt_any rfl); (· exact gt_any rfl)) | (apply S_len_ls; (· exact rfl); (· exact gt_any rfl)) | apply S_alloc | apply S_box | (apply S_store1; (· exact rfl); (· exact gt_any rfl); (· exact rfl); (· exact rfl); (· exact rfl); (· exact rfl)) | apply S_callQ (f := 196) | apply c0 | apply S_callQ (f := 149) | apply c1 | exact viewL_nil | apply viewL_cons | (apply View.pure; exact PureC.out) | exact FlatC.out | exact gt_any rfl | exact gts_nil | (apply gts_cons; (· exact gt_any rfl)) | exact okCells_of rfl rfl | exact rfl | fail)
    · have d1 : decide (((sidesL x.count.toNat x.place.toNat).length : Int) = ((x.path.map byA).length : Int)) = false := decide_eq_false (by omega)
      rw [decide_eq_false h]
      repeat' (first | refine T_seq ?_ | refine N_then ?_ | refine T_regX tyOk ?_ | refine S_nil ?_ | refine T_ret ?_ | (apply E_tmp; (· exact rfl); (· (repeat' (first | exact pure_int _ _ | exact pure_bool _ | exact pure_str _); done))) | (apply S_gt; (· exact rfl); (· exact rfl); (· (first | assumption | exact rfl))) | (apply S_gtF'; (· exact rfl); (· exact rfl); (· exact rfl); (· (first | assumption | exact rfl))) | apply S_move | apply S_assign | (apply S_pickT; (· exact gt_any rfl); (· (first | assumption | exact rfl))) | (apply S_pickF; (· exact gt_any rfl); (· (first | assumption | exact rfl))) | (apply S_loadP; (· exact rfl); (· exact gt_any rfl); (· exact rfl); (· exact rfl); (· exact rfl); (· (first | exact ⟨rfl, rfl⟩ | exact ⟨rfl, trivial⟩ | assumption))) | (apply S_fieldP; (· exact rfl); (· exact rfl); (· exact rfl); (· exact rfl); (· exact gt_any rfl)) | (apply S_eql; (· exact gt_any rfl); (· exact gt_any rfl)) | (apply S_len_ls; (· exact rfl); (· exact gt_any rfl)) | apply S_alloc | apply S_box | (apply S_store1; (· exact rfl); (· exact gt_any rfl); (· exact rfl); (· exact rfl); (· exact rfl); (· exact rfl)) | apply S_callQ (f := 196) | apply c0 | exact viewL_nil | apply viewL_cons | (apply View.pure; exact PureC.out) | exact FlatC.out | exact gt_any rfl | exact gts_nil | (apply gts_cons; (· exact gt_any rfl)) | exact okCells_of rfl rfl | exact rfl | fail)

theorem rows32_step (ws : List (List UInt8)) {k : Nat} (h : k < ws.length) : rows32 (ws.drop k) = (decide ((ws.getD k []).length = 32) && rows32 (ws.drop (k + 1))) := by
  rw [List.drop_eq_getElem_cons h]
  simp only [rows32, List.all_cons, List.getD_eq_getElem?_getD, List.getElem?_eq_getElem h, Option.getD_some]

theorem l3Right_cv (x : Prf) (hl : x.path.length ≤ 1000000000) : CV Tryz.prog 177 [prfA x] (· = .bool (prfOk x)) := by
  refine CV_intro tyOk Tryz.func177 (by kernel_rfl) rfl 35 rfl (by simp) [.tmp 2] rfl ?_
  intro w0 ok0
  have hml : (x.path.map byA).length = x.path.length := by simp
  have c0 := specPathLength_cv x.count x.place
  unfold prfOk
  cases hok : plOk x.count x.place with
  | false =>
    have e0 : (!decide (plC x.count x.place = 0)) = true := by rw [plC_zero, hok]; rfl
    repeat' (first | refine T_seq ?_ | refine N_then ?_ | refine N_thenR ?_ | refine T_regX tyOk ?_ | refine S_nil ?_ | refine T_ret ?_ | (apply E_tmp; (· exact rfl); (· (repeat' (first | exact pure_int _ _ | exact pure_bool _ | exact pure_str _); done))) | (apply T_ifT; (· exact rfl); (· (first | assumption | exact rfl))) | (apply S_gfT'; (· exact rfl); (· exact rfl); (· exact rfl); (· (first | assumption | exact rfl))) | apply S_move | apply S_assign | (apply S_pickT; (· exact gt_any rfl); (· (first | assumption | exact rfl))) | (apply S_loadP; (· exact rfl); (· exact gt_any rfl); (· exact rfl); (· exact rfl); (· exact rfl); (· (first | exact ⟨rfl, rfl⟩ | exact ⟨rfl, trivial⟩ | assumption))) | (apply S_fieldP; (· exact rfl); (· exact rfl); (· exact rfl); (· exact rfl); (· exact gt_any rfl)) | (apply S_neq; (· exact gt_any rfl); (· exact gt_any rfl)) | apply S_alloc | apply S_box | (apply S_store1; (· exact rfl); (· exact gt_any rfl); (· exact rfl); (· exact rfl); (· exact rfl); (· exact rfl)) | apply S_callQ (f := 195) | apply c0 | exact viewL_nil | apply viewL_cons | (apply View.pure; exact PureC.out) | exact FlatC.out | exact gt_any rfl | exact gts_nil | (apply gts_cons; (· exact gt_any rfl)) | exact okCells_of rfl rfl | exact rfl | fail)
  | true =>
    have e0 : (!decide (plC x.count x.place = 0)) = false := by rw [plC_zero, hok]; rfl
    have e1 : plV x.count x.place = ((sidesL x.count.toNat x.place.toNat).length : Int) := if_pos hok
    rw [e1] at c0
    by_cases h : x.path.length = (sidesL x.count.toNat x.place.toNat).length
    · have d1 : (!decide (((x.path.map byA).length : Int) = ((sidesL x.count.toNat x.place.toNat).length : Int))) = false := by rw [decide_eq_true (by omega)]; rfl
      rw [decide_eq_true h]
      repeat' (first | refine T_seq ?_ | refine N_then ?_ | refine T_regX tyOk ?_ | refine S_nil ?_ | refine T_skip ?_ | refine T_block ?_ | (apply T_ifF; (· exact rfl); (· (first | assumption | exact rfl))) | (apply S_gf; (· exact rfl); (· exact rfl); (· (first | assumption | exact rfl))) | apply S_move | apply S_assign | (apply S_pickF; (· exact gt_any rfl); (· (first | assumption | exact rfl))) | (apply S_loadP; (· exact rfl); (· exact gt_any rfl); (· exact rfl); (· exact rfl); (· exact rfl); (· (first | exact ⟨rfl, rfl⟩ | exact ⟨rfl, trivial⟩ | assumption))) | (apply S_fieldP; (· exact rfl); (· exact rfl); (· exact rfl); (· exact rfl); (· exact gt_any rfl)) | (apply S_neq; (· exact gt_any rfl); (· exact gt_any rfl)) | (apply S_len_ls; (· exact rfl); (· exact gt_any rfl)) | apply S_alloc | apply S_box | (apply S_store1; (· exact rfl); (· exact gt_any rfl); (· exact rfl); (· exact rfl); (· exact rfl); (· exact rfl)) | apply S_callQ (f := 195) | apply c0 | exact viewL_nil | apply viewL_cons | (apply View.pure; exact PureC.out) | exact FlatC.out | exact gt_any rfl | exact gts_nil | (apply gts_cons; (· exact gt_any rfl)) | exact okCells_of rfl rfl | exact rfl | fail)
      refine T_roundsS (α := Nat) (fun k => ⟨[(1, .ptr 0 0 0), (4, .int .i64 k)], [(0, some ⟨[prfA x], 3, false, false⟩)], 2⟩)
        (fun k => x.path.length - k) (fun k => k ≤ x.path.length ∧ rows32 x.path = rows32 (x.path.drop k)) 0 ((weak_of (by repeat' (first | exact keepE_nil | refine keepE_cons rfl ?_)) (by repeat' (first | exact keepB_nil | refine keepB_cons (by first | rfl | exact congrArg (fun l => some (Box.mk l _ _ _)) hset) ?_)) (Nat.le_refl _))).sub ⟨by omega, rfl⟩ ?_
      rintro k ⟨hk, hI⟩
      by_cases hkl : k < x.path.length
      · have d2 : decide ((k : Int) < ((x.path.map byA).length : Int)) = true := decide_eq_true (by omega)
        have hget := map_getD byA x.path [] (k := k) (by omega)
        have hst := rows32_step x.path hkl
        have hgl := bA_length (x.path.getD k [])
        have hw : IntKind.wrap .i64 ((k : Int) + 1) = ((k + 1 : Nat) : Int) := by rw [wrap_i64 (by omega) (by omega)]; omega
        by_cases h32 : (x.path.getD k []).length = 32
        · have d3 : (!decide (((bA (x.path.getD k [])).length : Int) = 32)) = false := by rw [decide_eq_true (by omega)]; rfl
          rw [decide_eq_true h32, Bool.true_and] at hst
          repeat' (first | refine T_seq ?_ | refine N_then ?_ | refine N_block ?_ | refine T_regX tyOk ?_ | refine S_nil ?_ | refine T_skip ?_ | refine T_block ?_ | (apply T_ifT; (· exact rfl); (· (first | assumption | exact rfl))) | (apply T_ifF; (· exact rfl); (· (first | assumption | exact rfl))) | apply S_move | apply S_assign | (apply S_loadP; (· exact rfl); (· exact gt_any rfl); (· exact rfl); (· exact rfl); (· exact rfl); (· (first | exact ⟨rfl, rfl⟩ | exact ⟨rfl, trivial⟩ | assumption))) | (apply S_loadV; (· exact rfl); (· exact gt_any rfl); (· exact rfl); (· (first | exact ⟨rfl, rfl⟩ | exact ⟨rfl, trivial⟩ | assumption))) | (apply S_fieldP; (· exact rfl); (· exact rfl); (· exact rfl); (· exact rfl); (· exact gt_any rfl)) | apply S_lss | (apply S_neq; (· exact gt_any rfl); (· exact gt_any rfl)) | apply S_add | (apply S_len_ls; (· exact rfl); (· exact gt_any rfl)) | (apply S_idxLs; (· exact rfl); (· exact rfl); (· exact gt_any rfl); (· exact gt_any rfl)) | exact gt_any rfl | assumption | (refine ⟨?_, ?_⟩ <;> omega) | exact rfl | fail)
          exact N_againS (k + 1) ((weak_of (by repeat' (first | exact keepE_nil | refine keepE_cons rfl ?_)) (by repeat' (first | exact keepB_nil | refine keepB_cons (by first | rfl | exact congrArg (fun l => some (Box.mk l _ _ _)) hset) ?_)) (Nat.le_refl _))).sub ⟨by omega, hI.trans hst⟩ (by omega)
        · have d3 : (!decide (((bA (x.path.getD k [])).length : Int) = 32)) = true := by rw [decide_eq_false (by omega)]; rfl
          rw [decide_eq_false h32, Bool.false_and] at hst
          rw [hI, hst]
          repeat' (first | refine T_seq ?_ | refine N_then ?_ | refine N_thenR ?_ | refine N_blockR ?_ | refine N_againSR ?_ | refine T_regX tyOk ?_ | refine S_nil ?_ | refine T_skip ?_ | refine T_ret ?_ | refine T_block ?_ | (apply E_tmp; (· exact rfl); (· (repeat' (first | exact pure_int _ _ | exact pure_bool _ | exact pure_str _); done))) | (apply T_ifT; (· exact rfl); (· (first | assumption | exact rfl))) | apply S_move | apply S_assign | (apply S_loadP; (· exact rfl); (· exact gt_any rfl); (· exact rfl); (· exact rfl); (· exact rfl); (· (first | exact ⟨rfl, rfl⟩ | exact ⟨rfl, trivial⟩ | assumption))) | (apply S_loadV; (· exact rfl); (· exact gt_any rfl); (· exact rfl); (· (first | exact ⟨rfl, rfl⟩ | exact ⟨rfl, trivial⟩ | assumption))) | (apply S_fieldP; (· exact rfl); (· exact rfl); (· exact rfl); (· exact rfl); (· exact gt_any rfl)) | apply S_lss | (apply S_neq; (· exact gt_any rfl); (· exact gt_any rfl)) | (apply S_len_ls; (· exact rfl); (· exact gt_any rfl)) | (apply S_idxLs; (· exact rfl); (· exact rfl); (· exact gt_any rfl); (· exact gt_any rfl)) | exact gt_any rfl | assumption | (refine ⟨?_, ?_⟩ <;> omega) | exact rfl | fail)
      · have d2 : decide ((k : Int) < ((x.path.map byA).length : Int)) = false := decide_eq_false (by omega)
        obtain rfl : k = x.path.length := by omega
        rw [hI, List.drop_length]
        repeat' (first | refine T_seq ?_ | refine N_then ?_ | refine N_thenE ?_ | refine N_blockE ?_ | refine N_againSE ?_ | refine T_regX tyOk ?_ | refine S_nil ?_ | refine T_ret ?_ | refine T_exit ?_ | (apply E_tmp; (· exact rfl); (· (repeat' (first | exact pure_int _ _ | exact pure_bool _ | exact pure_str _); done))) | (apply T_ifF; (· exact rfl); (· (first | assumption | exact rfl))) | apply S_move | apply S_assign | (apply S_loadP; (· exact rfl); (· exact gt_any rfl); (· exact rfl); (· exact rfl); (· exact rfl); (· (first | exact ⟨rfl, rfl⟩ | exact ⟨rfl, trivial⟩ | assumption))) | (apply S_fieldP; (· exact rfl); (· exact rfl); (· exact rfl); (· exact rfl); (· exact gt_any rfl)) | apply S_lss | (apply S_len_ls; (· exact rfl); (· exact gt_any rfl)) | exact gt_any rfl | exact rfl | fail)
    · have d1 : (!decide (((x.path.map byA).length : Int) = ((sidesL x.count.toNat x.place.toNat).length : Int))) = true := by rw [decide_eq_false (by omega)]; rfl
      rw [decide_eq_false h]
      repeat' (first | refine T_seq ?_ | refine N_then ?_ | refine N_thenR ?_ | refine T_regX tyOk ?_ | refine S_nil ?_ | refine T_ret ?_ | (apply E_tmp; (· exact rfl); (· (repeat' (first | exact pure_int _ _ | exact pure_bool _ | exact pure_str _); done))) | (apply T_ifT; (· exact rfl); (· (first | assumption | exact rfl))) | (apply S_gf; (· exact rfl); (· exact rfl); (· (first | assumption | exact rfl))) | apply S_move | apply S_assign | (apply S_pickF; (· exact gt_any rfl); (· (first | assumption | exact rfl))) | (apply S_loadP; (· exact rfl); (· exact gt_any rfl); (· exact rfl); (· exact rfl); (· exact rfl); (· (first | exact ⟨rfl, rfl⟩ | exact ⟨rfl, trivial⟩ | assumption))) | (apply S_fieldP; (· exact rfl); (· exact rfl); (· exact rfl); (· exact rfl); (· exact gt_any rfl)) | (apply S_neq; (· exact gt_any rfl); (· exact gt_any rfl)) | (apply S_len_ls; (· exact rfl); (· exact gt_any rfl)) | apply S_alloc | apply S_box | (apply S_store1; (· exact rfl); (· exact gt_any rfl); (· exact rfl); (· exact rfl); (· exact rfl); (· exact rfl)) | apply S_callQ (f := 195) | apply c0 | exact viewL_nil | apply viewL_cons | (apply View.pure; exact PureC.out) | exact FlatC.out | exact gt_any rfl | exact gts_nil | (apply gts_cons; (· exact gt_any rfl)) | exact okCells_of rfl rfl | exact rfl | fail)

def upSt (ss : List Bool) (ps : List (List UInt8)) (o : List UInt8) : Nat → List UInt8
  | 0 => o
  | k + 1 => if ss.getD k false then nodeD (ps.getD k []) (upSt ss ps o k) else nodeD (upSt ss ps o k) (ps.getD k [])
theorem upSt_length (ss : List Bool) (ps : List (List UInt8)) (o : List UInt8) (h : o.length = 32) : ∀ k, (upSt ss ps o k).length = 32
  | 0 => h
  | k + 1 => by
    rw [upSt]
    split <;> exact nodeD_length _ _
def checkL (root data : List UInt8) (x : Prf) : Bool := prfOk x && decide (upSt (sidesL x.count.toNat x.place.toNat) x.path (leafD data) x.path.length = root)

theorem prf_path {x : Prf} (h : prfOk x = true) : (1 ≤ x.count ∧ x.count ≤ 16) ∧ (0 ≤ x.place ∧ x.place ≤ x.count - 1) ∧ x.path.length = (sidesL x.count.toNat x.place.toNat).length ∧ rows32 x.path = true := by
  unfold prfOk plOk at h
  simpa [and_assoc] using h
theorem rows32_mem {ws : List (List UInt8)} (h : rows32 ws = true) {k : Nat} (hk : k < ws.length) : (ws.getD k []).length = 32 := by
  unfold rows32 at h
  rw [List.all_eq_true] at h
  simpa using h _ (getD_mem ws [] hk)

theorem checkProof_cv (root data : List UInt8) (x : Prf) (hd : data.length ≤ 100000000) (hl : x.path.length ≤ 1000000000) : CV Tryz.prog 145 [byA root, byA data, prfA x] (· = .bool (checkL root data x)) := by
  refine CV_intro tyOk Tryz.func145 (by kernel_rfl) rfl 45 rfl (by simp) [.tmp 6] rfl ?_
  intro w0 ok0
  have c0 := isProof_cv x hl
  unfold checkL
  cases hok : prfOk x with
  | false =>
    rw [hok] at c0
    have d0 : (!false) = true := rfl
    repeat' (first | refine T_seq ?_ | refine N_then ?_ | refine N_thenR ?_ | refine T_regX tyOk ?_ | refine S_nil ?_ | refine T_ret ?_ | (apply E_tmp; (· exact rfl); (· (repeat' (first | exact pure_int _ _ | exact pure_bool _ | exact pure_str _); done))) | (apply T_ifT; (· exact rfl); (· (first | assumption | exact rfl))) | apply S_assign | (apply S_loadW; (· exact rfl); (· exact gt_any rfl); (· exact rfl); (· exact rfl); (· exact rfl); (· exact rfl); (· exact rfl); (· exact rfl)) | apply S_not | apply S_box | apply S_callQ (f := 179) | apply c0 | exact viewL_nil | apply viewL_cons | (apply View.pure; exact PureC.out) | exact FlatC.out | exact gt_any rfl | exact gts_nil | (apply gts_cons; (· exact gt_any rfl)) | exact okCells_of rfl rfl | assumption | exact rfl | fail)
  | true =>
    rw [hok] at c0
    have d0 : (!true) = false := rfl
    obtain ⟨h1, h2, h3, h4⟩ := prf_path hok
    have hcE : ((x.count.toNat : Nat) : Int) = x.count := by omega
    have hpE : ((x.place.toNat : Nat) : Int) = x.place := by omega
    have c1 := leafDigest_cv data hd
    have c2 := sides_cv x.count.toNat x.place.toNat (by omega) (by omega) (by omega)
    rw [hcE, hpE] at c2
    have hll := leafD_length data
    have hsl := sidesL_length x.count.toNat x.place.toNat
    generalize hss : sidesL x.count.toNat x.place.toNat = ss at *
    generalize leafD data = o at *
    have hsm : (ss.map boA).length = ss.length := by simp
    have hml : (x.path.map byA).length = x.path.length := by simp
    repeat' (first | refine T_seq ?_ | refine N_then ?_ | refine T_regX tyOk ?_ | refine S_nil ?_ | refine T_skip ?_ | refine T_block ?_ | (apply T_ifF; (· exact rfl); (· (first | assumption | exact rfl))) | apply S_move | apply S_assign | (apply S_loadP; (· exact rfl); (· exact gt_any rfl); (· exact rfl); (· exact rfl); (· exact rfl); (· (first | exact ⟨rfl, rfl⟩ | exact ⟨rfl, trivial⟩ | assumption))) | (apply S_loadW; (· exact rfl); (· exact gt_any rfl); (· exact rfl); (· exact rfl); (· exact rfl); (· exact rfl); (· exact rfl); (· exact rfl)) | (apply S_fieldP; (· exact rfl); (· exact rfl); (· exact rfl); (· exact rfl); (· exact gt_any rfl)) | apply S_not | (apply S_len_ls; (· exact rfl); (· exact gt_any rfl)) | apply S_box | apply S_callQ (f := 179) | apply c0 | apply S_call (f := 133) | apply c1 | apply S_call (f := 180) | apply c2 | exact viewL_nil | apply viewL_cons | (apply View.pure; exact PureC.out) | exact FlatC.out | exact PureLC.out | exact gt_any rfl | exact gts_nil | (apply gts_cons; (· exact gt_any rfl)) | exact okCells_of rfl rfl | exact rfl | fail)
    refine T_roundsS (α := Nat) (fun k => ⟨[(0, byA root), (5, .ptr 0 0 0), (7, byA (upSt ss x.path o k)), (19, boolsA ss), (20, .int .i64 (ss.map boA).length), (21, .int .i64 k)], [(0, some ⟨[prfA x], 3, false, false⟩)], 1⟩)
      (fun k => ss.length - k) (fun k => k ≤ ss.length) 0 ((weak_of (by repeat' (first | exact keepE_nil | refine keepE_cons rfl ?_)) (by repeat' (first | exact keepB_nil | refine keepB_cons (by first | rfl | exact congrArg (fun l => some (Box.mk l _ _ _)) hset) ?_)) (Nat.le_refl _))).sub (by omega) ?_
    intro k hk
    have hul := upSt_length ss x.path o hll k
    by_cases hkl : k < ss.length
    · have d2 : decide ((k : Int) < ((ss.map boA).length : Int)) = true := decide_eq_true (by omega)
      have hget := map_getD boA ss false (k := k) (by omega)
      have hget2 := map_getD byA x.path [] (k := k) (by omega)
      have hpl := rows32_mem h4 (k := k) (by omega)
      have hw : IntKind.wrap .i64 ((k : Int) + 1) = ((k + 1 : Nat) : Int) := by rw [wrap_i64 (by omega) (by omega)]; omega
      have hn : upSt ss x.path o (k + 1) = if ss.getD k false then nodeD (x.path.getD k []) (upSt ss x.path o k) else nodeD (upSt ss x.path o k) (x.path.getD k []) := rfl
      generalize x.path.getD k [] = q at *
      generalize upSt ss x.path o k = u at *
      cases hb : ss.getD k false with
      | true =>
        rw [hb] at hget hn
        rw [if_pos rfl] at hn
        have c3 := nodeDigest_cv q u (by omega) (by omega)
        rw [← hn] at c3
        repeat' (first | refine T_seq ?_ | refine N_then ?_ | refine N_block ?_ | refine T_regX tyOk ?_ | refine S_nil ?_ | refine T_skip ?_ | refine T_block ?_ | (apply T_ifT; (· exact rfl); (· (first | assumption | exact rfl))) | apply S_move | apply S_assign | (apply S_loadP; (· exact rfl); (· exact gt_any rfl); (· exact rfl); (· exact rfl); (· exact rfl); (· (first | exact ⟨rfl, rfl⟩ | exact ⟨rfl, trivial⟩ | assumption))) | (apply S_loadV; (· exact rfl); (· exact gt_any rfl); (· exact rfl); (· (first | exact ⟨rfl, rfl⟩ | exact ⟨rfl, trivial⟩ | assumption))) | (apply S_fieldP; (· exact rfl); (· exact rfl); (· exact rfl); (· exact rfl); (· exact gt_any rfl)) | apply S_lss | apply S_add | (apply S_idxLs; (· exact rfl); (· exact rfl); (· exact gt_any rfl); (· exact gt_any rfl)) | apply S_call (f := 135) | apply c3 | exact PureLC.out | exact gt_any rfl | exact gts_nil | (apply gts_cons; (· exact gt_any rfl)) | assumption | (refine ⟨?_, ?_⟩ <;> omega) | exact rfl | fail)
        exact N_againS (k + 1) ((weak_of (by repeat' (first | exact keepE_nil | refine keepE_cons rfl ?_)) (by repeat' (first | exact keepB_nil | refine keepB_cons (by first | rfl | exact congrArg (fun l => some (Box.mk l _ _ _)) hset) ?_)) (Nat.le_refl _))).sub (by omega) (by omega)
      | false =>
        rw [hb] at hget hn
        rw [if_neg (by decide)] at hn
        have c3 := nodeDigest_cv u q (by omega) (by omega)
        rw [← hn] at c3
        repeat' (first | refine T_seq ?_ | refine N_then ?_ | refine N_block ?_ | refine T_regX tyOk ?_ | refine S_nil ?_ | refine T_skip ?_ | refine T_block ?_ | (apply T_ifT; (· exact rfl); (· (first | assumption | exact rfl))) | (apply T_ifF; (· exact rfl); (· (first | assumption | exact rfl))) | apply S_move | apply S_assign | (apply S_loadP; (· exact rfl); (· exact gt_any rfl); (· exact rfl); (· exact rfl); (· exact rfl); (· (first | exact ⟨rfl, rfl⟩ | exact ⟨rfl, trivial⟩ | assumption))) | (apply S_loadV; (· exact rfl); (· exact gt_any rfl); (· exact rfl); (· (first | exact ⟨rfl, rfl⟩ | exact ⟨rfl, trivial⟩ | assumption))) | (apply S_fieldP; (· exact rfl); (· exact rfl); (· exact rfl); (· exact rfl); (· exact gt_any rfl)) | apply S_lss | apply S_add | (apply S_idxLs; (· exact rfl); (· exact rfl); (· exact gt_any rfl); (· exact gt_any rfl)) | apply S_call (f := 135) | apply c3 | exact PureLC.out | exact gt_any rfl | exact gts_nil | (apply gts_cons; (· exact gt_any rfl)) | assumption | (refine ⟨?_, ?_⟩ <;> omega) | exact rfl | fail)
        exact N_againS (k + 1) ((weak_of (by repeat' (first | exact keepE_nil | refine keepE_cons rfl ?_)) (by repeat' (first | exact keepB_nil | refine keepB_cons (by first | rfl | exact congrArg (fun l => some (Box.mk l _ _ _)) hset) ?_)) (Nat.le_refl _))).sub (by omega) (by omega)
    · have d2 : decide ((k : Int) < ((ss.map boA).length : Int)) = false := decide_eq_false (by omega)
      obtain rfl : k = ss.length := by omega
      rw [h3]
      have c3 := equal_cv (upSt ss x.path o ss.length) root
      repeat' (first | refine T_seq ?_ | refine N_then ?_ | refine N_thenE ?_ | refine N_blockE ?_ | refine N_againSE ?_ | refine T_regX tyOk ?_ | refine S_nil ?_ | refine T_ret ?_ | refine T_exit ?_ | (apply E_tmp; (· exact rfl); (· (repeat' (first | exact pure_int _ _ | exact pure_bool _ | exact pure_str _); done))) | (apply T_ifF; (· exact rfl); (· (first | assumption | exact rfl))) | apply S_move | apply S_assign | apply S_lss | apply S_callQ (f := 91) | apply c3 | exact viewL_nil | apply viewL_cons | (apply View.pure; exact PureC.out) | exact FlatC.out | exact gt_any rfl | exact gts_nil | (apply gts_cons; (· exact gt_any rfl)) | exact rfl | fail)

theorem specCheckProof_cv (root data : List UInt8) (x : Prf) (hr : root.length ≤ 1000000000) (hd : data.length ≤ 100000000) (hl : x.path.length ≤ 1000000000) : CV Tryz.prog 144 [byA root, byA data, prfA x] (· = .bool (checkL root data x)) := by
  refine CV_intro tyOk Tryz.func144 (by kernel_rfl) rfl 47 rfl (by simp) [.tmp 6] rfl ?_
  intro w0 ok0
  have c0 := l3Right_cv x hl
  unfold checkL
  cases hok : prfOk x with
  | false =>
    rw [hok] at c0
    have d0 : (!false) = true := rfl
    repeat' (first | refine T_seq ?_ | refine N_then ?_ | refine N_thenR ?_ | refine T_regX tyOk ?_ | refine S_nil ?_ | refine T_ret ?_ | (apply E_tmp; (· exact rfl); (· (repeat' (first | exact pure_int _ _ | exact pure_bool _ | exact pure_str _); done))) | (apply T_ifT; (· exact rfl); (· (first | assumption | exact rfl))) | apply S_assign | (apply S_loadW; (· exact rfl); (· exact gt_any rfl); (· exact rfl); (· exact rfl); (· exact rfl); (· exact rfl); (· exact rfl); (· exact rfl)) | apply S_not | apply S_box | apply S_callQ (f := 177) | apply c0 | exact viewL_nil | apply viewL_cons | (apply View.pure; exact PureC.out) | exact FlatC.out | exact gt_any rfl | exact gts_nil | (apply gts_cons; (· exact gt_any rfl)) | exact okCells_of rfl rfl | assumption | exact rfl | fail)
  | true =>
    rw [hok] at c0
    have d0 : (!true) = false := rfl
    obtain ⟨h1, h2, h3, h4⟩ := prf_path hok
    have hcE : ((x.count.toNat : Nat) : Int) = x.count := by omega
    have hpE : ((x.place.toNat : Nat) : Int) = x.place := by omega
    have c1 := specLeaf_cv data hd
    have c2 := l3Sides_cv x.count.toNat x.place.toNat (by omega) (by omega) (by omega)
    rw [hcE, hpE] at c2
    have hll := leafD_length data
    have hsl := sidesL_length x.count.toNat x.place.toNat
    generalize hss : sidesL x.count.toNat x.place.toNat = ss at *
    generalize leafD data = o at *
    have hsm : ((ss.map not).map boA).length = ss.length := by simp
    have hml : (x.path.map byA).length = x.path.length := by simp
    repeat' (first | refine T_seq ?_ | refine N_then ?_ | refine T_regX tyOk ?_ | refine S_nil ?_ | refine T_skip ?_ | refine T_block ?_ | (apply T_ifF; (· exact rfl); (· (first | assumption | exact rfl))) | apply S_move | apply S_assign | (apply S_loadP; (· exact rfl); (· exact gt_any rfl); (· exact rfl); (· exact rfl); (· exact rfl); (· (first | exact ⟨rfl, rfl⟩ | exact ⟨rfl, trivial⟩ | assumption))) | (apply S_loadW; (· exact rfl); (· exact gt_any rfl); (· exact rfl); (· exact rfl); (· exact rfl); (· exact rfl); (· exact rfl); (· exact rfl)) | (apply S_fieldP; (· exact rfl); (· exact rfl); (· exact rfl); (· exact rfl); (· exact gt_any rfl)) | apply S_not | apply S_box | apply S_callQ (f := 177) | apply c0 | apply S_call (f := 161) | apply c1 | apply S_call (f := 178) | apply c2 | exact viewL_nil | apply viewL_cons | (apply View.pure; exact PureC.out) | exact FlatC.out | exact PureLC.out | exact gt_any rfl | exact gts_nil | (apply gts_cons; (· exact gt_any rfl)) | exact okCells_of rfl rfl | exact rfl | fail)
    refine T_roundsS (α := Nat) (fun k => ⟨[(0, byA root), (5, .ptr 0 0 0), (7, byA (upSt ss x.path o k)), (8, boolsA (ss.map not)), (9, .int .i64 k)], [(0, some ⟨[prfA x], 3, false, false⟩)], 1⟩)
      (fun k => ss.length - k) (fun k => k ≤ ss.length) 0 ((weak_of (by repeat' (first | exact keepE_nil | refine keepE_cons rfl ?_)) (by repeat' (first | exact keepB_nil | refine keepB_cons (by first | rfl | exact congrArg (fun l => some (Box.mk l _ _ _)) hset) ?_)) (Nat.le_refl _))).sub (by omega) ?_
    intro k hk
    have hul := upSt_length ss x.path o hll k
    by_cases hkl : k < ss.length
    · have d2 : decide ((k : Int) < (((ss.map not).map boA).length : Int)) = true := decide_eq_true (by omega)
      have hget := map_getD boA (ss.map not) false (k := k) (by simp; omega)
      have hgn : (ss.map not).getD k false = !(ss.getD k false) := by simp [List.getD_eq_getElem?_getD, hkl]
      have hget2 := map_getD byA x.path [] (k := k) (by omega)
      have hpl := rows32_mem h4 (k := k) (by omega)
      have hw : IntKind.wrap .i64 ((k : Int) + 1) = ((k + 1 : Nat) : Int) := by rw [wrap_i64 (by omega) (by omega)]; omega
      have hn : upSt ss x.path o (k + 1) = if ss.getD k false then nodeD (x.path.getD k []) (upSt ss x.path o k) else nodeD (upSt ss x.path o k) (x.path.getD k []) := rfl
      rw [hgn] at hget
      generalize x.path.getD k [] = q at *
      generalize upSt ss x.path o k = u at *
      cases hb : ss.getD k false with
      | true =>
        rw [hb] at hget hn
        rw [if_pos rfl] at hn
        have c3 := specNode_cv q u (by omega) (by omega)
        rw [← hn] at c3
        repeat' (first | refine T_seq ?_ | refine N_then ?_ | refine N_block ?_ | refine T_regX tyOk ?_ | refine S_nil ?_ | refine T_skip ?_ | refine T_block ?_ | (apply T_ifT; (· exact rfl); (· (first | assumption | exact rfl))) | (apply T_ifF; (· exact rfl); (· (first | assumption | exact rfl))) | apply S_move | apply S_assign | (apply S_loadP; (· exact rfl); (· exact gt_any rfl); (· exact rfl); (· exact rfl); (· exact rfl); (· (first | exact ⟨rfl, rfl⟩ | exact ⟨rfl, trivial⟩ | assumption))) | (apply S_loadV; (· exact rfl); (· exact gt_any rfl); (· exact rfl); (· (first | exact ⟨rfl, rfl⟩ | exact ⟨rfl, trivial⟩ | assumption))) | (apply S_fieldP; (· exact rfl); (· exact rfl); (· exact rfl); (· exact rfl); (· exact gt_any rfl)) | apply S_lss | apply S_add | (apply S_len_ls; (· exact rfl); (· exact gt_any rfl)) | (apply S_idxLs; (· exact rfl); (· exact rfl); (· exact gt_any rfl); (· exact gt_any rfl)) | apply S_call (f := 163) | apply c3 | exact PureLC.out | exact gt_any rfl | exact gts_nil | (apply gts_cons; (· exact gt_any rfl)) | assumption | (refine ⟨?_, ?_⟩ <;> omega) | exact rfl | fail)
        exact N_againS (k + 1) ((weak_of (by repeat' (first | exact keepE_nil | refine keepE_cons rfl ?_)) (by repeat' (first | exact keepB_nil | refine keepB_cons (by first | rfl | exact congrArg (fun l => some (Box.mk l _ _ _)) hset) ?_)) (Nat.le_refl _))).sub (by omega) (by omega)
      | false =>
        rw [hb] at hget hn
        rw [if_neg (by decide)] at hn
        have c3 := specNode_cv u q (by omega) (by omega)
        rw [← hn] at c3
        repeat' (first | refine T_seq ?_ | refine N_then ?_ | refine N_block ?_ | refine T_regX tyOk ?_ | refine S_nil ?_ | refine T_skip ?_ | refine T_block ?_ | (apply T_ifT; (· exact rfl); (· (first | assumption | exact rfl))) | apply S_move | apply S_assign | (apply S_loadP; (· exact rfl); (· exact gt_any rfl); (· exact rfl); (· exact rfl); (· exact rfl); (· (first | exact ⟨rfl, rfl⟩ | exact ⟨rfl, trivial⟩ | assumption))) | (apply S_loadV; (· exact rfl); (· exact gt_any rfl); (· exact rfl); (· (first | exact ⟨rfl, rfl⟩ | exact ⟨rfl, trivial⟩ | assumption))) | (apply S_fieldP; (· exact rfl); (· exact rfl); (· exact rfl); (· exact rfl); (· exact gt_any rfl)) | apply S_lss | apply S_add | (apply S_len_ls; (· exact rfl); (· exact gt_any rfl)) | (apply S_idxLs; (· exact rfl); (· exact rfl); (· exact gt_any rfl); (· exact gt_any rfl)) | apply S_call (f := 163) | apply c3 | exact PureLC.out | exact gt_any rfl | exact gts_nil | (apply gts_cons; (· exact gt_any rfl)) | assumption | (refine ⟨?_, ?_⟩ <;> omega) | exact rfl | fail)
        exact N_againS (k + 1) ((weak_of (by repeat' (first | exact keepE_nil | refine keepE_cons rfl ?_)) (by repeat' (first | exact keepB_nil | refine keepB_cons (by first | rfl | exact congrArg (fun l => some (Box.mk l _ _ _)) hset) ?_)) (Nat.le_refl _))).sub (by omega) (by omega)
    · have d2 : decide ((k : Int) < (((ss.map not).map boA).length : Int)) = false := decide_eq_false (by omega)
      obtain rfl : k = ss.length := by omega
      rw [h3]
      have c3 := same_cv (upSt ss x.path o ss.length) root (by omega) (by omega)
      repeat' (first | refine T_seq ?_ | refine N_then ?_ | refine N_thenE ?_ | refine N_blockE ?_ | refine N_againSE ?_ | refine T_regX tyOk ?_ | refine S_nil ?_ | refine T_ret ?_ | refine T_exit ?_ | (apply E_tmp; (· exact rfl); (· (repeat' (first | exact pure_int _ _ | exact pure_bool _ | exact pure_str _); done))) | (apply T_ifF; (· exact rfl); (· (first | assumption | exact rfl))) | apply S_move | apply S_assign | apply S_lss | (apply S_len_ls; (· exact rfl); (· exact gt_any rfl)) | apply S_callQ (f := 114) | apply c3 | exact viewL_nil | apply viewL_cons | (apply View.pure; exact PureC.out) | exact FlatC.out | exact gt_any rfl | exact gts_nil | (apply gts_cons; (· exact gt_any rfl)) | exact rfl | fail)

end Go.Proofs.YtaolmfgpebncjaaGreat
