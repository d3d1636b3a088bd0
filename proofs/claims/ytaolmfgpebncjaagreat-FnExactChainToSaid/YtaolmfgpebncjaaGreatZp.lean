/- Heads of the chain of work: their digests, and what they weigh. -/
import Derived.Test.YtaolmfgpebncjaaGreatRc
import Derived.Test.YtaolmfgpebncjaaGreatZc
import Derived.Test.YtaolmfgpebncjaaGreatZh
set_option maxRecDepth 100000
set_option maxHeartbeats 3200000
set_option linter.unusedSimpArgs false
set_option linter.unusedVariables false
namespace Go.Proofs.YtaolmfgpebncjaaGreat
open Go.Av
attribute [local irreducible] T thenQ blockQ againQ againS WX retV retR Gt Gts GtsP okCells CV CR Av.Pure
attribute [local irreducible] sha

def lz8 (c : Nat) : Nat := if 128 ≤ c then 0 else if 64 ≤ c then 1 else if 32 ≤ c then 2 else if 16 ≤ c then 3 else if 8 ≤ c then 4 else if 4 ≤ c then 5 else if 2 ≤ c then 6 else if 1 ≤ c then 7 else 8
def zerosL : List UInt8 → Nat
  | [] => 0
  | c :: l => if c.toNat = 0 then 8 + zerosL l else lz8 c.toNat
theorem lz8_le (c : Nat) : lz8 c ≤ 8 := by
  unfold lz8
  repeat' split
  all_goals omega
theorem zerosL_le : ∀ l : List UInt8, zerosL l ≤ 8 * l.length
  | [] => Nat.le_refl _
  | c :: l => by
    have h1 := zerosL_le l
    have h2 := lz8_le c.toNat
    rw [zerosL, List.length_cons]
    split <;> omega
theorem zerosL_step (l : List UInt8) {k : Nat} (h : k < l.length) : zerosL (l.drop k) = if (l.getD k 0).toNat = 0 then 8 + zerosL (l.drop (k + 1)) else lz8 (l.getD k 0).toNat := by
  rw [List.drop_eq_getElem_cons h, zerosL]
  simp only [List.getD_eq_getElem?_getD, List.getElem?_eq_getElem h, Option.getD_some]
/-! heads -/
def hdFault (x : Hd) : Int :=
  if rows32 [x.parent, x.root] = false then 1 else if ¬ ((0 ≤ x.height ∧ x.height ≤ 1000000) ∧ (0 ≤ x.time ∧ x.time ≤ 1099511627776) ∧ (0 ≤ x.zeros ∧ x.zeros ≤ 40) ∧ (0 ≤ x.nonce ∧ x.nonce ≤ 2199023255552)) then 3 else 0
theorem hd_form {x : Hd} (h : rows32 [x.parent, x.root] = false) : hdFault x = 1 := if_pos h
theorem hd_range {x : Hd} (h : rows32 [x.parent, x.root] = true) (h2 : ¬ ((0 ≤ x.height ∧ x.height ≤ 1000000) ∧ (0 ≤ x.time ∧ x.time ≤ 1099511627776) ∧ (0 ≤ x.zeros ∧ x.zeros ≤ 40) ∧ (0 ≤ x.nonce ∧ x.nonce ≤ 2199023255552))) : hdFault x = 3 := by
  unfold hdFault; rw [if_neg (by rw [h]; decide), if_pos h2]
theorem hd_ok {x : Hd} (h : rows32 [x.parent, x.root] = true) (h2 : (0 ≤ x.height ∧ x.height ≤ 1000000) ∧ (0 ≤ x.time ∧ x.time ≤ 1099511627776) ∧ (0 ≤ x.zeros ∧ x.zeros ≤ 40) ∧ (0 ≤ x.nonce ∧ x.nonce ≤ 2199023255552)) : hdFault x = 0 := by
  unfold hdFault; rw [if_neg (by rw [h]; decide), if_neg (fun k => k h2)]
theorem hd_zero {x : Hd} (h : hdFault x = 0) : (x.parent.length = 32 ∧ x.root.length = 32) ∧ (0 ≤ x.height ∧ x.height ≤ 1000000) ∧ (0 ≤ x.time ∧ x.time ≤ 1099511627776) ∧ (0 ≤ x.zeros ∧ x.zeros ≤ 40) ∧ (0 ≤ x.nonce ∧ x.nonce ≤ 2199023255552) := by
  unfold hdFault at h
  split at h
  · cases h
  · split at h
    · cases h
    · rename_i a b
      refine ⟨?_, Classical.not_not.1 b⟩
      unfold rows32 at a
      simpa using a
def hdWs (x : Hd) : List (List UInt8) := [x.parent, putN x.height, putN x.time, putN x.zeros, x.root]
def hdD (x : Hd) : List UInt8 := sha (packL (hdWs x) ++ putN x.nonce)
theorem hdD_length (x : Hd) : (hdD x).length = 32 := sha_length _
theorem packL_bound' {ws : List (List UInt8)} {b : Nat} (h : ∀ w ∈ ws, w.length ≤ b) : (packL ws).length ≤ (b + 1) * ws.length := by
  induction ws with
  | nil => simp [packL]
  | cons w ws ih =>
    have h1 := ih fun x hx => h x (by simp [hx])
    have h2 := h w (by simp)
    have h3 : packL (w :: ws) = (byteN w.length :: w) ++ packL ws := by simp [packL]
    rw [h3, List.length_append, List.length_cons, List.length_cons, Nat.mul_add]
    omega
theorem hdWs_pack {x : Hd} (h : hdFault x = 0) : (hdWs x).length = 5 ∧ (∀ w ∈ hdWs x, w.length ≤ 32) ∧ (packL (hdWs x)).length ≤ 165 := by
  obtain ⟨⟨h1, h2⟩, _⟩ := hd_zero h
  have hm : ∀ w ∈ hdWs x, w.length ≤ 32 := by
    intro w hw
    simp only [hdWs, List.mem_cons, List.not_mem_nil, or_false] at hw
    rcases hw with rfl | rfl | rfl | rfl | rfl
    · omega
    · rw [putN_length]; decide
    · rw [putN_length]; decide
    · rw [putN_length]; decide
    · omega
  have := packL_bound' hm
  have h5 : (hdWs x).length = 5 := rfl
  rw [h5] at this
  exact ⟨rfl, hm, this⟩

attribute [local irreducible] putN packL

theorem isZeros_cv (n : Int) : CV Tryz.prog 94 [.int .i64 n] (· = .bool (decide (0 ≤ n) && decide (n ≤ 40))) := by
  refine CV_intro tyOk Tryz.func94 (by kernel_rfl) rfl 5 rfl (by simp) [.tmp 2] rfl ?_
  intro w0 ok0
  repeat' (first | refine T_seq ?_ | refine N_then ?_ | refine T_regX tyOk ?_ | refine S_nil ?_ | refine T_ret ?_ | (apply E_tmp; (· exact rfl); (· (repeat' (first | exact pure_int _ _ | exact pure_bool _ | exact pure_str _); done))) | apply S_move | apply S_assign | apply S_callQ (f := 57) | apply in_cv | exact viewL_nil | apply viewL_cons | (apply View.pure; exact PureC.out) | exact FlatC.out | exact gt_any rfl | exact gts_nil | (apply gts_cons; (· exact gt_any rfl)) | exact rfl | fail)

theorem hdFault_cv (x : Hd) : CV Tryz.prog 90 [hdA x] (· = .int .i64 (hdFault x)) := by
  refine CV_intro tyOk Tryz.func90 (by kernel_rfl) rfl 34 rfl (by simp) [.tmp 2] rfl ?_
  intro w0 ok0
  have c0 := areDigests_cv [x.parent, x.root] (by simp)
  cases g1 : rows32 [x.parent, x.root] with
  | false =>
    rw [g1] at c0
    rw [hd_form g1]
    have d0 : (!false) = true := rfl
    repeat' (first | refine T_seq ?_ | refine N_then ?_ | refine N_thenR ?_ | refine N_blockR ?_ | refine T_regX tyOk ?_ | refine S_nil ?_ | refine T_ret ?_ | refine T_block ?_ | (apply E_tmp; (· exact rfl); (· (repeat' (first | exact pure_int _ _ | exact pure_bool _ | exact pure_str _); done))) | (apply T_ifT; (· exact rfl); (· (first | assumption | exact rfl))) | apply S_assign | (apply S_loadP; (· exact rfl); (· exact gt_any rfl); (· exact rfl); (· exact rfl); (· exact rfl); (· (first | exact ⟨rfl, rfl⟩ | exact ⟨rfl, trivial⟩ | assumption))) | (apply S_fieldP; (· exact rfl); (· exact rfl); (· exact rfl); (· exact rfl); (· exact gt_any rfl)) | apply S_not | apply S_box | (apply S_buildV tyOk; (· exact rfl); (· exact rfl)) | apply S_callQ (f := 149) | apply c0 | exact viewL_nil | apply viewL_cons | exact viewE_nil | apply viewE_one | exact viewE_pure PureEC.out | apply view_lsV | exact FlatC.out | exact gtsI_nil | (apply gtsI_cons; (· exact gt_any rfl)) | exact elts_nil | apply elts_cons | (intro hu; cases hu; done) | exact gt_any rfl | exact gts_nil | (apply gts_cons; (· exact gt_any rfl)) | exact okCells_of rfl rfl | assumption | exact Nat.le_of_ble_eq_true rfl | exact rfl | fail)
  | true =>
    rw [g1] at c0
    have d0 : (!true) = false := rfl
    by_cases a1 : 0 ≤ x.height ∧ x.height ≤ 1000000
    · have d1 := rng_t a1
      by_cases a2 : 0 ≤ x.time ∧ x.time ≤ 1099511627776
      · have d2 := rng_t a2
        by_cases a3 : 0 ≤ x.zeros ∧ x.zeros ≤ 40
        · have d3 := rng_t a3
          by_cases a4 : 0 ≤ x.nonce ∧ x.nonce ≤ 2199023255552
          · have d4 := rng_t a4
            rw [hd_ok g1 ⟨a1, a2, a3, a4⟩]
            repeat' (first | refine T_seq ?_ | refine N_then ?_ | refine N_block ?_ | refine T_regX tyOk ?_ | refine S_nil ?_ | refine T_skip ?_ | refine T_ret ?_ | refine T_block ?_ | (apply E_tmp; (· exact rfl); (· (repeat' (first | exact pure_int _ _ | exact pure_bool _ | exact pure_str _); done))) | (apply T_ifF; (· exact rfl); (· (first | assumption | exact rfl))) | (apply S_gf; (· exact rfl); (· exact rfl); (· (first | assumption | exact rfl))) | apply S_move | apply S_assign | (apply S_pickF; (· exact gt_any rfl); (· (first | assumption | exact rfl))) | (apply S_loadP; (· exact rfl); (· exact gt_any rfl); (· exact rfl); (· exact rfl); (· exact rfl); (· (first | exact ⟨rfl, rfl⟩ | exact ⟨rfl, trivial⟩ | assumption))) | (apply S_fieldP; (· exact rfl); (· exact rfl); (· exact rfl); (· exact rfl); (· exact gt_any rfl)) | apply S_not | apply S_box | (apply S_buildV tyOk; (· exact rfl); (· exact rfl)) | apply S_callQ (f := 149) | apply c0 | apply S_callQ (f := 57) | apply in_cv | apply S_callQ (f := 94) | apply isZeros_cv | exact viewL_nil | apply viewL_cons | exact viewE_nil | apply viewE_one | exact viewE_pure PureEC.out | apply view_lsV | (apply View.pure; exact PureC.out) | exact FlatC.out | exact gtsI_nil | (apply gtsI_cons; (· exact gt_any rfl)) | exact elts_nil | apply elts_cons | (intro hu; cases hu; done) | exact gt_any rfl | exact gts_nil | (apply gts_cons; (· exact gt_any rfl)) | exact okCells_of rfl rfl | exact Nat.le_of_ble_eq_true rfl | exact rfl | fail)
          · have d4 := rng_f a4
            rw [hd_range g1 (fun k => a4 k.2.2.2)]
            repeat' (first | refine T_seq ?_ | refine N_then ?_ | refine N_thenR ?_ | refine N_blockR ?_ | refine T_regX tyOk ?_ | refine S_nil ?_ | refine T_ret ?_ | refine T_block ?_ | (apply E_tmp; (· exact rfl); (· (repeat' (first | exact pure_int _ _ | exact pure_bool _ | exact pure_str _); done))) | (apply T_ifT; (· exact rfl); (· (first | assumption | exact rfl))) | (apply T_ifF; (· exact rfl); (· (first | assumption | exact rfl))) | (apply S_gf; (· exact rfl); (· exact rfl); (· (first | assumption | exact rfl))) | apply S_move | apply S_assign | (apply S_pickF; (· exact gt_any rfl); (· (first | assumption | exact rfl))) | (apply S_loadP; (· exact rfl); (· exact gt_any rfl); (· exact rfl); (· exact rfl); (· exact rfl); (· (first | exact ⟨rfl, rfl⟩ | exact ⟨rfl, trivial⟩ | assumption))) | (apply S_fieldP; (· exact rfl); (· exact rfl); (· exact rfl); (· exact rfl); (· exact gt_any rfl)) | apply S_not | apply S_box | (apply S_buildV tyOk; (· exact rfl); (· exact rfl)) | apply S_callQ (f := 149) | apply c0 | apply S_callQ (f := 57) | apply in_cv | apply S_callQ (f := 94) | apply isZeros_cv | exact viewL_nil | apply viewL_cons | exact viewE_nil | apply viewE_one | exact viewE_pure PureEC.out | apply view_lsV | (apply View.pure; exact PureC.out) | exact FlatC.out | exact gtsI_nil | (apply gtsI_cons; (· exact gt_any rfl)) | exact elts_nil | apply elts_cons | (intro hu; cases hu; done) | exact gt_any rfl | exact gts_nil | (apply gts_cons; (· exact gt_any rfl)) | exact okCells_of rfl rfl | exact Nat.le_of_ble_eq_true rfl | exact rfl | fail)
        · have d3 := rng_f a3
          rw [hd_range g1 (fun k => a3 k.2.2.1)]
          repeat' (first | refine T_seq ?_ | refine N_then ?_ | refine N_thenR ?_ | refine N_blockR ?_ | refine T_regX tyOk ?_ | refine S_nil ?_ | refine T_ret ?_ | refine T_block ?_ | (apply E_tmp; (· exact rfl); (· (repeat' (first | exact pure_int _ _ | exact pure_bool _ | exact pure_str _); done))) | (apply T_ifT; (· exact rfl); (· (first | assumption | exact rfl))) | (apply T_ifF; (· exact rfl); (· (first | assumption | exact rfl))) | (apply S_gf; (· exact rfl); (· exact rfl); (· (first | assumption | exact rfl))) | (apply S_gfT'; (· exact rfl); (· exact rfl); (· exact rfl); (· (first | assumption | exact rfl))) | apply S_move | apply S_assign | (apply S_pickT; (· exact gt_any rfl); (· (first | assumption | exact rfl))) | (apply S_pickF; (· exact gt_any rfl); (· (first | assumption | exact rfl))) | (apply S_loadP; (· exact rfl); (· exact gt_any rfl); (· exact rfl); (· exact rfl); (· exact rfl); (· (first | exact ⟨rfl, rfl⟩ | exact ⟨rfl, trivial⟩ | assumption))) | (apply S_fieldP; (· exact rfl); (· exact rfl); (· exact rfl); (· exact rfl); (· exact gt_any rfl)) | apply S_not | apply S_box | (apply S_buildV tyOk; (· exact rfl); (· exact rfl)) | apply S_callQ (f := 149) | apply c0 | apply S_callQ (f := 57) | apply in_cv | apply S_callQ (f := 94) | apply isZeros_cv | exact viewL_nil | apply viewL_cons | exact viewE_nil | apply viewE_one | exact viewE_pure PureEC.out | apply view_lsV | (apply View.pure; exact PureC.out) | exact FlatC.out | exact gtsI_nil | (apply gtsI_cons; (· exact gt_any rfl)) | exact elts_nil | apply elts_cons | (intro hu; cases hu; done) | exact gt_any rfl | exact gts_nil | (apply gts_cons; (· exact gt_any rfl)) | exact okCells_of rfl rfl | exact Nat.le_of_ble_eq_true rfl | exact rfl | fail)
      · have d2 := rng_f a2
        rw [hd_range g1 (fun k => a2 k.2.1)]
        repeat' (first | refine T_seq ?_ | refine N_then ?_ | refine N_thenR ?_ | refine N_blockR ?_ | refine T_regX tyOk ?_ | refine S_nil ?_ | refine T_ret ?_ | refine T_block ?_ | (apply E_tmp; (· exact rfl); (· (repeat' (first | exact pure_int _ _ | exact pure_bool _ | exact pure_str _); done))) | (apply T_ifT; (· exact rfl); (· (first | assumption | exact rfl))) | (apply T_ifF; (· exact rfl); (· (first | assumption | exact rfl))) | (apply S_gf; (· exact rfl); (· exact rfl); (· (first | assumption | exact rfl))) | (apply S_gfT'; (· exact rfl); (· exact rfl); (· exact rfl); (· (first | assumption | exact rfl))) | apply S_move | apply S_assign | (apply S_pickT; (· exact gt_any rfl); (· (first | assumption | exact rfl))) | (apply S_pickF; (· exact gt_any rfl); (· (first | assumption | exact rfl))) | (apply S_loadP; (· exact rfl); (· exact gt_any rfl); (· exact rfl); (· exact rfl); (· exact rfl); (· (first | exact ⟨rfl, rfl⟩ | exact ⟨rfl, trivial⟩ | assumption))) | (apply S_fieldP; (· exact rfl); (· exact rfl); (· exact rfl); (· exact rfl); (· exact gt_any rfl)) | apply S_not | apply S_box | (apply S_buildV tyOk; (· exact rfl); (· exact rfl)) | apply S_callQ (f := 149) | apply c0 | apply S_callQ (f := 57) | apply in_cv | exact viewL_nil | apply viewL_cons | exact viewE_nil | apply viewE_one | exact viewE_pure PureEC.out | apply view_lsV | (apply View.pure; exact PureC.out) | exact FlatC.out | exact gtsI_nil | (apply gtsI_cons; (· exact gt_any rfl)) | exact elts_nil | apply elts_cons | (intro hu; cases hu; done) | exact gt_any rfl | exact gts_nil | (apply gts_cons; (· exact gt_any rfl)) | exact okCells_of rfl rfl | exact Nat.le_of_ble_eq_true rfl | exact rfl | fail)
    · have d1 := rng_f a1
      rw [hd_range g1 (fun k => a1 k.1)]
      repeat' (first | refine T_seq ?_ | refine N_then ?_ | refine N_thenR ?_ | refine N_blockR ?_ | refine T_regX tyOk ?_ | refine S_nil ?_ | refine T_ret ?_ | refine T_block ?_ | (apply E_tmp; (· exact rfl); (· (repeat' (first | exact pure_int _ _ | exact pure_bool _ | exact pure_str _); done))) | (apply T_ifT; (· exact rfl); (· (first | assumption | exact rfl))) | (apply T_ifF; (· exact rfl); (· (first | assumption | exact rfl))) | (apply S_gfT'; (· exact rfl); (· exact rfl); (· exact rfl); (· (first | assumption | exact rfl))) | apply S_move | apply S_assign | (apply S_pickT; (· exact gt_any rfl); (· (first | assumption | exact rfl))) | (apply S_loadP; (· exact rfl); (· exact gt_any rfl); (· exact rfl); (· exact rfl); (· exact rfl); (· (first | exact ⟨rfl, rfl⟩ | exact ⟨rfl, trivial⟩ | assumption))) | (apply S_fieldP; (· exact rfl); (· exact rfl); (· exact rfl); (· exact rfl); (· exact gt_any rfl)) | apply S_not | apply S_box | (apply S_buildV tyOk; (· exact rfl); (· exact rfl)) | apply S_callQ (f := 149) | apply c0 | apply S_callQ (f := 57) | apply in_cv | exact viewL_nil | apply viewL_cons | exact viewE_nil | apply viewE_one | exact viewE_pure PureEC.out | apply view_lsV | (apply View.pure; exact PureC.out) | exact FlatC.out | exact gtsI_nil | (apply gtsI_cons; (· exact gt_any rfl)) | exact elts_nil | apply elts_cons | (intro hu; cases hu; done) | exact gt_any rfl | exact gts_nil | (apply gts_cons; (· exact gt_any rfl)) | exact okCells_of rfl rfl | exact Nat.le_of_ble_eq_true rfl | exact rfl | fail)

theorem specHdFault_cv (x : Hd) : CV Tryz.prog 113 [hdA x] (· = .int .i64 (hdFault x)) := by
  refine CV_intro tyOk Tryz.func113 (by kernel_rfl) rfl 35 rfl (by simp) [.tmp 2] rfl ?_
  intro w0 ok0
  have l1 := bA_length x.parent
  have l2 := bA_length x.root
  have hr : rows32 [x.parent, x.root] = (decide (x.parent.length = 32) && decide (x.root.length = 32)) := by simp [rows32]
  by_cases a1 : x.parent.length = 32
  · have b1 : (!decide (((bA x.parent).length : Int) = 32)) = false := by rw [decide_eq_true (by omega)]; rfl
    by_cases a2 : x.root.length = 32
    · have b2 : (!decide (((bA x.root).length : Int) = 32)) = false := by rw [decide_eq_true (by omega)]; rfl
      have g1 : rows32 [x.parent, x.root] = true := by rw [hr, decide_eq_true a1, decide_eq_true a2]; rfl
      by_cases e1 : 0 ≤ x.height ∧ x.height ≤ 1000000
      · have d1 := rng_t e1
        by_cases e2 : 0 ≤ x.time ∧ x.time ≤ 1099511627776
        · have d2 := rng_t e2
          by_cases e3 : 0 ≤ x.zeros ∧ x.zeros ≤ 40
          · have d3 := rng_t e3
            by_cases e4 : 0 ≤ x.nonce ∧ x.nonce ≤ 2199023255552
            · have d4 := rng_t e4
              rw [hd_ok g1 ⟨e1, e2, e3, e4⟩]
              repeat' (first | refine T_seq ?_ | refine N_then ?_ | refine T_regX tyOk ?_ | refine S_nil ?_ | refine T_skip ?_ | refine T_ret ?_ | (apply E_tmp; (· exact rfl); (· (repeat' (first | exact pure_int _ _ | exact pure_bool _ | exact pure_str _); done))) | (apply T_ifF; (· exact rfl); (· (first | assumption | exact rfl))) | (apply S_gf; (· exact rfl); (· exact rfl); (· (first | assumption | exact rfl))) | apply S_move | apply S_assign | (apply S_pickF; (· exact gt_any rfl); (· (first | assumption | exact rfl))) | (apply S_loadP; (· exact rfl); (· exact gt_any rfl); (· exact rfl); (· exact rfl); (· exact rfl); (· (first | exact ⟨rfl, rfl⟩ | exact ⟨rfl, trivial⟩ | assumption))) | (apply S_fieldP; (· exact rfl); (· exact rfl); (· exact rfl); (· exact rfl); (· exact gt_any rfl)) | (apply S_neq; (· exact gt_any rfl); (· exact gt_any rfl)) | apply S_not | (apply S_len_ls; (· exact rfl); (· exact gt_any rfl)) | apply S_box | apply S_callQ (f := 53) | apply l1In_cv | exact viewL_nil | apply viewL_cons | (apply View.pure; exact PureC.out) | exact FlatC.out | exact gt_any rfl | exact gts_nil | (apply gts_cons; (· exact gt_any rfl)) | exact okCells_of rfl rfl | exact rfl | fail)
            · have d4 := rng_f e4
              rw [hd_range g1 (fun k => e4 k.2.2.2)]
              repeat' (first | refine T_seq ?_ | refine N_then ?_ | refine N_thenR ?_ | refine T_regX tyOk ?_ | refine S_nil ?_ | refine T_skip ?_ | refine T_ret ?_ | (apply E_tmp; (· exact rfl); (· (repeat' (first | exact pure_int _ _ | exact pure_bool _ | exact pure_str _); done))) | (apply T_ifT; (· exact rfl); (· (first | assumption | exact rfl))) | (apply T_ifF; (· exact rfl); (· (first | assumption | exact rfl))) | (apply S_gf; (· exact rfl); (· exact rfl); (· (first | assumption | exact rfl))) | apply S_move | apply S_assign | (apply S_pickF; (· exact gt_any rfl); (· (first | assumption | exact rfl))) | (apply S_loadP; (· exact rfl); (· exact gt_any rfl); (· exact rfl); (· exact rfl); (· exact rfl); (· (first | exact ⟨rfl, rfl⟩ | exact ⟨rfl, trivial⟩ | assumption))) | (apply S_fieldP; (· exact rfl); (· exact rfl); (· exact rfl); (· exact rfl); (· exact gt_any rfl)) | (apply S_neq; (· exact gt_any rfl); (· exact gt_any rfl)) | apply S_not | (apply S_len_ls; (· exact rfl); (· exact gt_any rfl)) | apply S_box | apply S_callQ (f := 53) | apply l1In_cv | exact viewL_nil | apply viewL_cons | (apply View.pure; exact PureC.out) | exact FlatC.out | exact gt_any rfl | exact gts_nil | (apply gts_cons; (· exact gt_any rfl)) | exact okCells_of rfl rfl | exact rfl | fail)
          · have d3 := rng_f e3
            rw [hd_range g1 (fun k => e3 k.2.2.1)]
            repeat' (first | refine T_seq ?_ | refine N_then ?_ | refine N_thenR ?_ | refine T_regX tyOk ?_ | refine S_nil ?_ | refine T_skip ?_ | refine T_ret ?_ | (apply E_tmp; (· exact rfl); (· (repeat' (first | exact pure_int _ _ | exact pure_bool _ | exact pure_str _); done))) | (apply T_ifT; (· exact rfl); (· (first | assumption | exact rfl))) | (apply T_ifF; (· exact rfl); (· (first | assumption | exact rfl))) | (apply S_gf; (· exact rfl); (· exact rfl); (· (first | assumption | exact rfl))) | (apply S_gfT'; (· exact rfl); (· exact rfl); (· exact rfl); (· (first | assumption | exact rfl))) | apply S_move | apply S_assign | (apply S_pickT; (· exact gt_any rfl); (· (first | assumption | exact rfl))) | (apply S_pickF; (· exact gt_any rfl); (· (first | assumption | exact rfl))) | (apply S_loadP; (· exact rfl); (· exact gt_any rfl); (· exact rfl); (· exact rfl); (· exact rfl); (· (first | exact ⟨rfl, rfl⟩ | exact ⟨rfl, trivial⟩ | assumption))) | (apply S_fieldP; (· exact rfl); (· exact rfl); (· exact rfl); (· exact rfl); (· exact gt_any rfl)) | (apply S_neq; (· exact gt_any rfl); (· exact gt_any rfl)) | apply S_not | (apply S_len_ls; (· exact rfl); (· exact gt_any rfl)) | apply S_box | apply S_callQ (f := 53) | apply l1In_cv | exact viewL_nil | apply viewL_cons | (apply View.pure; exact PureC.out) | exact FlatC.out | exact gt_any rfl | exact gts_nil | (apply gts_cons; (· exact gt_any rfl)) | exact okCells_of rfl rfl | exact rfl | fail)
        · have d2 := rng_f e2
          rw [hd_range g1 (fun k => e2 k.2.1)]
          repeat' (first | refine T_seq ?_ | refine N_then ?_ | refine N_thenR ?_ | refine T_regX tyOk ?_ | refine S_nil ?_ | refine T_skip ?_ | refine T_ret ?_ | (apply E_tmp; (· exact rfl); (· (repeat' (first | exact pure_int _ _ | exact pure_bool _ | exact pure_str _); done))) | (apply T_ifT; (· exact rfl); (· (first | assumption | exact rfl))) | (apply T_ifF; (· exact rfl); (· (first | assumption | exact rfl))) | (apply S_gf; (· exact rfl); (· exact rfl); (· (first | assumption | exact rfl))) | (apply S_gfT'; (· exact rfl); (· exact rfl); (· exact rfl); (· (first | assumption | exact rfl))) | apply S_move | apply S_assign | (apply S_pickT; (· exact gt_any rfl); (· (first | assumption | exact rfl))) | (apply S_pickF; (· exact gt_any rfl); (· (first | assumption | exact rfl))) | (apply S_loadP; (· exact rfl); (· exact gt_any rfl); (· exact rfl); (· exact rfl); (· exact rfl); (· (first | exact ⟨rfl, rfl⟩ | exact ⟨rfl, trivial⟩ | assumption))) | (apply S_fieldP; (· exact rfl); (· exact rfl); (· exact rfl); (· exact rfl); (· exact gt_any rfl)) | (apply S_neq; (· exact gt_any rfl); (· exact gt_any rfl)) | apply S_not | (apply S_len_ls; (· exact rfl); (· exact gt_any rfl)) | apply S_box | apply S_callQ (f := 53) | apply l1In_cv | exact viewL_nil | apply viewL_cons | (apply View.pure; exact PureC.out) | exact FlatC.out | exact gt_any rfl | exact gts_nil | (apply gts_cons; (· exact gt_any rfl)) | exact okCells_of rfl rfl | exact rfl | fail)
      · have d1 := rng_f e1
        rw [hd_range g1 (fun k => e1 k.1)]
        repeat' (first | refine T_seq ?_ | refine N_then ?_ | refine N_thenR ?_ | refine T_regX tyOk ?_ | refine S_nil ?_ | refine T_skip ?_ | refine T_ret ?_ | (apply E_tmp; (· exact rfl); (· (repeat' (first | exact pure_int _ _ | exact pure_bool _ | exact pure_str _); done))) | (apply T_ifT; (· exact rfl); (· (first | assumption | exact rfl))) | (apply T_ifF; (· exact rfl); (· (first | assumption | exact rfl))) | (apply S_gf; (· exact rfl); (· exact rfl); (· (first | assumption | exact rfl))) | (apply S_gfT'; (· exact rfl); (· exact rfl); (· exact rfl); (· (first | assumption | exact rfl))) | apply S_move | apply S_assign | (apply S_pickT; (· exact gt_any rfl); (· (first | assumption | exact rfl))) | (apply S_pickF; (· exact gt_any rfl); (· (first | assumption | exact rfl))) | (apply S_loadP; (· exact rfl); (· exact gt_any rfl); (· exact rfl); (· exact rfl); (· exact rfl); (· (first | exact ⟨rfl, rfl⟩ | exact ⟨rfl, trivial⟩ | assumption))) | (apply S_fieldP; (· exact rfl); (· exact rfl); (· exact rfl); (· exact rfl); (· exact gt_any rfl)) | (apply S_neq; (· exact gt_any rfl); (· exact gt_any rfl)) | apply S_not | (apply S_len_ls; (· exact rfl); (· exact gt_any rfl)) | apply S_box | apply S_callQ (f := 53) | apply l1In_cv | exact viewL_nil | apply viewL_cons | (apply View.pure; exact PureC.out) | exact FlatC.out | exact gt_any rfl | exact gts_nil | (apply gts_cons; (· exact gt_any rfl)) | exact okCells_of rfl rfl | exact rfl | fail)
    · have b2 : (!decide (((bA x.root).length : Int) = 32)) = true := by rw [decide_eq_false (by omega)]; rfl
      have g1 : rows32 [x.parent, x.root] = false := by rw [hr, decide_eq_false a2]; simp
      rw [hd_form g1]
      repeat' (first | refine T_seq ?_ | refine N_then ?_ | refine N_thenR ?_ | refine T_regX tyOk ?_ | refine S_nil ?_ | refine T_ret ?_ | (apply E_tmp; (· exact rfl); (· (repeat' (first | exact pure_int _ _ | exact pure_bool _ | exact pure_str _); done))) | (apply T_ifT; (· exact rfl); (· (first | assumption | exact rfl))) | (apply S_gf; (· exact rfl); (· exact rfl); (· (first | assumption | exact rfl))) | apply S_move | apply S_assign | (apply S_pickF; (· exact gt_any rfl); (· (first | assumption | exact rfl))) | (apply S_loadP; (· exact rfl); (· exact gt_any rfl); (· exact rfl); (· exact rfl); (· exact rfl); (· (first | exact ⟨rfl, rfl⟩ | exact ⟨rfl, trivial⟩ | assumption))) | (apply S_fieldP; (· exact rfl); (· exact rfl); (· exact rfl); (· exact rfl); (· exact gt_any rfl)) | (apply S_neq; (· exact gt_any rfl); (· exact gt_any rfl)) | (apply S_len_ls; (· exact rfl); (· exact gt_any rfl)) | apply S_box | exact gt_any rfl | exact okCells_of rfl rfl | exact rfl | fail)
  · have b1 : (!decide (((bA x.parent).length : Int) = 32)) = true := by rw [decide_eq_false (by omega)]; rfl
    have g1 : rows32 [x.parent, x.root] = false := by rw [hr, decide_eq_false a1]; simp
    rw [hd_form g1]
    repeat' (first | refine T_seq ?_ | refine N_then ?_ | refine N_thenR ?_ | refine T_regX tyOk ?_ | refine S_nil ?_ | refine T_ret ?_ | (apply E_tmp; (· exact rfl); (· (repeat' (first | exact pure_int _ _ | exact pure_bool _ | exact pure_str _); done))) | (apply T_ifT; (· exact rfl); (· (first | assumption | exact rfl))) | (apply S_gfT'; (· exact rfl); (· exact rfl); (· exact rfl); (· (first | assumption | exact rfl))) | apply S_move | apply S_assign | (apply S_pickT; (· exact gt_any rfl); (· (first | assumption | exact rfl))) | (apply S_loadP; (· exact rfl); (· exact gt_any rfl); (· exact rfl); (· exact rfl); (· exact rfl); (· (first | exact ⟨rfl, rfl⟩ | exact ⟨rfl, trivial⟩ | assumption))) | (apply S_fieldP; (· exact rfl); (· exact rfl); (· exact rfl); (· exact rfl); (· exact gt_any rfl)) | (apply S_neq; (· exact gt_any rfl); (· exact gt_any rfl)) | (apply S_len_ls; (· exact rfl); (· exact gt_any rfl)) | apply S_box | exact gt_any rfl | exact okCells_of rfl rfl | exact rfl | fail)

/-! what a head packs to, and its digest -/
abbrev hdWA (x : Hd) : AV := sl1 [byA x.parent, byA (putN x.height), byA (putN x.time), byA (putN x.zeros), byA x.root]

theorem hdWords_cv (x : Hd) : CV Tryz.prog 130 [hdA x] (· = hdWA x) := by
  refine CV_intro tyOk Tryz.func130 (by kernel_rfl) rfl 17 rfl (by simp) [.tmp 2] rfl ?_
  intro w0 ok0
  have c0 := number_cv x.height
  have c1 := number_cv x.time
  have c2 := number_cv x.zeros
  repeat' (first | refine T_seq ?_ | refine N_then ?_ | refine T_regX tyOk ?_ | (apply T_drawAll tyOk mixed; (· kernel_rfl)) | refine S_nil ?_ | refine T_ret ?_ | (apply E_X <;> repeat' (first | exact resL_nil | (apply resL_tmp; (· exact rfl)) | (apply resL_cell; (· exact rfl); (· exact rfl); (· exact rfl); (· exact rfl); (· exact rfl); (· exact rfl)) | (apply resL_arr; (· exact rfl); (· exact rfl); (· exact rfl); (· exact rfl); (· (first | assumption | exact rfl))) | exact viewL_nil | apply viewL_cons | apply view_nothingE | (apply view_slE; (· exact rfl); (· first | exact rfl | assumption | (simp [bA_length]; done) | (simp [bA_length]; omega) | omega); (· exact PureEC.out)) | (apply view_loose; (· exact PureEC.out)) | apply view_agg | apply view_tup | (apply View.ofEq; (· exact PureC.out)) | exact rfl)) | apply S_assign | (apply S_loadP; (· exact rfl); (· exact gt_any rfl); (· exact rfl); (· exact rfl); (· exact rfl); (· (first | exact ⟨rfl, rfl⟩ | exact ⟨rfl, trivial⟩ | assumption))) | (apply S_fieldP; (· exact rfl); (· exact rfl); (· exact rfl); (· exact rfl); (· exact gt_any rfl)) | apply S_box | (apply S_buildV tyOk; (· exact rfl); (· exact rfl)) | apply S_call (f := 131) | apply c0 | apply c1 | apply c2 | exact PureLC.out | exact gtsI_nil | (apply gtsI_cons; (· exact gt_any rfl)) | exact elts_nil | apply elts_cons | (intro hu; cases hu; done) | exact gt_any rfl | exact gts_nil | (apply gts_cons; (· exact gt_any rfl)) | exact okCells_of rfl rfl | exact Nat.le_of_ble_eq_true rfl | exact rfl | fail)

theorem l5Front_cv (x : Hd) : CV Tryz.prog 169 [hdA x] (· = hdWA x) := by
  refine CV_intro tyOk Tryz.func169 (by kernel_rfl) rfl 17 rfl (by simp) [.tmp 2] rfl ?_
  intro w0 ok0
  have c0 := l1Put_cv x.height
  have c1 := l1Put_cv x.time
  have c2 := l1Put_cv x.zeros
  repeat' (first | refine T_seq ?_ | refine N_then ?_ | refine T_regX tyOk ?_ | (apply T_drawAll tyOk mixed; (· kernel_rfl)) | refine S_nil ?_ | refine T_ret ?_ | (apply E_X <;> repeat' (first | exact resL_nil | (apply resL_tmp; (· exact rfl)) | (apply resL_cell; (· exact rfl); (· exact rfl); (· exact rfl); (· exact rfl); (· exact rfl); (· exact rfl)) | (apply resL_arr; (· exact rfl); (· exact rfl); (· exact rfl); (· exact rfl); (· (first | assumption | exact rfl))) | exact viewL_nil | apply viewL_cons | apply view_nothingE | (apply view_slE; (· exact rfl); (· first | exact rfl | assumption | (simp [bA_length]; done) | (simp [bA_length]; omega) | omega); (· exact PureEC.out)) | (apply view_loose; (· exact PureEC.out)) | apply view_agg | apply view_tup | (apply View.ofEq; (· exact PureC.out)) | exact rfl)) | apply S_assign | (apply S_loadP; (· exact rfl); (· exact gt_any rfl); (· exact rfl); (· exact rfl); (· exact rfl); (· (first | exact ⟨rfl, rfl⟩ | exact ⟨rfl, trivial⟩ | assumption))) | (apply S_fieldP; (· exact rfl); (· exact rfl); (· exact rfl); (· exact rfl); (· exact gt_any rfl)) | apply S_box | (apply S_buildV tyOk; (· exact rfl); (· exact rfl)) | apply S_call (f := 172) | apply c0 | apply c1 | apply c2 | exact PureLC.out | exact gtsI_nil | (apply gtsI_cons; (· exact gt_any rfl)) | exact elts_nil | apply elts_cons | (intro hu; cases hu; done) | exact gt_any rfl | exact gts_nil | (apply gts_cons; (· exact gt_any rfl)) | exact okCells_of rfl rfl | exact Nat.le_of_ble_eq_true rfl | exact rfl | fail)

theorem hdDigest_cv (x : Hd) (h : hdFault x = 0) : CV Tryz.prog 71 [hdA x] (· = sl1 (bA (hdD x))) := by
  refine CV_intro tyOk Tryz.func71 (by kernel_rfl) rfl 11 rfl (by simp) [.tmp 2] rfl ?_
  intro w0 ok0
  obtain ⟨h1, h2, h3⟩ := hdWs_pack h
  have c0 := hdWords_cv x
  have c1 := pack_cv (hdWs x) (by omega) (fun w hw => by have := h2 w hw; omega) (by omega)
  have c2 : CV Tryz.prog 129 [hdWA x] (· = sl1 (bA (packL (hdWs x)))) := c1
  have c3 := number_cv x.nonce
  have e : [packL (hdWs x), putN x.nonce].flatten = packL (hdWs x) ++ putN x.nonce := by simp
  have c4 : CV Tryz.prog 128 [sl1 ([packL (hdWs x), putN x.nonce].map byA)] (· = sl1 (bA (hdD x))) := CR.byVal (digest_cr [packL (hdWs x), putN x.nonce] (by rw [e, List.length_append, putN_length]; omega) (by simp) 0) (by rw [bA_length, sha_length]) (pureB_bA _) |>.mono (fun y hy => by rw [hy, e]; rfl)
  clear e c1
  generalize packL (hdWs x) = P at *
  generalize putN x.nonce = Q at *
  have c5 : CV Tryz.prog 128 [.ls 1 false true [byA P, byA Q]] (· = sl1 (bA (hdD x))) := c4.args rfl (loose1 (loose_ls _ _ _ _))
  repeat' (first | refine T_seq ?_ | refine N_then ?_ | refine T_regX tyOk ?_ | (apply T_drawM (id := 1) 5 tyOk mixed; (· exact rfl); (· exact rfl); (· kernel_rfl); (· exact Nat.le_of_ble_eq_true rfl)) | refine S_nil ?_ | refine T_ret ?_ | (apply E_X <;> repeat' (first | exact resL_nil | (apply resL_tmp; (· exact rfl)) | (apply resL_cell; (· exact rfl); (· exact rfl); (· exact rfl); (· exact rfl); (· exact rfl); (· exact rfl)) | (apply resL_arr; (· exact rfl); (· exact rfl); (· exact rfl); (· exact rfl); (· (first | assumption | exact rfl))) | exact viewL_nil | apply viewL_cons | apply view_nothingE | (apply view_slE; (· exact rfl); (· first | exact rfl | assumption | (simp [bA_length]; done) | (simp [bA_length]; omega) | omega); (· exact PureEC.out)) | (apply view_loose; (· exact PureEC.out)) | apply view_agg | apply view_tup | (apply View.ofEq; (· exact PureC.out)) | exact rfl)) | apply S_assign | (apply S_loadP; (· exact rfl); (· exact gt_any rfl); (· exact rfl); (· exact rfl); (· exact rfl); (· (first | exact ⟨rfl, rfl⟩ | exact ⟨rfl, trivial⟩ | assumption))) | (apply S_loadW; (· exact rfl); (· exact gt_any rfl); (· exact rfl); (· exact rfl); (· exact rfl); (· exact rfl); (· exact rfl); (· exact rfl)) | (apply S_fieldP; (· exact rfl); (· exact rfl); (· exact rfl); (· exact rfl); (· exact gt_any rfl)) | apply S_box | (apply S_buildV tyOk; (· exact rfl); (· exact rfl)) | apply S_call (f := 130) | apply c0 | apply S_call (f := 129) | apply c2 | apply S_call (f := 131) | apply c3 | apply S_call (f := 128) | apply c5 | exact PureLC.out | exact gtsI_nil | (apply gtsI_cons; (· exact gt_any rfl)) | exact elts_nil | apply elts_cons | (intro hu; cases hu; done) | exact gt_any rfl | exact gts_nil | (apply gts_cons; (· exact gt_any rfl)) | exact okCells_of rfl rfl | exact Nat.le_of_ble_eq_true rfl | exact rfl | fail)

theorem l5Digest_cv (x : Hd) (h : hdFault x = 0) : CV Tryz.prog 124 [hdA x] (· = sl1 (bA (hdD x))) := by
  refine CV_intro tyOk Tryz.func124 (by kernel_rfl) rfl 11 rfl (by simp) [.tmp 2] rfl ?_
  intro w0 ok0
  obtain ⟨h1, h2, h3⟩ := hdWs_pack h
  have c0 := l5Front_cv x
  have c1 : ∀ N, CR Tryz.prog 168 [hdWA x] [] N (Is (.sl N 0 (packL (hdWs x)).length (packL (hdWs x)).length) [(N, some ⟨bA (packL (hdWs x)), 1, true, false⟩)] (N + 1)) := fun N => l1Pack_cr (hdWs x) (by omega) (by omega) N
  have c3 := l1Put_cv x.nonce
  have c4 : CV Tryz.prog 171 [sl1 (bA (packL (hdWs x) ++ putN x.nonce))] (· = sl1 (bA (hdD x))) := CR.byVal (specDigest_cr (packL (hdWs x) ++ putN x.nonce) (by rw [List.length_append, putN_length]; omega) 0) (by rw [bA_length, hdD_length]) (pureB_bA _)
  have hv : bA (packL (hdWs x)) ++ bA (putN x.nonce) = bA (packL (hdWs x) ++ putN x.nonce) := by rw [bA_app]
  rw [← hv] at c4
  clear hv
  have hp := bA_length (packL (hdWs x))
  have hq := bA_length (putN x.nonce)
  have hq2 := putN_length x.nonce
  generalize packL (hdWs x) = P at *
  generalize putN x.nonce = Q at *
  repeat' (first | refine T_seq ?_ | refine N_then ?_ | refine T_regX tyOk ?_ | (apply T_drawQ (id := 1) 5 [2] tyOk mixed; (· exact rfl); (· exact rfl); (· exact rfl); (· kernel_rfl); (· kernel_rfl); (· exact Nat.le_of_ble_eq_true rfl)) | refine S_nil ?_ | refine T_ret ?_ | (apply E_X <;> repeat' (first | exact resL_nil | (apply resL_tmp; (· exact rfl)) | (apply resL_cell; (· exact rfl); (· exact rfl); (· exact rfl); (· exact rfl); (· exact rfl); (· exact rfl)) | (apply resL_arr; (· exact rfl); (· exact rfl); (· exact rfl); (· exact rfl); (· (first | assumption | exact rfl))) | exact viewL_nil | apply viewL_cons | apply view_nothingE | (apply view_slE; (· exact rfl); (· first | exact rfl | assumption | (simp [bA_length]; done) | (simp [bA_length]; omega) | omega); (· exact PureEC.out)) | (apply view_loose; (· exact PureEC.out)) | apply view_agg | apply view_tup | (apply View.ofEq; (· exact PureC.out)) | exact rfl)) | apply S_assign | (apply S_loadP; (· exact rfl); (· exact gt_any rfl); (· exact rfl); (· exact rfl); (· exact rfl); (· (first | exact ⟨rfl, rfl⟩ | exact ⟨rfl, trivial⟩ | assumption))) | (apply S_loadW; (· exact rfl); (· exact gt_any rfl); (· exact rfl); (· exact rfl); (· exact rfl); (· exact rfl); (· exact rfl); (· exact rfl)) | (apply S_fieldP; (· exact rfl); (· exact rfl); (· exact rfl); (· exact rfl); (· exact gt_any rfl)) | apply S_box | (apply M_appB; (· exact rfl); (· exact rfl); (· exact gt_any rfl)) | refine L_nil ?_ | apply L_callI (f := 168) | apply S_call (f := 169) | apply c0 | apply S_callW (f := 172) | apply c3 | apply S_callW (f := 171) | apply c4 | apply c1 | exact viewL_nil | apply viewL_cons | exact viewE_nil | apply viewE_one | exact viewE_pure PureEC.out | apply view_lsV | (apply View.pure; exact PureC.out) | (apply view_slM; (· exact rfl); (· (apply mlen; first | exact rfl | assumption | exact Nat.le_of_ble_eq_true rfl | omega | (simp [bA_length]; done) | (simp [bA_length]; omega))); (· exact PureEC.out)) | exact OwnC.out | exact ownB_nil | (apply ownB_boxM; (· (apply mlen; first | exact rfl | assumption | exact Nat.le_of_ble_eq_true rfl | omega | (simp [bA_length]; done) | (simp [bA_length]; omega))); (· exact OwnEC.out)) | exact PureLC.out | (apply mlen; first | exact rfl | assumption | exact Nat.le_of_ble_eq_true rfl | omega | (simp [bA_length]; done) | (simp [bA_length]; omega)) | (apply msz; first | assumption | exact Nat.le_of_ble_eq_true rfl | (dsimp only; simp only [List.length_append, List.length_map, List.length_cons, List.length_nil, bA_length, List.length_take, List.length_drop, List.length_replicate] at *; omega) | (dsimp only; omega)) | (apply mnorm; first | with_reducible exact app_nil0 _ | exact app_norm _ _ | exact rfl) | exact Src.ls rfl rfl | (dsimp only; omega) | exact gt_any rfl | exact gts_nil | (apply gts_cons; (· exact gt_any rfl)) | exact okCells_of rfl rfl | exact rfl | fail)

theorem specHdDigest_cv (x : Hd) (h : hdFault x = 0) : CV Tryz.prog 110 [hdA x] (· = sl1 (bA (hdD x))) := by
  refine CV_intro tyOk Tryz.func110 (by kernel_rfl) rfl 8 rfl (by simp) [.tmp 2] rfl ?_
  intro w0 ok0
  have k0 := specHdFault_cv x
  rw [h] at k0
  have d0 : (!decide ((0 : Int) = 0)) = false := rfl
  have c0 := l5Digest_cv x h
  repeat' (first | refine T_seq ?_ | refine N_then ?_ | refine T_regX tyOk ?_ | refine S_nil ?_ | refine T_skip ?_ | refine T_ret ?_ | (apply E_X <;> repeat' (first | exact resL_nil | (apply resL_tmp; (· exact rfl)) | (apply resL_cell; (· exact rfl); (· exact rfl); (· exact rfl); (· exact rfl); (· exact rfl); (· exact rfl)) | (apply resL_arr; (· exact rfl); (· exact rfl); (· exact rfl); (· exact rfl); (· (first | assumption | exact rfl))) | exact viewL_nil | apply viewL_cons | apply view_nothingE | (apply view_slE; (· exact rfl); (· first | exact rfl | assumption | (simp [bA_length]; done) | (simp [bA_length]; omega) | omega); (· exact PureEC.out)) | (apply view_loose; (· exact PureEC.out)) | apply view_agg | apply view_tup | (apply View.ofEq; (· exact PureC.out)) | exact rfl)) | (apply T_ifF; (· exact rfl); (· (first | assumption | exact rfl))) | apply S_assign | (apply S_loadW; (· exact rfl); (· exact gt_any rfl); (· exact rfl); (· exact rfl); (· exact rfl); (· exact rfl); (· exact rfl); (· exact rfl)) | (apply S_neq; (· exact gt_any rfl); (· exact gt_any rfl)) | apply S_box | apply S_callQ (f := 113) | apply k0 | apply S_call (f := 124) | apply c0 | exact viewL_nil | apply viewL_cons | (apply View.pure; exact PureC.out) | exact FlatC.out | exact PureLC.out | exact gt_any rfl | exact gts_nil | (apply gts_cons; (· exact gt_any rfl)) | exact okCells_of rfl rfl | exact rfl | fail)

end Go.Proofs.YtaolmfgpebncjaaGreat
