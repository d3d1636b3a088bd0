/- Bytes compared; records read, by value. -/
import Derived.Test.YtaolmfgpebncjaaGreatXh
import Derived.Test.YtaolmfgpebncjaaGreatGi
set_option maxRecDepth 100000
set_option maxHeartbeats 3200000
set_option linter.unusedSimpArgs false
set_option linter.unusedVariables false
namespace Go.Proofs.YtaolmfgpebncjaaGreat
open Go.Av
attribute [local irreducible] T thenQ blockQ againQ againS WX retV retR Gt Gts GtsP okCells CV CR Av.Pure
attribute [local irreducible] sha

def cmpL : List UInt8 → List UInt8 → Int
  | [], [] => 0
  | [], _ :: _ => -1
  | _ :: _, [] => 1
  | a :: u, b :: v => if a.toNat < b.toNat then -1 else if b.toNat < a.toNat then 1 else cmpL u v
theorem cmpL_eq : ∀ a b : List UInt8, cmpL a b = 0 ↔ a = b
  | [], [] => by simp [cmpL]
  | [], _ :: _ => by simp [cmpL]
  | _ :: _, [] => by simp [cmpL]
  | a :: u, b :: v => by
    have ih := cmpL_eq u v
    unfold cmpL
    by_cases h1 : a.toNat < b.toNat
    · rw [if_pos h1]
      have : a ≠ b := by rintro rfl; omega
      simp [this]
    · rw [if_neg h1]
      by_cases h2 : b.toNat < a.toNat
      · rw [if_pos h2]
        have : a ≠ b := by rintro rfl; omega
        simp [this]
      · rw [if_neg h2, ih]
        have : a = b := UInt8.toNat.inj (by omega)
        simp [this]
theorem cmpL_step {a b : List UInt8} {k : Nat} (h : k < a.length) (h' : k < b.length) : cmpL (a.drop k) (b.drop k) = if (a.getD k 0).toNat < (b.getD k 0).toNat then -1 else if (b.getD k 0).toNat < (a.getD k 0).toNat then 1 else cmpL (a.drop (k + 1)) (b.drop (k + 1)) := by
  rw [List.drop_eq_getElem_cons h, List.drop_eq_getElem_cons h']
  simp only [cmpL, List.getD_eq_getElem?_getD, List.getElem?_eq_getElem h, List.getElem?_eq_getElem h', Option.getD_some]

theorem cmp_cv (a b : List UInt8) (ha : a.length ≤ 4611686018427387904) (hb : b.length ≤ 4611686018427387904) : CV Tryz.prog 159 [sl1 (bA a), sl1 (bA b)] (· = .int .i64 (cmpL a b)) := by
  refine CV_intro tyOk Tryz.func159 (by kernel_rfl) rfl 46 rfl (by simp) [.tmp 4] rfl ?_
  intro w0 ok0
  have hal := bA_length a
  have hbl := bA_length b
  repeat' (first | refine T_seq ?_ | refine N_then ?_ | refine T_regX tyOk ?_ | refine S_nil ?_ | refine T_block ?_ | apply S_assign | exact gt_any rfl | exact rfl | fail)
  refine T_roundsS (α := Nat) (fun k => ⟨[(0, sl1 (bA a)), (1, sl1 (bA b)), (5, .int .i64 k)], [], 0⟩)
    (fun k => a.length - k) (fun k => k ≤ a.length ∧ k ≤ b.length ∧ cmpL a b = cmpL (a.drop k) (b.drop k)) 0 ((weak_of (by repeat' (first | exact keepE_nil | refine keepE_cons rfl ?_)) (by repeat' (first | exact keepB_nil | refine keepB_cons (by first | rfl | exact congrArg (fun l => some (Box.mk l _ _ _)) hset) ?_)) (Nat.le_refl _))).sub ⟨by omega, by omega, rfl⟩ ?_
  rintro k ⟨hka, hkb, hI⟩
  by_cases h1 : k < a.length
  · have c1 : decide ((k : Int) < ((bA a).length : Int)) = true := by simp only [decide_eq_true_eq]; omega
    by_cases h2 : k < b.length
    · have c2 : decide ((k : Int) < ((bA b).length : Int)) = true := by simp only [decide_eq_true_eq]; omega
      have ga := bA_getD a h1
      have gb := bA_getD b h2
      rw [cmpL_step h1 h2] at hI
      generalize a.getD k 0 = x at *
      generalize b.getD k 0 = y at *
      have hw : IntKind.wrap .i64 ((k : Int) + 1) = ((k + 1 : Nat) : Int) := by rw [wrap_i64 (by omega) (by omega)]; omega
      by_cases h3 : x.toNat < y.toNat
      · have c3 : decide ((x.toNat : Int) < (y.toNat : Int)) = true := by simp only [decide_eq_true_eq]; omega
        rw [if_pos h3] at hI
        rw [hI]
        repeat' (first | refine T_seq ?_ | refine N_then ?_ | refine N_thenR ?_ | refine N_blockR ?_ | refine N_againSR ?_ | refine T_regX tyOk ?_ | (apply T_drawAll tyOk mixed; (· kernel_rfl)) | refine S_nil ?_ | refine T_skip ?_ | refine T_ret ?_ | refine T_block ?_ | (apply E_tmp; (· exact rfl); (· (repeat' (first | exact pure_int _ _ | exact pure_bool _ | exact pure_str _); done))) | (apply T_ifT; (· exact rfl); (· (first | assumption | exact rfl))) | (apply S_gt; (· exact rfl); (· exact rfl); (· (first | assumption | exact rfl))) | apply S_move | apply S_assign | (apply S_pickT; (· exact gt_any rfl); (· (first | assumption | exact rfl))) | (apply S_loadV; (· exact rfl); (· exact gt_any rfl); (· exact rfl); (· (first | exact ⟨rfl, rfl⟩ | exact ⟨rfl, trivial⟩ | assumption))) | apply S_lss | (apply S_len_ls; (· exact rfl); (· exact gt_any rfl)) | (apply S_idxLs; (· exact rfl); (· exact rfl); (· exact gt_any rfl); (· exact gt_any rfl)) | exact gt_any rfl | assumption | (refine ⟨?_, ?_⟩ <;> omega) | exact rfl | fail)
      · have c3 : decide ((x.toNat : Int) < (y.toNat : Int)) = false := by simp only [decide_eq_false_iff_not]; omega
        rw [if_neg h3] at hI
        by_cases h4 : y.toNat < x.toNat
        · have c4 : decide ((y.toNat : Int) < (x.toNat : Int)) = true := by simp only [decide_eq_true_eq]; omega
          rw [if_pos h4] at hI
          rw [hI]
          repeat' (first | refine T_seq ?_ | refine N_then ?_ | refine N_thenR ?_ | refine N_blockR ?_ | refine N_againSR ?_ | refine T_regX tyOk ?_ | (apply T_drawAll tyOk mixed; (· kernel_rfl)) | refine S_nil ?_ | refine T_skip ?_ | refine T_ret ?_ | refine T_block ?_ | (apply E_tmp; (· exact rfl); (· (repeat' (first | exact pure_int _ _ | exact pure_bool _ | exact pure_str _); done))) | (apply T_ifT; (· exact rfl); (· (first | assumption | exact rfl))) | (apply T_ifF; (· exact rfl); (· (first | assumption | exact rfl))) | (apply S_gt; (· exact rfl); (· exact rfl); (· (first | assumption | exact rfl))) | apply S_move | apply S_assign | (apply S_pickT; (· exact gt_any rfl); (· (first | assumption | exact rfl))) | (apply S_loadV; (· exact rfl); (· exact gt_any rfl); (· exact rfl); (· (first | exact ⟨rfl, rfl⟩ | exact ⟨rfl, trivial⟩ | assumption))) | apply S_lss | apply S_gtr | (apply S_len_ls; (· exact rfl); (· exact gt_any rfl)) | (apply S_idxLs; (· exact rfl); (· exact rfl); (· exact gt_any rfl); (· exact gt_any rfl)) | exact gt_any rfl | assumption | (refine ⟨?_, ?_⟩ <;> omega) | exact rfl | fail)
        · have c4 : decide ((y.toNat : Int) < (x.toNat : Int)) = false := by simp only [decide_eq_false_iff_not]; omega
          rw [if_neg h4] at hI
          repeat' (first | refine T_seq ?_ | refine N_then ?_ | refine N_block ?_ | refine T_regX tyOk ?_ | (apply T_drawAll tyOk mixed; (· kernel_rfl)) | refine S_nil ?_ | refine T_skip ?_ | refine T_block ?_ | (apply T_ifT; (· exact rfl); (· (first | assumption | exact rfl))) | (apply T_ifF; (· exact rfl); (· (first | assumption | exact rfl))) | (apply S_gt; (· exact rfl); (· exact rfl); (· (first | assumption | exact rfl))) | apply S_move | apply S_assign | (apply S_pickT; (· exact gt_any rfl); (· (first | assumption | exact rfl))) | (apply S_loadV; (· exact rfl); (· exact gt_any rfl); (· exact rfl); (· (first | exact ⟨rfl, rfl⟩ | exact ⟨rfl, trivial⟩ | assumption))) | apply S_lss | apply S_gtr | apply S_add | (apply S_len_ls; (· exact rfl); (· exact gt_any rfl)) | (apply S_idxLs; (· exact rfl); (· exact rfl); (· exact gt_any rfl); (· exact gt_any rfl)) | exact gt_any rfl | assumption | (refine ⟨?_, ?_⟩ <;> omega) | exact rfl | fail)
          exact N_againS (k + 1) ((weak_of (by repeat' (first | exact keepE_nil | refine keepE_cons rfl ?_)) (by repeat' (first | exact keepB_nil | refine keepB_cons (by first | rfl | exact congrArg (fun l => some (Box.mk l _ _ _)) hset) ?_)) (Nat.le_refl _))).sub ⟨by omega, by omega, hI⟩ (by omega)
    · have c2 : decide ((k : Int) < ((bA b).length : Int)) = false := by simp only [decide_eq_false_iff_not]; omega
      have c3 : decide (((bA a).length : Int) < ((bA b).length : Int)) = false := by simp only [decide_eq_false_iff_not]; omega
      have c4 : decide (((bA b).length : Int) < ((bA a).length : Int)) = true := by simp only [decide_eq_true_eq]; omega
      have hv : cmpL a b = 1 := by rw [hI, List.drop_of_length_le (l := b) (by omega), List.drop_eq_getElem_cons h1]; rfl
      rw [hv]
      repeat' (first | refine T_seq ?_ | refine N_then ?_ | refine N_thenR ?_ | refine N_thenE ?_ | refine N_blockE ?_ | refine N_againSE ?_ | refine T_regX tyOk ?_ | refine S_nil ?_ | refine T_skip ?_ | refine T_ret ?_ | refine T_exit ?_ | (apply E_tmp; (· exact rfl); (· (repeat' (first | exact pure_int _ _ | exact pure_bool _ | exact pure_str _); done))) | (apply T_ifT; (· exact rfl); (· (first | assumption | exact rfl))) | (apply T_ifF; (· exact rfl); (· (first | assumption | exact rfl))) | (apply S_gt; (· exact rfl); (· exact rfl); (· (first | assumption | exact rfl))) | apply S_move | apply S_assign | (apply S_pickT; (· exact gt_any rfl); (· (first | assumption | exact rfl))) | apply S_lss | apply S_gtr | (apply S_len_ls; (· exact rfl); (· exact gt_any rfl)) | exact gt_any rfl | exact rfl | fail)
  · have c1 : decide ((k : Int) < ((bA a).length : Int)) = false := by simp only [decide_eq_false_iff_not]; omega
    have c4 : decide (((bA b).length : Int) < ((bA a).length : Int)) = false := by simp only [decide_eq_false_iff_not]; omega
    by_cases h2 : k < b.length
    · have c3 : decide (((bA a).length : Int) < ((bA b).length : Int)) = true := by simp only [decide_eq_true_eq]; omega
      have hv : cmpL a b = -1 := by rw [hI, List.drop_of_length_le (l := a) (by omega), List.drop_eq_getElem_cons h2]; rfl
      rw [hv]
      repeat' (first | refine T_seq ?_ | refine N_then ?_ | refine N_thenR ?_ | refine N_thenE ?_ | refine N_blockE ?_ | refine N_againSE ?_ | refine T_regX tyOk ?_ | refine S_nil ?_ | refine T_ret ?_ | refine T_exit ?_ | (apply E_tmp; (· exact rfl); (· (repeat' (first | exact pure_int _ _ | exact pure_bool _ | exact pure_str _); done))) | (apply T_ifT; (· exact rfl); (· (first | assumption | exact rfl))) | (apply T_ifF; (· exact rfl); (· (first | assumption | exact rfl))) | (apply S_gtF'; (· exact rfl); (· exact rfl); (· exact rfl); (· (first | assumption | exact rfl))) | apply S_move | apply S_assign | (apply S_pickF; (· exact gt_any rfl); (· (first | assumption | exact rfl))) | apply S_lss | (apply S_len_ls; (· exact rfl); (· exact gt_any rfl)) | exact gt_any rfl | exact rfl | fail)
    · have c3 : decide (((bA a).length : Int) < ((bA b).length : Int)) = false := by simp only [decide_eq_false_iff_not]; omega
      have hv : cmpL a b = 0 := by rw [hI, List.drop_of_length_le (l := a) (by omega), List.drop_of_length_le (l := b) (by omega)]; rfl
      rw [hv]
      repeat' (first | refine T_seq ?_ | refine N_then ?_ | refine N_thenE ?_ | refine N_blockE ?_ | refine N_againSE ?_ | refine T_regX tyOk ?_ | refine S_nil ?_ | refine T_skip ?_ | refine T_ret ?_ | refine T_exit ?_ | (apply E_tmp; (· exact rfl); (· (repeat' (first | exact pure_int _ _ | exact pure_bool _ | exact pure_str _); done))) | (apply T_ifF; (· exact rfl); (· (first | assumption | exact rfl))) | (apply S_gtF'; (· exact rfl); (· exact rfl); (· exact rfl); (· (first | assumption | exact rfl))) | apply S_move | apply S_assign | (apply S_pickF; (· exact gt_any rfl); (· (first | assumption | exact rfl))) | apply S_lss | apply S_gtr | (apply S_len_ls; (· exact rfl); (· exact gt_any rfl)) | exact gt_any rfl | exact rfl | fail)

theorem same_cv (a b : List UInt8) (ha : a.length ≤ 4611686018427387904) (hb : b.length ≤ 4611686018427387904) : CV Tryz.prog 114 [sl1 (bA a), sl1 (bA b)] (· = .bool (decide (a = b))) := by
  refine CV_intro tyOk Tryz.func114 (by kernel_rfl) rfl 9 rfl (by simp) [.tmp 4] rfl ?_
  intro w0 ok0
  have c0 := cmp_cv a b ha hb
  have e : decide (a = b) = decide (cmpL a b = 0) := by
    by_cases h : a = b
    · rw [decide_eq_true h, decide_eq_true ((cmpL_eq a b).2 h)]
    · rw [decide_eq_false h, decide_eq_false (fun k => h ((cmpL_eq a b).1 k))]
  rw [e]
  repeat' (first | refine T_seq ?_ | refine N_then ?_ | refine T_regX tyOk ?_ | refine S_nil ?_ | refine T_ret ?_ | (apply E_tmp; (· exact rfl); (· (repeat' (first | exact pure_int _ _ | exact pure_bool _ | exact pure_str _); done))) | apply S_move | apply S_assign | (apply S_eql; (· exact gt_any rfl); (· exact gt_any rfl)) | apply S_callQ (f := 159) | apply c0 | exact viewL_nil | apply viewL_cons | (apply View.pure; exact PureC.out) | exact FlatC.out | exact gt_any rfl | exact gts_nil | (apply gts_cons; (· exact gt_any rfl)) | exact rfl | fail)

theorem equal_cv (a b : List UInt8) : CV Tryz.prog 91 [sl1 (bA a), sl1 (bA b)] (· = .bool (decide (a = b))) := by
  refine CV_intro tyOk Tryz.func91 (by kernel_rfl) rfl 10 rfl (by simp) [.tmp 4] rfl ?_
  intro w0 ok0
  have e := str_eq (bStr a) (bStr b)
  rw [strB_bStr, strB_bStr] at e
  rw [← e]
  repeat' (first | refine T_seq ?_ | refine N_then ?_ | refine T_regX tyOk ?_ | refine S_nil ?_ | refine T_ret ?_ | (apply E_tmp; (· exact rfl); (· (repeat' (first | exact pure_int _ _ | exact pure_bool _ | exact pure_str _); done))) | apply S_move | apply S_assign | (apply M_convBS; (· exact rfl); (· exact rfl); (· exact rfl); (· exact gt_any rfl); (· exact rfl)) | (apply S_strEq; (· exact gt_any rfl); (· exact gt_any rfl)) | exact gt_any rfl | exact rfl | fail)

end Go.Proofs.YtaolmfgpebncjaaGreat
