/- Numbers and records, read by value. -/
import Derived.Test.YtmaginepopldnaaDoorYn
import Derived.Test.YtmaginepopldnaaDoorXj
import Derived.Test.YtmaginepopldnaaDoorWc
set_option maxRecDepth 100000
set_option maxHeartbeats 3200000
set_option linter.unusedSimpArgs false
set_option linter.unusedVariables false
namespace Go.Proofs.YtmaginepopldnaaDoor
open Go.Av
attribute [local irreducible] T thenQ blockQ againQ againS WX retV retR Gt Gts GtsP okCells CV CR Av.Pure

def numV (l : List UInt8) : Nat := l.foldl (fun a b => a * 256 + b.toNat) 0
theorem numV_snoc (l : List UInt8) (b : UInt8) : numV (l ++ [b]) = numV l * 256 + b.toNat := by simp [numV, List.foldl_append]
theorem numV_step (l : List UInt8) {k : Nat} (h : k < l.length) : numV (l.take (k + 1)) = numV (l.take k) * 256 + (l.getD k 0).toNat := by
  rw [List.take_succ_eq_append_getElem h, numV_snoc, List.getD_eq_getElem?_getD, List.getElem?_eq_getElem h]; rfl
theorem numV_take (l : List UInt8) : ∀ k, k ≤ l.length → numV (l.take k) < 256 ^ k
  | 0, _ => by simp [numV]
  | k + 1, h => by
    have ih := numV_take l k (by omega)
    have hb := (l.getD k 0).toNat_lt
    rw [numV_step l (by omega), Nat.pow_succ]
    omega
theorem numV_put {n : Int} (h0 : 0 ≤ n) (h1 : n ≤ 1099511627776) : (numV (putN n) : Int) = n := by
  have e0 := byteOf_int (n.fdiv (2 ^ 48))
  have e1 := byteOf_int (n.fdiv (2 ^ 40))
  have e2 := byteOf_int (n.fdiv (2 ^ 32))
  have e3 := byteOf_int (n.fdiv (2 ^ 24))
  have e4 := byteOf_int (n.fdiv (2 ^ 16))
  have e5 := byteOf_int (n.fdiv (2 ^ 8))
  have e6 := byteOf_int n
  rw [Int.fdiv_eq_ediv_of_nonneg _ (by decide)] at e0 e1 e2 e3 e4 e5
  unfold numV putN
  simp only [List.foldl_cons, List.foldl_nil]
  rw [Int.fdiv_eq_ediv_of_nonneg _ (by decide), Int.fdiv_eq_ediv_of_nonneg _ (by decide), Int.fdiv_eq_ediv_of_nonneg _ (by decide), Int.fdiv_eq_ediv_of_nonneg _ (by decide), Int.fdiv_eq_ediv_of_nonneg _ (by decide), Int.fdiv_eq_ediv_of_nonneg _ (by decide)]
  omega

theorem or_byte (v b : Nat) (hv : v < 281474976710656) (hb : b < 256) : bits .or .i64 ((v * 256 : Nat) : Int) (b : Int) = ((v * 256 + b : Nat) : Int) := by
  rw [bits64 .or (· ||| ·) (· ||| ·) _ _ (by omega) (by omega) rfl (fun u v => BitVec.toNat_or ..) (by
    have := Nat.two_pow_add_eq_or_of_lt (i := 8) hb v
    rw [show v * 256 = 2 ^ 8 * v by omega, ← this]
    omega)]
  have := Nat.two_pow_add_eq_or_of_lt (i := 8) hb v
  rw [show v * 256 = 2 ^ 8 * v by omega, this]

theorem numberOf_cv (l : List UInt8) (hl : l.length = 7) : CV Tryd.prog 38 [sl1 (bA l)] (· = .agg [.int .i64 0, .int .i64 (numV l : Int)]) := by
  refine CV_intro tyOk Tryd.func38 (by kernel_rfl) rfl 24 rfl (by simp) [.cell 2 54] rfl ?_
  intro w0 ok0
  have hb := bA_length l
  have d : (!decide (((bA l).length : Int) = 7)) = false := by rw [decide_eq_true (by omega)]; rfl
  repeat' (first | refine T_seq ?_ | refine N_then ?_ | refine T_regX tyOk ?_ | refine S_nil ?_ | refine T_skip ?_ | refine T_block ?_ | (apply T_ifF; (· exact rfl); (· (first | assumption | exact rfl))) | apply S_move | apply S_assign | (apply S_neq; (· exact gt_any rfl); (· exact gt_any rfl)) | (apply S_len_ls; (· exact rfl); (· exact gt_any rfl)) | apply S_alloc | exact gt_any rfl | exact okCells_of rfl rfl | exact rfl | fail)
  refine T_roundsS (α := Nat) (fun i => ⟨[(2, .ptr 0 0 0), (10, sl1 (bA l)), (11, .int .i64 ((bA l).length : Int)), (3, .int .i64 (numV (l.take i) : Int)), (12, .int .i64 i)], [(0, some ⟨[.agg [.int .i64 0, .int .i64 0]], 2, false, false⟩)], 1⟩)
    (fun i => 7 - i) (fun i => i ≤ 7) 0 ((weak_of (by repeat' (first | exact keepE_nil | refine keepE_cons rfl ?_)) (by repeat' (first | exact keepB_nil | refine keepB_cons (by first | rfl | exact congrArg (fun l => some (Box.mk l _ _ _)) hset) ?_)) (Nat.le_refl _))).sub (by omega) ?_
  intro i hi
  by_cases h : i < 7
  · have d1 : decide ((i : Int) < ((bA l).length : Int)) = true := decide_eq_true (by omega)
    have hg := bA_getD l (k := i) (by omega)
    have hs := numV_step l (k := i) (by omega)
    have hv := numV_take l i (by omega)
    have hp : (256 : Nat) ^ i ≤ 281474976710656 := by
      rcases (by omega : i = 0 ∨ i = 1 ∨ i = 2 ∨ i = 3 ∨ i = 4 ∨ i = 5 ∨ i = 6) with q | q | q | q | q | q | q <;> subst q <;> decide
    have hbl := (l.getD i 0).toNat_lt
    have ho := or_byte (numV (l.take i)) (l.getD i 0).toNat (by omega) hbl
    rw [← hs] at ho
    generalize numV (l.take i) = v1 at *
    generalize l.getD i 0 = b at *
    have hsh : IntKind.wrap .i64 ((v1 : Int) * 2 ^ min (8 : Int).toNat (IntKind.bits .i64)) = ((v1 * 256 : Nat) : Int) := by
      rw [show (2 : Int) ^ min (8 : Int).toNat (IntKind.bits .i64) = 256 by decide, wrap_i64 (by omega) (by omega)]; omega
    have hcv : IntKind.wrap .i64 (b.toNat : Int) = (b.toNat : Int) := wrap_i64 (by omega) (by omega)
    have hw : IntKind.wrap .i64 ((i : Int) + 1) = ((i + 1 : Nat) : Int) := by rw [wrap_i64 (by omega) (by omega)]; omega
    repeat' (first | refine T_seq ?_ | refine N_then ?_ | refine N_block ?_ | refine T_regX tyOk ?_ | refine S_nil ?_ | refine T_skip ?_ | refine T_block ?_ | (apply T_ifT; (· exact rfl); (· (first | assumption | exact rfl))) | apply S_move | apply S_assign | (apply S_loadV; (· exact rfl); (· exact gt_any rfl); (· exact rfl); (· (first | exact ⟨rfl, rfl⟩ | exact ⟨rfl, trivial⟩ | assumption))) | apply S_lss | apply S_add | (apply S_conv; (· exact rfl); (· exact rfl); (· exact gt_any rfl)) | apply S_shlW | (apply S_idxLs; (· exact rfl); (· exact rfl); (· exact gt_any rfl); (· exact gt_any rfl)) | (apply S_bits; (· (first | exact Or.inl rfl | exact Or.inr (Or.inl rfl) | exact Or.inr (Or.inr (Or.inl rfl)) | exact Or.inr (Or.inr (Or.inr rfl))))) | exact gt_any rfl | assumption | (refine ⟨?_, ?_⟩ <;> omega) | omega | exact rfl | fail)
    exact N_againS (i + 1) ((weak_of (by repeat' (first | exact keepE_nil | refine keepE_cons rfl ?_)) (by repeat' (first | exact keepB_nil | refine keepB_cons (by first | rfl | exact congrArg (fun l => some (Box.mk l _ _ _)) hset) ?_)) (Nat.le_refl _))).sub (by omega) (by omega)
  · have d1 : decide ((i : Int) < ((bA l).length : Int)) = false := decide_eq_false (by omega)
    obtain rfl : i = 7 := by omega
    have ht : l.take 7 = l := List.take_of_length_le (by omega)
    rw [ht]
    repeat' (first | refine T_seq ?_ | refine N_then ?_ | refine N_thenE ?_ | refine N_blockE ?_ | refine N_againSE ?_ | refine T_regX tyOk ?_ | refine S_nil ?_ | refine T_ret ?_ | refine T_exit ?_ | (apply E_X <;> repeat' (first | exact resL_nil | (apply resL_tmp; (· exact rfl)) | (apply resL_cell; (· exact rfl); (· exact rfl); (· exact rfl); (· exact rfl); (· exact rfl); (· exact rfl)) | (apply resL_arr; (· exact rfl); (· exact rfl); (· exact rfl); (· exact rfl); (· (first | assumption | exact rfl))) | exact viewL_nil | apply viewL_cons | apply view_nothingE | (apply view_slE; (· exact rfl); (· first | exact rfl | assumption | (simp [bA_length]; done) | (simp [bA_length]; omega) | omega); (· exact PureEC.out)) | (apply view_loose; (· exact PureEC.out)) | apply view_agg | apply view_tup | (apply View.ofEq; (· exact PureC.out)) | exact rfl)) | (apply T_ifF; (· exact rfl); (· (first | assumption | exact rfl))) | apply S_move | apply S_lss | (apply S_store1; (· exact rfl); (· exact gt_any rfl); (· exact rfl); (· exact rfl); (· exact rfl); (· exact rfl)) | (apply S_build; (· exact rfl); (· exact rfl); (· exact rfl); (· (repeat' (first | exact gtsP_nil | exact gt_any rfl | apply gtsP_cons))); (· (repeat' (first | exact BuildR.nil _ | (apply BuildR.cons; (· exact rfl); (· exact rfl); (· exact rfl); (· exact rfl); (· (first | nofun | assumption)); (· (repeat' constructor))))))) | exact gt_any rfl | exact okCells_of rfl rfl | exact rfl | fail)

end Go.Proofs.YtmaginepopldnaaDoor
