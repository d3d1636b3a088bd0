/- Numbers out of bytes. -/
import Derived.Test.YtmaginepopldnaaDoorWc
set_option maxRecDepth 100000
set_option maxHeartbeats 3200000
set_option linter.unusedSimpArgs false
set_option linter.unusedVariables false
namespace Go.Proofs.YtmaginepopldnaaDoor
open Go.Av
attribute [local irreducible] T thenQ blockQ againQ againS WX retV retR Gt Gts GtsP okCells CV CR Av.Pure

def numN (bs : List UInt8) : Nat := bs.foldl (fun n b => n * 256 + b.toNat) 0
theorem numN_snoc (bs : List UInt8) (b : UInt8) : numN (bs ++ [b]) = numN bs * 256 + b.toNat := by simp [numN, List.foldl_append]
theorem numN_go : ∀ (bs : List UInt8) (n : Nat), bs.foldl (fun n b => n * 256 + b.toNat) n < (n + 1) * 256 ^ bs.length
  | [], n => by simp
  | b :: bs, n => by
    have hb := UInt8.toNat_lt b
    have ih := numN_go bs (n * 256 + b.toNat)
    rw [List.foldl_cons, List.length_cons, Nat.pow_succ]
    have h1 : n * 256 + b.toNat + 1 ≤ (n + 1) * 256 := by omega
    have h2 := Nat.mul_le_mul_right (256 ^ bs.length) h1
    have h3 : (n + 1) * 256 * 256 ^ bs.length = (n + 1) * (256 ^ bs.length * 256) := by rw [Nat.mul_assoc, Nat.mul_comm 256]
    omega
theorem numN_lt (bs : List UInt8) : numN bs < 256 ^ bs.length := by
  have := numN_go bs 0
  rw [Nat.zero_add, Nat.one_mul] at this
  exact this
theorem numN_take (bs : List UInt8) {k : Nat} (h : k < bs.length) : numN (bs.take (k + 1)) = numN (bs.take k) * 256 + (bs.getD k 0).toNat := by
  rw [show bs.take (k + 1) = bs.take k ++ [bs.getD k 0] by rw [List.take_add_one, List.getElem?_eq_getElem h, List.getD_eq_getElem?_getD, List.getElem?_eq_getElem h]; rfl, numN_snoc]

theorem l1Number_cv (bs : List UInt8) (h : bs.length ≤ 7) : CV Tryd.prog 36 [sl1 (bA bs)] (· = .int .i64 (numN bs : Int)) := by
  refine CV_intro tyOk Tryd.func36 (by kernel_rfl) rfl 20 rfl (by simp) [.tmp 2] rfl ?_
  intro w0 ok0
  have hl := bA_length bs
  repeat' (first | refine T_seq ?_ | refine N_then ?_ | refine T_regX tyOk ?_ | refine S_nil ?_ | refine T_block ?_ | apply S_assign | exact gt_any rfl | exact rfl | fail)
  refine T_roundsS (α := Nat) (fun k => ⟨[(0, sl1 (bA bs)), (3, .int .i64 (numN (bs.take k) : Int)), (4, .int .i64 k)], [], 0⟩)
    (fun k => bs.length - k) (fun k => k ≤ bs.length) 0 ((weak_of (by repeat' (first | exact keepE_nil | refine keepE_cons rfl ?_)) (by repeat' (first | exact keepB_nil | refine keepB_cons (by first | rfl | exact congrArg (fun l => some (Box.mk l _ _ _)) hset) ?_)) (Nat.le_refl _))).sub (by omega) ?_
  intro k hk
  by_cases hkl : k < bs.length
  · have hc : decide ((k : Int) < ((bA bs).length : Int)) = true := by simp only [decide_eq_true_eq]; omega
    have hget := bA_getD bs hkl
    have hn := numN_lt (bs.take k)
    have hn' : 256 ^ (bs.take k).length ≤ 256 ^ 6 := Nat.pow_le_pow_right (by decide) (by rw [List.length_take]; omega)
    have hs := numN_take bs hkl
    have hbt := UInt8.toNat_lt (bs.getD k 0)
    have w1 : IntKind.wrap .i64 ((numN (bs.take k) : Int) * 256) = ((numN (bs.take k) * 256 : Nat) : Int) := by rw [wrap_i64 (by omega) (by omega)]; omega
    have w2 : IntKind.wrap .i64 (((bs.getD k 0).toNat : Int)) = ((bs.getD k 0).toNat : Int) := wrap_i64 (by omega) (by omega)
    have w3 : IntKind.wrap .i64 (((numN (bs.take k) * 256 : Nat) : Int) + ((bs.getD k 0).toNat : Int)) = (numN (bs.take (k + 1)) : Int) := by rw [hs, wrap_i64 (by omega) (by omega)]; omega
    have w4 : IntKind.wrap .i64 ((k : Int) + 1) = ((k + 1 : Nat) : Int) := by rw [wrap_i64 (by omega) (by omega)]; omega
    repeat' (first | refine T_seq ?_ | refine N_then ?_ | refine N_block ?_ | refine T_regX tyOk ?_ | refine S_nil ?_ | refine T_skip ?_ | refine T_block ?_ | (apply T_ifT; (· exact rfl); (· (first | assumption | exact rfl))) | apply S_move | apply S_assign | (apply S_loadV; (· exact rfl); (· exact gt_any rfl); (· exact rfl); (· (first | exact ⟨rfl, rfl⟩ | exact ⟨rfl, trivial⟩ | assumption))) | apply S_lss | apply S_add | apply S_mul | (apply S_conv; (· exact rfl); (· exact rfl); (· exact gt_any rfl)) | (apply S_len_ls; (· exact rfl); (· exact gt_any rfl)) | (apply S_idxLs; (· exact rfl); (· exact rfl); (· exact gt_any rfl); (· exact gt_any rfl)) | exact gt_any rfl | assumption | (refine ⟨?_, ?_⟩ <;> omega) | exact rfl | fail)
    exact N_againS (k + 1) ((weak_of (by repeat' (first | exact keepE_nil | refine keepE_cons rfl ?_)) (by repeat' (first | exact keepB_nil | refine keepB_cons (by first | rfl | exact congrArg (fun l => some (Box.mk l _ _ _)) hset) ?_)) (Nat.le_refl _))).sub (by omega) (by omega)
  · have hc : decide ((k : Int) < ((bA bs).length : Int)) = false := by simp only [decide_eq_false_iff_not]; omega
    obtain rfl : k = bs.length := by omega
    rw [List.take_length]
    repeat' (first | refine T_seq ?_ | refine N_then ?_ | refine N_thenE ?_ | refine N_blockE ?_ | refine N_againSE ?_ | refine T_regX tyOk ?_ | refine S_nil ?_ | refine T_ret ?_ | refine T_exit ?_ | (apply E_tmp; (· exact rfl); (· (repeat' (first | exact pure_int _ _ | exact pure_bool _ | exact pure_str _); done))) | (apply T_ifF; (· exact rfl); (· (first | assumption | exact rfl))) | apply S_move | apply S_assign | apply S_lss | (apply S_len_ls; (· exact rfl); (· exact gt_any rfl)) | exact gt_any rfl | exact rfl | fail)

end Go.Proofs.YtmaginepopldnaaDoor
