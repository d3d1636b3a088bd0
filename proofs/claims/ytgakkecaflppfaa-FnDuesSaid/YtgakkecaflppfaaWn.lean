/- Relayers in boxes of their own, and their turns. -/
import Derived.Test.YtgakkecaflppfaaWg
import Derived.Test.YtgakkecaflppfaaWkr
set_option maxRecDepth 100000
set_option maxHeartbeats 3200000
set_option linter.unusedSimpArgs false
set_option linter.unusedVariables false
namespace Go.Proofs.Ytgakkecaflppfaa
open Go.Av
attribute [local irreducible] T thenQ blockQ againQ againS WX retV retR Gt Gts GtsP okCells CV CR Av.Pure

abbrev relB (id : Nat) (c : Int) (n : Nat) : AV := .agg [.int .i64 c, .sl id 0 n n]
abbrev relResB (id : Nat) (k c : Int) (n : Nat) : AV := .agg [.int .i64 k, .int .i64 c, .sl id 0 n n]
abbrev relResA (k c : Int) (q : List Itm) : AV := .agg [.int .i64 k, .int .i64 c, sl3 (q.map itemA)]
abbrev boxR (v : AV) : Option Box := some ⟨[v], 2, false, false⟩
abbrev boxQ (q : List Itm) : Option Box := some ⟨q.map itemA, 3, true, false⟩

def findGo (n : Int) (q : List Itm) : Nat → Nat → Int
  | 0, _ => -1
  | m + 1, i => if (q.getD i it0).nonce = n then (i : Int) else findGo n q m (i + 1)
def findI (q : List Itm) (n : Int) : Int := findGo n q q.length 0

theorem findGo_range (n : Int) (q : List Itm) (m i : Nat) : findGo n q m i = -1 ∨ ((i : Int) ≤ findGo n q m i ∧ findGo n q m i < ((i + m : Nat) : Int)) := by
  induction m generalizing i with
  | zero => exact .inl rfl
  | succ m ih =>
    rw [findGo]
    split
    · right; omega
    · rcases ih (i + 1) with h | h
      · exact .inl h
      · right; omega
theorem findI_range (q : List Itm) (n : Int) : findI q n = -1 ∨ (0 ≤ findI q n ∧ findI q n < (q.length : Int)) := by
  rcases findGo_range n q q.length 0 with h | h
  · exact .inl h
  · right; unfold findI; omega

theorem l11Find_cv (c : Int) (q : List Itm) (n : Int) (h : q.length ≤ 1048576) : CV Try.prog 115 [.vp (relA c q).cells, .int .i64 n] (· = .int .i64 (findI q n)) := by
  refine CV_intro tyOk Try.func115 (by kernel_rfl) rfl 26 rfl (by simp) [.tmp 4] rfl ?_
  intro w0 ok0
  have hl : (q.map itemA).length = q.length := by simp
  have hF : findI q n = findGo n q (q.length - 0) 0 := rfl
  repeat' (first | refine T_seq ?_ | refine N_then ?_ | refine T_regX tyOk ?_ | refine S_nil ?_ | refine T_block ?_ | apply S_assign | exact gt_any rfl | exact rfl | fail)
  refine T_roundsS (α := Nat) (fun k => ⟨[(0, .vp (relA c q).cells), (1, .int .i64 n), (5, .int .i64 k)], [], 0⟩)
    (fun k => q.length - k) (fun k => k ≤ q.length ∧ findI q n = findGo n q (q.length - k) k) 0 ((weak_of (by repeat' (first | exact keepE_nil | refine keepE_cons rfl ?_)) (by repeat' (first | exact keepB_nil | refine keepB_cons (by first | rfl | exact congrArg (fun l => some (Box.mk l _ _ _)) hset) ?_)) (Nat.le_refl _))).sub ⟨by omega, hF⟩ ?_
  rintro k ⟨hk, hI⟩
  by_cases hkl : k < q.length
  · have hc : decide ((k : Int) < ((q.map itemA).length : Int)) = true := by simp only [decide_eq_true_eq]; omega
    have hget := map_getD itemA q it0 (k := k) (by omega)
    rw [show q.length - k = (q.length - (k + 1)) + 1 by omega, findGo] at hI
    by_cases he : (q.getD k it0).nonce = n
    · have hd : decide ((q.getD k it0).nonce = n) = true := by simpa using he
      rw [if_pos he] at hI
      rw [hI]
      repeat' (first | refine T_seq ?_ | refine N_then ?_ | refine N_thenR ?_ | refine N_blockR ?_ | refine N_againSR ?_ | refine T_regX tyOk ?_ | refine S_nil ?_ | refine T_skip ?_ | refine T_ret ?_ | refine T_block ?_ | (apply E_tmp; (· exact rfl); (· (repeat' (first | exact pure_int _ _ | exact pure_bool _ | exact pure_str _); done))) | (apply T_ifT; (· exact rfl); (· (first | assumption | exact rfl))) | apply S_move | apply S_assign | (apply S_loadV; (· exact rfl); (· exact gt_any rfl); (· exact rfl); (· (first | exact ⟨rfl, rfl⟩ | exact ⟨rfl, trivial⟩ | assumption))) | (apply S_fieldV; (· exact rfl); (· exact rfl); (· exact rfl); (· exact rfl); (· exact gt_any rfl)) | apply S_lss | (apply S_eql; (· exact gt_any rfl); (· exact gt_any rfl)) | (apply S_len_ls; (· exact rfl); (· exact gt_any rfl)) | (apply S_idxLs; (· exact rfl); (· exact rfl); (· exact gt_any rfl); (· exact gt_any rfl)) | (apply S_nilV; (· exact gt_any rfl)) | exact gt_any rfl | assumption | (refine ⟨?_, ?_⟩ <;> omega) | exact rfl | fail)
    · have hd : decide ((q.getD k it0).nonce = n) = false := by simpa using he
      rw [if_neg he] at hI
      have hw : IntKind.wrap .i64 ((k : Int) + 1) = ((k + 1 : Nat) : Int) := by rw [wrap_i64 (by omega) (by omega)]; omega
      repeat' (first | refine T_seq ?_ | refine N_then ?_ | refine N_block ?_ | refine T_regX tyOk ?_ | refine S_nil ?_ | refine T_skip ?_ | refine T_block ?_ | (apply T_ifT; (· exact rfl); (· (first | assumption | exact rfl))) | (apply T_ifF; (· exact rfl); (· (first | assumption | exact rfl))) | apply S_move | apply S_assign | (apply S_loadV; (· exact rfl); (· exact gt_any rfl); (· exact rfl); (· (first | exact ⟨rfl, rfl⟩ | exact ⟨rfl, trivial⟩ | assumption))) | (apply S_fieldV; (· exact rfl); (· exact rfl); (· exact rfl); (· exact rfl); (· exact gt_any rfl)) | apply S_lss | (apply S_eql; (· exact gt_any rfl); (· exact gt_any rfl)) | apply S_add | (apply S_len_ls; (· exact rfl); (· exact gt_any rfl)) | (apply S_idxLs; (· exact rfl); (· exact rfl); (· exact gt_any rfl); (· exact gt_any rfl)) | (apply S_nilV; (· exact gt_any rfl)) | exact gt_any rfl | assumption | (refine ⟨?_, ?_⟩ <;> omega) | exact rfl | fail)
      exact N_againS (k + 1) ((weak_of (by repeat' (first | exact keepE_nil | refine keepE_cons rfl ?_)) (by repeat' (first | exact keepB_nil | refine keepB_cons (by first | rfl | exact congrArg (fun l => some (Box.mk l _ _ _)) hset) ?_)) (Nat.le_refl _))).sub ⟨by omega, hI⟩ (by omega)
  · have hc : decide ((k : Int) < ((q.map itemA).length : Int)) = false := by simp only [decide_eq_false_iff_not]; omega
    obtain rfl : k = q.length := by omega
    rw [hI, Nat.sub_self]
    repeat' (first | refine T_seq ?_ | refine N_then ?_ | refine N_thenE ?_ | refine N_blockE ?_ | refine N_againSE ?_ | refine T_regX tyOk ?_ | refine S_nil ?_ | refine T_ret ?_ | refine T_exit ?_ | (apply E_tmp; (· exact rfl); (· (repeat' (first | exact pure_int _ _ | exact pure_bool _ | exact pure_str _); done))) | (apply T_ifF; (· exact rfl); (· (first | assumption | exact rfl))) | apply S_move | apply S_assign | (apply S_loadV; (· exact rfl); (· exact gt_any rfl); (· exact rfl); (· (first | exact ⟨rfl, rfl⟩ | exact ⟨rfl, trivial⟩ | assumption))) | (apply S_fieldV; (· exact rfl); (· exact rfl); (· exact rfl); (· exact rfl); (· exact gt_any rfl)) | apply S_lss | (apply S_len_ls; (· exact rfl); (· exact gt_any rfl)) | (apply S_nilV; (· exact gt_any rfl)) | exact gt_any rfl | exact rfl | fail)

end Go.Proofs.Ytgakkecaflppfaa
