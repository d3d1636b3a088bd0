/- Rows of bytes, as the helpers of the laws take them. -/
import Derived.Test.YthfikpgbddpmoaaWj
import Derived.Test.YthfikpgbddpmoaaWt
set_option maxRecDepth 100000
set_option maxHeartbeats 3200000
set_option linter.unusedSimpArgs false
set_option linter.unusedVariables false
namespace Go.Proofs.Ythfikpgbddpmoaa
open Go.Av
attribute [local irreducible] T thenQ blockQ againQ againS WX retV retR Gt Gts GtsP okCells CV CR Av.Pure

def sumW {α : Type} (w : α → Nat) (l : List α) : Nat := (l.map w).sum
def listW {α : Type} (w : α → Nat) (l : List α) : Nat := l.length + sumW w l
def listR {α : Type} (p : α → Prop) (l : List α) : Prop := l.length ≤ 9223372036854775807 ∧ ∀ x ∈ l, p x
theorem listW_mem {α : Type} (w : α → Nat) (l : List α) {x : α} (h : x ∈ l) : l.length + w x ≤ listW w l := by
  unfold listW sumW
  induction l with
  | nil => cases h
  | cons a l ih =>
    simp only [List.map_cons, List.sum_cons, List.length_cons]
    rcases List.mem_cons.1 h with rfl | h
    · omega
    · have := ih h; omega

abbrev rowsA (ws : List (List UInt8)) : AV := sl1 (ws.map byA)
abbrev rowsW (ws : List (List UInt8)) : Nat := listW List.length ws
abbrev rowsR (ws : List (List UInt8)) : Prop := listR (fun w : List UInt8 => w.length ≤ 9223372036854775807) ws

theorem eqB_cv (x : List UInt8) (h : x.length ≤ 1048576) : CV Try.prog 52 [byA x, byA x] (· = .bool true) := by
  have h := eqByteS_cv x x (by omega)
  rw [decide_eq_true rfl] at h
  exact h

theorem eqByteSS_cv (l : List (List UInt8)) (h : listW List.length l ≤ 1048576) : CV Try.prog 95 [rowsA l, rowsA l] (· = .bool true) := by
  refine CV_intro tyOk Try.func95 (by kernel_rfl) rfl 27 rfl (by simp) [.tmp 4] rfl ?_
  intro w0 ok0
  have hl : (l.map byA).length = l.length := by simp
  have hll : l.length ≤ 1048576 := by unfold listW at h; omega
  have hc0 : (!decide (((l.map byA).length : Int) = ((l.map byA).length : Int))) = false := by simp
  repeat' (first | refine T_seq ?_ | refine N_then ?_ | refine T_regX tyOk ?_ | refine S_nil ?_ | refine T_skip ?_ | refine T_block ?_ | (apply T_ifF; (· exact rfl); (· (first | assumption | exact rfl))) | apply S_move | apply S_assign | (apply S_neq; (· exact gt_any rfl); (· exact gt_any rfl)) | (apply S_len_ls; (· exact rfl); (· exact gt_any rfl)) | exact gt_any rfl | exact rfl | fail)
  refine T_roundsS (α := Nat) (fun k => ⟨[(0, rowsA l), (1, rowsA l), (5, .int .i64 k)], [], 0⟩)
    (fun k => l.length - k) (fun k => k ≤ l.length) 0 ((weak_of (by repeat' (first | exact keepE_nil | refine keepE_cons rfl ?_)) (by repeat' (first | exact keepB_nil | refine keepB_cons (by first | rfl | exact congrArg (fun l => some (Box.mk l _ _ _)) hset) ?_)) (Nat.le_refl _))).sub (by omega) ?_
  intro k hk
  by_cases hkl : k < l.length
  · have hc : decide ((k : Int) < ((l.map byA).length : Int)) = true := by simp only [decide_eq_true_eq]; omega
    have hget := map_getD byA l [] (k := k) (by omega)
    have hkw : IntKind.wrap .i64 ((k : Int) + 1) = ((k + 1 : Nat) : Int) := by rw [wrap_i64 (by omega) (by omega)]; omega
    have hle := listW_mem List.length l (getD_mem l [] hkl)
    have c0 := eqB_cv (l.getD k []) (by omega)
    repeat' (first | refine T_seq ?_ | refine N_then ?_ | refine N_block ?_ | refine T_regX tyOk ?_ | (apply T_drawM (id := 6) 8 tyOk mixed; (· exact rfl); (· exact rfl); (· kernel_rfl); (· exact Nat.le_of_ble_eq_true rfl)) | refine S_nil ?_ | refine T_skip ?_ | refine T_block ?_ | (apply T_ifT; (· exact rfl); (· (first | assumption | exact rfl))) | (apply T_ifF; (· exact rfl); (· (first | assumption | exact rfl))) | apply S_move | apply S_assign | (apply S_loadV; (· exact rfl); (· exact gt_any rfl); (· exact rfl); (· (first | exact ⟨rfl, rfl⟩ | exact ⟨rfl, trivial⟩ | assumption))) | apply S_lss | apply S_add | apply S_not | (apply S_len_ls; (· exact rfl); (· exact gt_any rfl)) | (apply S_idxLs; (· exact rfl); (· exact rfl); (· exact gt_any rfl); (· exact gt_any rfl)) | apply S_callQ (f := 52) | apply c0 | exact viewL_nil | apply viewL_cons | (apply View.pure; exact PureC.out) | exact FlatC.out | exact gt_any rfl | exact gts_nil | (apply gts_cons; (· exact gt_any rfl)) | assumption | (refine ⟨?_, ?_⟩ <;> omega) | exact rfl | fail)
    exact N_againS (k + 1) ((weak_of (by repeat' (first | exact keepE_nil | refine keepE_cons rfl ?_)) (by repeat' (first | exact keepB_nil | refine keepB_cons (by first | rfl | exact congrArg (fun l => some (Box.mk l _ _ _)) hset) ?_)) (Nat.le_refl _))).sub (by omega) (by omega)
  · have hc : decide ((k : Int) < ((l.map byA).length : Int)) = false := by simp only [decide_eq_false_iff_not]; omega
    repeat' (first | refine T_seq ?_ | refine N_then ?_ | refine N_thenE ?_ | refine N_blockE ?_ | refine N_againSE ?_ | refine T_regX tyOk ?_ | refine S_nil ?_ | refine T_ret ?_ | refine T_exit ?_ | (apply E_tmp; (· exact rfl); (· (repeat' (first | exact pure_int _ _ | exact pure_bool _ | exact pure_str _); done))) | (apply T_ifF; (· exact rfl); (· (first | assumption | exact rfl))) | apply S_move | apply S_assign | apply S_lss | (apply S_len_ls; (· exact rfl); (· exact gt_any rfl)) | exact gt_any rfl | exact rfl | fail)

/-! the first element for which something holds -/
def fiGo {α : Type} (p : α → Bool) : List α → Nat → Int
  | [], _ => -1
  | x :: l, i => if p x = true then (i : Int) else fiGo p l (i + 1)
def idxL {α : Type} (p : α → Bool) (l : List α) : Int := fiGo p l 0
end Go.Proofs.Ythfikpgbddpmoaa
