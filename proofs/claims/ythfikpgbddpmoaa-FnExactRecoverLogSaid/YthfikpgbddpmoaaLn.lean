/- The law of RecoverLog. -/
import Derived.Test.YthfikpgbddpmoaaXl
import Derived.Test.YthfikpgbddpmoaaWt
set_option maxRecDepth 100000
set_option maxHeartbeats 3200000
set_option linter.unusedSimpArgs false
set_option linter.unusedVariables false
namespace Go.Proofs.Ythfikpgbddpmoaa
open Go.Av
attribute [local irreducible] T thenQ blockQ againQ againS WX retV retR Gt Gts GtsP okCells CV CR Av.Pure

theorem law_RecoverLog (a b : List UInt8) (ha : a.length ≤ 9223372036854775807) (hb : b.length ≤ 9223372036854775807) : CV Try.prog 5 [logA a b] (· = .bool true) := by
  refine CV_intro tyOk Try.func5 (by kernel_rfl) rfl 69 rfl (by simp) [.tmp 2] rfl ?_
  intro w0 ok0
  have c0 := szLog_cv a b 1048576 ha hb (by decide) (by decide)
  generalize hs : (if (1048576 : Int) - a.length < 0 ∨ (1048576 : Int) - a.length - b.length < 0 then (-1 : Int) else 1048576 - a.length - b.length) = s at c0
  by_cases hc : s < 0
  · have hd : decide (s < 0) = true := by simpa using hc
    repeat' (first | refine T_seq ?_ | refine N_then ?_ | refine N_thenR ?_ | refine T_regX tyOk ?_ | refine S_nil ?_ | refine T_ret ?_ | (apply E_tmp; (· exact rfl); (· (repeat' (first | exact pure_int _ _ | exact pure_bool _ | exact pure_str _); done))) | (apply T_ifT; (· exact rfl); (· (first | assumption | exact rfl))) | apply S_move | apply S_assign | (apply S_loadW; (· exact rfl); (· exact gt_any rfl); (· exact rfl); (· exact rfl); (· exact rfl); (· exact rfl); (· exact rfl); (· exact rfl)) | apply S_lss | apply S_box | apply S_callQ (f := 26) | apply c0 | exact viewL_nil | apply viewL_cons | (apply View.pure; exact PureC.out) | exact FlatC.out | exact gt_any rfl | exact gts_nil | (apply gts_cons; (· exact gt_any rfl)) | exact okCells_of rfl rfl | exact rfl | fail)
  · have hd : decide (s < 0) = false := by simpa using hc
    have hab : a.length + b.length ≤ 1048576 := by split at hs <;> omega
    have ha' : a.length ≤ 1048576 := by omega
    have hb' : b.length ≤ 1048576 := by omega
    have hr : (rcOut a b).length ≤ 1048576 := by unfold rcOut; split <;> simp <;> omega
    have a1 := fun N => toLog_cr a b ha' hb' N
    have a2 := specRecoverLog_cv a b ha' hb'
    have a3 := fun N => implRecoverLog_cr a b ha' hb' N
    generalize rcCode a b = k at *
    generalize rcOut a b = r at *
    have e3 : decide ((1 : Int) + (a.length : Int) + (b.length : Int) < 0) = false := by simp; omega
    have e4 : decide ((1 : Int) + (r.length : Int) + ((0 : Nat) : Int) < 0) = false := by simp; omega
    have e5 : (!decide ((1 : Int) + (r.length : Int) + ((0 : Nat) : Int) = 1 + (r.length : Int) + ((0 : Nat) : Int))) = false := by simp
    have hm : r.length = (bA r).length := by rw [bA_length]
    have hm2 : r.length = (bA (marksB 1 r.length)).length := by rw [bA_length, marksB_length]
    have hm3 : a.length = (bA a).length := by rw [bA_length]
    have hm4 : b.length = (bA b).length := by rw [bA_length]
    have c1 := eqLogResult_cv k k r [] r [] rfl rfl rfl (by omega) (by decide)
    have c2 := eqLog_cv a b a b rfl rfl (by omega) (by omega)
    have c3 := fun (i j N : Nat) (hi : i < N) (hj : j < N) (hij : i ≠ j) => markLog_at a b 1 false (by omega) (by omega) (by decide) (by decide) i j N hi hj hij
    have c4 := fun (i j N : Nat) (hi : i < N) (hj : j < N) (hij : i ≠ j) => markLogResult_at k r [] 1 (by omega) (by decide) (by decide) (by decide) i j N hi hj hij
    have c5 := heldLogResult_cv k r.length 0 1 (by omega) (by decide) (by decide) (by decide)
    repeat' (first | refine T_seq ?_ | refine N_then ?_ | refine T_regX tyOk ?_ | (apply T_drawM (id := 10) 3 tyOk mixed; (· exact rfl); (· exact rfl); (· kernel_rfl); (· exact Nat.le_of_ble_eq_true rfl)) | refine S_nil ?_ | refine T_skip ?_ | refine T_ret ?_ | (apply E_tmp; (· exact rfl); (· (repeat' (first | exact pure_int _ _ | exact pure_bool _ | exact pure_str _); done))) | (apply T_ifF; (· exact rfl); (· (first | assumption | exact rfl))) | (apply S_gf; (· exact rfl); (· exact rfl); (· (first | assumption | exact rfl))) | apply S_move | apply S_assign | (apply S_pickF; (· exact gt_any rfl); (· (first | assumption | exact rfl))) | (apply S_loadW; (· exact rfl); (· exact gt_any rfl); (· exact rfl); (· exact rfl); (· exact rfl); (· exact rfl); (· exact rfl); (· exact rfl)) | apply S_lss | (apply S_neq; (· exact gt_any rfl); (· exact gt_any rfl)) | apply S_not | apply S_alloc | apply S_box | (apply S_store1; (· exact rfl); (· exact gt_any rfl); (· exact rfl); (· exact rfl); (· exact rfl); (· exact rfl)) | apply S_callQ (f := 26) | apply c0 | apply S_callI (f := 28) | apply a1 | apply S_callW (f := 27) | apply a2 | apply S_callI (f := 25) | apply a3 | apply S_callQ (f := 29) | apply c1 | apply S_callQ (f := 30) | apply c2 | (apply S_callL ([4, 5]) (f := 31); (· repeat' (first | exact gts_nil | exact gt_any rfl | apply gts_cons)); (· exact rfl); (· (apply c3) <;> first | assumption | decide | omega)) | (apply S_callL ([7, 8]) (f := 32); (· repeat' (first | exact gts_nil | exact gt_any rfl | apply gts_cons)); (· exact rfl); (· (apply c4) <;> first | assumption | decide | omega)) | apply S_callQ (f := 33) | apply c5 | apply S_call (f := 28) | apply toLog_cv | exact viewL_nil | apply viewL_cons | (apply View.pure; exact PureC.out) | (apply view_slM; (· exact rfl); (· (apply mlen; first | exact rfl | assumption | exact Nat.le_of_ble_eq_true rfl | omega | (simp [bA_length]; done) | (simp [bA_length]; omega))); (· exact PureEC.out)) | apply view_agg | exact FlatC.out | exact OwnC.out | exact ownB_nil | (apply ownB_boxM; (· (apply mlen; first | exact rfl | assumption | exact Nat.le_of_ble_eq_true rfl | omega | (simp [bA_length]; done) | (simp [bA_length]; omega))); (· exact OwnEC.out)) | exact PureLC.out | exact gt_any rfl | exact gts_nil | (apply gts_cons; (· exact gt_any rfl)) | exact okCells_of rfl rfl | assumption | exact rfl | fail)

theorem isLog {x : AV} (h : TyV ty 44 x) : ∃ a b : List UInt8, x = logA a b ∧ a.length ≤ 9223372036854775807 ∧ b.length ≤ 9223372036854775807 := by
  obtain ⟨h1, h2⟩ := inv_leafs h (l := [22, 22]) rfl
  have h3 := h.2.2.1 ⟨_, rfl, rfl⟩
  generalize x.cells = cs at h1 h2 h3
  subst h3
  match cs, h1 with
  | [a, b], _ =>
    obtain ⟨ei, xs, e1, rfl, e2, e3⟩ := h2 0 _ _ rfl rfl
    obtain ⟨fi, ys, f1, rfl, f2, f3⟩ := h2 1 _ _ rfl rfl
    obtain rfl := Option.some.inj e1
    obtain rfl := Option.some.inj f1
    obtain ⟨q, rfl⟩ := bytes_of rfl rfl rfl xs e3
    obtain ⟨r, rfl⟩ := bytes_of rfl rfl rfl ys f3
    rw [bA_length] at e2 f2
    exact ⟨q, r, rfl, e2, f2⟩

end Go.Proofs.Ythfikpgbddpmoaa
