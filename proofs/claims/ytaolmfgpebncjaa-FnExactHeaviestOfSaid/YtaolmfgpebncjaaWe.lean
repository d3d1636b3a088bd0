/- What a ledger holds. -/
import Derived.Test.YtaolmfgpebncjaaWd
set_option maxRecDepth 100000
set_option maxHeartbeats 3200000
set_option linter.unusedSimpArgs false
set_option linter.unusedVariables false
namespace Go.Proofs.Ytaolmfgpebncjaa
open Go.Av
attribute [local irreducible] T thenQ blockQ againQ againS WX retV retR Gt Gts GtsP okCells CV CR Av.Pure

/-- A count, or why there is none. -/
abbrev intRes (f n : Int) : AV := .agg [.int .i64 f, .int .i64 n]

theorem eqIntResult_cv (f n f' n' : Int) : CV Try.prog 17 [intRes f n, intRes f' n'] (· = .bool (decide (f = f') && decide (n = n'))) := by
  refine CV_intro tyOk Try.func17 (by kernel_rfl) rfl 15 rfl (by simp) [.tmp 4] rfl ?_
  intro w0 ok0
  repeat' (first | refine T_seq ?_ | refine N_then ?_ | refine N_thenR ?_ | refine N_thenE ?_ | refine N_block ?_ | refine N_blockR ?_ | refine N_blockE ?_ | refine N_blockX rfl ?_ | refine N_againR ?_ | refine N_againE ?_ | refine N_againSR ?_ | refine N_againSE ?_ | refine T_regX tyOk ?_ | (apply T_drawAll tyOk mixed; (· kernel_rfl)) | refine S_nil ?_ | refine T_skip ?_ | refine T_ret ?_ | refine T_exit ?_ | refine T_block ?_ | (apply E_tmp; (· exact rfl); (· (repeat' (first | exact pure_int _ _ | exact pure_bool _ | exact pure_str _); done))) | (apply E_tmpN; (· exact rfl); (· (repeat' (first | exact pure_int _ _ | exact pure_bool _ | exact pure_str _); done))) | (apply T_ifT; (· exact rfl); (· (first | assumption | exact rfl))) | (apply T_ifF; (· exact rfl); (· (first | assumption | exact rfl))) | refine T_if rfl (fun _ => ?_) (fun _ => ?_) | apply S_assign | (apply S_loadP; (· exact rfl); (· exact gt_any rfl); (· exact rfl); (· exact rfl); (· exact rfl); (· (first | exact ⟨rfl, rfl⟩ | exact ⟨rfl, trivial⟩ | assumption))) | (apply S_loadW; (· exact rfl); (· exact gt_any rfl); (· exact rfl); (· exact rfl); (· exact rfl); (· exact rfl); (· exact rfl); (· exact rfl)) | (apply M_loadA; (· exact rfl); (· exact rfl); (· exact gt_any rfl); (· exact rfl); (· exact rfl); (· (repeat' constructor))) | (apply S_loadV; (· exact rfl); (· exact gt_any rfl); (· exact rfl); (· (first | exact ⟨rfl, rfl⟩ | exact ⟨rfl, trivial⟩ | assumption))) | (apply S_loadVA; (· exact rfl); (· exact gt_any rfl); (· exact rfl); (· exact rfl)) | (apply M_loadVA; (· exact rfl); (· exact rfl); (· exact gt_any rfl); (· (repeat' constructor))) | (apply S_fieldP; (· exact rfl); (· exact rfl); (· exact rfl); (· exact rfl); (· exact gt_any rfl)) | (apply S_fieldV; (· exact rfl); (· exact rfl); (· exact rfl); (· exact rfl); (· exact gt_any rfl)) | (apply S_neq; (· exact gt_any rfl); (· exact gt_any rfl)) | apply S_box | (apply S_boolNe; (· exact rfl); (· exact gt_any rfl); (· exact gt_any rfl)) | (apply S_strNe; (· exact gt_any rfl); (· exact gt_any rfl)) | exact gt_any rfl | exact gts_nil | (apply gts_cons; (· exact gt_any rfl)) | exact okCells_of rfl rfl | assumption | (apply wrap_i64; (· omega); (· omega)) | (apply wrap_u8; (· omega); (· omega)) | exact Nat.le_of_ble_eq_true rfl | (refine ⟨?_, ?_⟩ <;> omega) | omega | exact rfl | fail)
  all_goals (first | rfl | (simp_all; done) | (simp_all; omega))

theorem ledgerFault_ok {l : Ldg} (h : ledgerFault l = 0) : isKind l.kind = true ∧ (0 ≤ l.sent ∧ l.sent ≤ 1000000000000000) ∧ (0 ≤ l.settled ∧ l.settled ≤ 1000000000000000) ∧ (0 ≤ l.cap ∧ l.cap ≤ 1000000000000000) ∧ (1 ≤ l.next ∧ l.next ≤ 1000001) ∧ l.done.length ≤ 60 := by
  unfold ledgerFault at h
  split at h
  · cases h
  · split at h
    · cases h
    · split at h
      · cases h
      · rename_i h1 h2 h3
        exact ⟨by simpa using h1, by omega, by omega, by omega, by omega, by omega⟩

def heldVal (l : Ldg) : Int := if ledgerFault l = 0 then heldBy l else 0

end Go.Proofs.Ytaolmfgpebncjaa
