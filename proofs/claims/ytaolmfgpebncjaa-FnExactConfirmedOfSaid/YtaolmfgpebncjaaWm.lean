/- Ledgers in boxes of their own, and the pause. -/
import Derived.Test.YtaolmfgpebncjaaWi
import Derived.Test.YtaolmfgpebncjaaNd
set_option maxRecDepth 100000
set_option maxHeartbeats 3200000
set_option linter.unusedSimpArgs false
set_option linter.unusedVariables false
namespace Go.Proofs.Ytaolmfgpebncjaa
open Go.Av
attribute [local irreducible] T thenQ blockQ againQ againS WX retV retR Gt Gts GtsP okCells CV CR Av.Pure

abbrev ldgB (id : Nat) (l : Ldg) : AV := .agg [.int .i64 l.kind, .int .i64 l.sent, .int .i64 l.settled, .int .i64 l.next, .sl id 0 l.done.length l.done.length, .int .i64 l.cap, .bool l.paused]
abbrev ledResB (id : Nat) (c : Int) (l : Ldg) (e : Evt) : AV := .agg [.int .i64 c, .int .i64 l.kind, .int .i64 l.sent, .int .i64 l.settled, .int .i64 l.next, .sl id 0 l.done.length l.done.length, .int .i64 l.cap, .bool l.paused, .int .i64 e.kind, .int .i64 e.nonce, .int .i64 e.amount, .str e.to]

theorem markInt64S_at (q : List Int) (k : Int) (sl : Bool) (hb : q.length ≤ 1073741824) (h0 : 0 ≤ k) (h1 : k ≤ 1152921504606846976) (id N : Nat) (hid : id < N) :
    CR Try.prog 81 [.sl id 0 q.length q.length, .int .i64 k] [(id, some ⟨q.map numA, 1, sl, false⟩)] N (Is (.int .i64 (k + q.length)) [(id, some ⟨(marksI k q.length).map numA, 1, sl, false⟩)] N) :=
  (CR.toI (markInt64S_cr q k sl hb h0 h1) [id] rfl (by simp [*] <;> omega) _ (by simp [*] <;> omega) (by repeat' (first | exact Ren.sl _ _ _ _ | exact Ren.ptr _ _ _ | exact renL_nil | apply renL_cons | (apply Ren.pure; exact PureC.out) | apply ren_agg | apply ren_tup | exact renBs_nil | (apply renBs_pure; (· exact rfl); (· exact PureEC.out)) | (apply renBs_one; (· exact rfl)))) (by repeat' (first | exact Ren.sl _ _ _ _ | exact Ren.ptr _ _ _ | exact renL_nil | apply renL_cons | (apply Ren.pure; exact PureC.out) | apply ren_agg | apply ren_tup | exact renBs_nil | (apply renBs_pure; (· exact rfl); (· exact PureEC.out)) | (apply renBs_one; (· exact rfl)))) (by omega) (by repeat' (first | exact Ren.sl _ _ _ _ | exact Ren.ptr _ _ _ | exact renL_nil | apply renL_cons | (apply Ren.pure; exact PureC.out) | apply ren_agg | apply ren_tup | exact renBs_nil | (apply renBs_pure; (· exact rfl); (· exact PureEC.out)) | (apply renBs_one; (· exact rfl)))) (by repeat' (first | exact Ren.sl _ _ _ _ | exact Ren.ptr _ _ _ | exact renL_nil | apply renL_cons | (apply Ren.pure; exact PureC.out) | apply ren_agg | apply ren_tup | exact renBs_nil | (apply renBs_pure; (· exact rfl); (· exact PureEC.out)) | (apply renBs_one; (· exact rfl)))))

abbrev ldgM (l : Ldg) (k : Int) : Ldg := ⟨l.kind, l.sent, l.settled, l.next, marksI k l.done.length, l.cap, l.paused⟩

def pzCode (l : Ldg) : Int := ledgerFault l
def pzLdg (l : Ldg) (p : Bool) : Ldg := if ledgerFault l = 0 then ⟨l.kind, l.sent, l.settled, l.next, l.done, l.cap, p⟩ else l0

end Go.Proofs.Ytaolmfgpebncjaa
