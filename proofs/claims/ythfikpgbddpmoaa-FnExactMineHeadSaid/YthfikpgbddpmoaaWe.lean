/- What a ledger holds. -/
import Derived.Test.YthfikpgbddpmoaaWd
set_option maxRecDepth 100000
set_option maxHeartbeats 3200000
set_option linter.unusedSimpArgs false
set_option linter.unusedVariables false
namespace Go.Proofs.Ythfikpgbddpmoaa
open Go.Av
attribute [local irreducible] T thenQ blockQ againQ againS WX retV retR Gt Gts GtsP okCells CV CR Av.Pure

/-- A count, or why there is none. -/
abbrev intRes (f n : Int) : AV := .agg [.int .i64 f, .int .i64 n]

theorem ledgerFault_ok {l : Ldg} (h : ledgerFault l = 0) : isKind l.kind = true ∧ (0 ≤ l.sent ∧ l.sent ≤ 1000000000000000) ∧ (0 ≤ l.settled ∧ l.settled ≤ 1000000000000000) ∧ (0 ≤ l.cap ∧ l.cap ≤ 1000000000000000) ∧ (1 ≤ l.next ∧ l.next ≤ 1000001) ∧ l.done.length ≤ 60 := by
  unfold ledgerFault at h
  split at h
  · cases h
  · split at h
    · cases h
    · split at h
      · cases h
      · rename_i h1 h2 h3
        exact ⟨by simpa using h1, by omega, by omega, by omega, by omega, by omega⟩

def heldVal (l : Ldg) : Int := if ledgerFault l = 0 then heldBy l else 0

end Go.Proofs.Ythfikpgbddpmoaa
