/- Ledgers, and what is held. -/
import Derived.Test.YtmaginepopldnaaDoorWc
set_option maxRecDepth 100000
set_option maxHeartbeats 3200000
set_option linter.unusedSimpArgs false
set_option linter.unusedVariables false
namespace Go.Proofs.YtmaginepopldnaaDoor
open Go.Av
attribute [local irreducible] T thenQ blockQ againQ againS WX retV retR Gt Gts GtsP okCells CV CR Av.Pure

structure Ldg where
  kind : Int
  sent : Int
  settled : Int
  next : Int
  done : List Int
  cap : Int
  paused : Bool
  deriving DecidableEq

abbrev ldgA (l : Ldg) : AV := .agg [.int .i64 l.kind, .int .i64 l.sent, .int .i64 l.settled, .int .i64 l.next, sl1 (l.done.map numA), .int .i64 l.cap, .bool l.paused]

def heldBy (l : Ldg) : Int := if l.kind = 1 then l.sent - l.settled else l.settled - l.sent

def doneStep (q : List Int) (i : Nat) : Int :=
  if ¬ (1 ≤ q.getD i 0 ∧ q.getD i 0 ≤ 1000000) then 1 else if 0 < i ∧ q.getD i 0 ≤ q.getD (i - 1) 0 then 1 else 0
def doneGo (e : Int) (q : List Int) : Nat → Nat → Int
  | 0, _ => e
  | n + 1, i => if doneStep q i = 0 then doneGo e q n (i + 1) else doneStep q i
def ledgerFault (l : Ldg) : Int :=
  if ¬ isKind l.kind then 1
  else if ¬ ((0 ≤ l.sent ∧ l.sent ≤ 1000000000000000) ∧ (0 ≤ l.settled ∧ l.settled ≤ 1000000000000000) ∧ (0 ≤ l.cap ∧ l.cap ≤ 1000000000000000) ∧ (1 ≤ l.next ∧ l.next ≤ 1000001)) then 3
  else if 60 < l.done.length then 2
  else doneGo (if 0 ≤ heldBy l ∧ heldBy l ≤ l.cap then 0 else 1) l.done l.done.length 0

end Go.Proofs.YtmaginepopldnaaDoor
