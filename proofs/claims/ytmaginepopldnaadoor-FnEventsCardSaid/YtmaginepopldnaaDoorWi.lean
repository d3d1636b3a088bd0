/- Results that are ledgers, and new ledgers. -/
import Derived.Test.YtmaginepopldnaaDoorWe
set_option maxRecDepth 100000
set_option maxHeartbeats 3200000
set_option linter.unusedSimpArgs false
set_option linter.unusedVariables false
namespace Go.Proofs.YtmaginepopldnaaDoor
open Go.Av
attribute [local irreducible] T thenQ blockQ againQ againS WX retV retR Gt Gts GtsP okCells CV CR Av.Pure

structure Evt where
  kind : Int
  nonce : Int
  amount : Int
  to : ByteArray

abbrev evtA (e : Evt) : AV := .agg [.int .i64 e.kind, .int .i64 e.nonce, .int .i64 e.amount, .str e.to]
abbrev ledResA (c : Int) (l : Ldg) (e : Evt) : AV := .agg [.int .i64 c, .int .i64 l.kind, .int .i64 l.sent, .int .i64 l.settled, .int .i64 l.next, sl1 (l.done.map numA), .int .i64 l.cap, .bool l.paused, .int .i64 e.kind, .int .i64 e.nonce, .int .i64 e.amount, .str e.to]
abbrev l0 : Ldg := ⟨0, 0, 0, 0, [], 0, false⟩
abbrev e0 : Evt := ⟨0, 0, 0, ⟨#[]⟩⟩

def nlCode (k lim : Int) : Int := if ¬ isKind k then 1 else if ¬ (0 ≤ lim ∧ lim ≤ 1000000000000000) then 3 else 0
def nlLdg (k lim : Int) : Ldg := if nlCode k lim = 0 then ⟨k, 0, 0, 1, [], lim, false⟩ else l0
def marksI (k : Int) (n : Nat) : List Int := (List.range n).map fun i : Nat => k + (i : Int)
end Go.Proofs.YtmaginepopldnaaDoor
