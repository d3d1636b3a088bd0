/- Faults of relayers, and the item that is due. -/
import Derived.Test.YtmaginepopldnaaDoorWf
set_option maxRecDepth 100000
set_option maxHeartbeats 3200000
set_option linter.unusedSimpArgs false
set_option linter.unusedVariables false
namespace Go.Proofs.YtmaginepopldnaaDoor
open Go.Av
attribute [local irreducible] T thenQ blockQ againQ againS WX retV retR Gt Gts GtsP okCells CV CR Av.Pure

def itemOk (c : Int) (x : Itm) : Prop := (1 ≤ x.nonce ∧ x.nonce ≤ c) ∧ (0 ≤ x.tries ∧ x.tries ≤ 8) ∧ (0 ≤ x.after ∧ x.after ≤ 2199023255552)
instance (c : Int) (x : Itm) : Decidable (itemOk c x) := by unfold itemOk; infer_instance

def relStep (c : Int) (q : List Itm) (i : Nat) : Int :=
  if ¬ itemOk c (q.getD i it0) then 3
  else if 0 < i ∧ (q.getD i it0).nonce ≤ (q.getD (i - 1) it0).nonce then 1 else 0
def relGo (c : Int) (q : List Itm) : Nat → Nat → Int
  | 0, _ => 0
  | n + 1, i => if relStep c q i = 0 then relGo c q n (i + 1) else relStep c q i
def relFault (c : Int) (q : List Itm) : Int :=
  if ¬ (0 ≤ c ∧ c ≤ 1000000) then 3 else if 12 < q.length then 2 else relGo c q q.length 0

end Go.Proofs.YtmaginepopldnaaDoor
