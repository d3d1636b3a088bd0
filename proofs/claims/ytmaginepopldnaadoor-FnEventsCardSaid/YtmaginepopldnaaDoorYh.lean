/- Relayers that are drawn: what is drawn. -/
import Derived.Test.YtmaginepopldnaaDoorYa
import Derived.Test.YtmaginepopldnaaDoorWu
import Derived.Test.YtmaginepopldnaaDoorWs
set_option maxRecDepth 100000
set_option maxHeartbeats 3200000
set_option linter.unusedSimpArgs false
set_option linter.unusedVariables false
namespace Go.Proofs.YtmaginepopldnaaDoor
open Go.Av
attribute [local irreducible] T thenQ blockQ againQ againS WX retV retR Gt Gts GtsP okCells CV CR Av.Pure
attribute [local irreducible] nextV

structure Drw where
  cur : Int
  que : List Itm
  at' : Nat

def drwStep (code : List UInt8) (s : Drw) : Drw :=
  if nextV code s.at' 4 = 0 ∨ nextV code s.at' 4 = 1 then
    (if scanCode s.cur s.que (s.cur + 1) = 0 then ⟨s.cur + 1, s.que ++ [(⟨s.cur + 1, 0, 0⟩ : Itm)], s.at' + 1⟩ else ⟨s.cur, s.que, s.at' + 1⟩)
  else if nextV code s.at' 4 = 2 then
    (if tryCode s.que (1 + nextV code (s.at' + 1) 4) (nextV code (s.at' + 2) 40) = 0 then ⟨s.cur, tryQ s.que (1 + nextV code (s.at' + 1) 4) (nextV code (s.at' + 2) 40), s.at' + 3⟩ else ⟨s.cur, s.que, s.at' + 3⟩)
  else (if settleCode s.que (1 + nextV code (s.at' + 1) 4) = 0 then ⟨s.cur, settleQ s.que (1 + nextV code (s.at' + 1) 4), s.at' + 2⟩ else ⟨s.cur, s.que, s.at' + 2⟩)
def drwRuns (code : List UInt8) : Nat → Drw → Drw
  | 0, s => s
  | n + 1, s => drwRuns code n (drwStep code s)

def DrwOk (s : Drw) : Prop := 0 ≤ s.cur ∧ s.que.length ≤ 12 ∧ ∀ j, j < s.que.length → itemOk s.cur (s.que.getD j it0)

def cntItm (j : Nat) : Itm := ⟨((j + 1 : Nat) : Int), 0, 0⟩
def cntQ (n : Nat) : List Itm := (List.range n).map cntItm
def drwLast (code : List UInt8) (s : Drw) : Drw :=
  if nextV code s.at' 20 = 0 then ⟨pickV code (s.at' + 1) [-1, 1000000, 1000001, 0], s.que, s.at' + 2⟩
  else if nextV code s.at' 20 = 1 then ⟨s.cur, s.que ++ [(⟨pickV code (s.at' + 1) [0, 1, s.cur, s.cur + 1], pickV code (s.at' + 2) [0, 8, 9, -1], pickV code (s.at' + 3) [0, 2199023255552, 2199023255553, -1]⟩ : Itm)], s.at' + 4⟩
  else if nextV code s.at' 20 = 2 then (if nextV code (s.at' + 13) 2 = 1 then ⟨20, cntQ 13, s.at' + 15⟩ else ⟨20, cntQ 12, s.at' + 14⟩)
  else ⟨s.cur, s.que, s.at' + 1⟩
def drwRel (code : List UInt8) (k : Nat) : Drw := drwLast code (drwRuns code (nextV code k 8).toNat ⟨0, [], k + 1⟩)
end Go.Proofs.YtmaginepopldnaaDoor
