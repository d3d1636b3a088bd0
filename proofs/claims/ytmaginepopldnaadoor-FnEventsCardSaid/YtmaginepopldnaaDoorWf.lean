/- Items of a relayer. -/
import Derived.Test.YtmaginepopldnaaDoorWe
set_option maxRecDepth 100000
set_option maxHeartbeats 3200000
set_option linter.unusedSimpArgs false
set_option linter.unusedVariables false
namespace Go.Proofs.YtmaginepopldnaaDoor
open Go.Av
attribute [local irreducible] T thenQ blockQ againQ againS WX retV retR Gt Gts GtsP okCells CV CR Av.Pure

structure Itm where
  nonce : Int
  tries : Int
  after : Int
  deriving DecidableEq

abbrev it0 : Itm := ⟨0, 0, 0⟩

abbrev itemA (x : Itm) : AV := .agg [.int .i64 x.nonce, .int .i64 x.tries, .int .i64 x.after]

abbrev sl3 (xs : List AV) : AV := .ls 3 true false xs

abbrev relA (c : Int) (q : List Itm) : AV := .agg [.int .i64 c, sl3 (q.map itemA)]

instance : ElemF itemA := ⟨fun a y hy => by
  simp only [AV.cells, List.mem_cons, List.not_mem_nil, or_false] at hy
  rcases hy with rfl | rfl | rfl <;> exact ⟨pure_int _ _, rfl⟩⟩

instance : OwnF itemA := ⟨fun a y hy => by
  simp only [AV.cells, List.mem_cons, List.not_mem_nil, or_false] at hy
  rcases hy with rfl | rfl | rfl <;> exact (flat_int _ _).own⟩

end Go.Proofs.YtmaginepopldnaaDoor
