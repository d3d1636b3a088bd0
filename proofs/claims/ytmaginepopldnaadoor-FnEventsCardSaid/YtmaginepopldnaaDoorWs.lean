/- A relayer tries. -/
import Derived.Test.YtmaginepopldnaaDoorWu
set_option maxRecDepth 100000
set_option maxHeartbeats 3200000
set_option linter.unusedSimpArgs false
set_option linter.unusedVariables false
namespace Go.Proofs.YtmaginepopldnaaDoor
open Go.Av
attribute [local irreducible] T thenQ blockQ againQ againS WX retV retR Gt Gts GtsP okCells CV CR Av.Pure

instance (E : List AV) (i : Nat) (v : AV) [h : PureEC E] [k : PureEC [v]] : PureEC (E.set i v) := ⟨fun x hx => by
  rcases List.mem_or_eq_of_mem_set hx with e | e
  · exact h.out x e
  · subst e; exact k.out _ (List.mem_cons_self ..)⟩

instance (E : List AV) (i : Nat) (v : AV) [h : OwnEC E] [k : OwnEC [v]] : OwnEC (E.set i v) := ⟨fun x hx => by
  rcases List.mem_or_eq_of_mem_set hx with e | e
  · exact h.out x e
  · subst e; exact k.out _ (List.mem_cons_self ..)⟩

def tryCode (q : List Itm) (n t : Int) : Int := if ¬ (0 ≤ t ∧ t ≤ 1099511627776) then 3 else if findI q n < 0 then 4 else 0
abbrev tryM (x : Itm) : Int := if 8 < x.tries + 1 then 8 else x.tries + 1
abbrev tryItm (x : Itm) (t : Int) : Itm := ⟨x.nonce, tryM x, t + 2 ^ (tryM x).toNat⟩
def tryQ (q : List Itm) (n t : Int) : List Itm := q.set (findI q n).toNat (tryItm (q.getD (findI q n).toNat it0) t)

def tnCode (c : Int) (q : List Itm) (n t : Int) : Int := if relFault c q ≠ 0 then relFault c q else tryCode q n t
def tnC (c : Int) (q : List Itm) (n t : Int) : Int := if tnCode c q n t = 0 then c else 0
def tnQ (c : Int) (q : List Itm) (n t : Int) : List Itm := if tnCode c q n t = 0 then tryQ q n t else []
end Go.Proofs.YtmaginepopldnaaDoor
