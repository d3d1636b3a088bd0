/- Lists of numbers and of bytes, and what the helpers of the laws make of them. -/
import Derived.Test.YtmaginepopldnaaDoorTy
set_option maxRecDepth 100000
set_option maxHeartbeats 3200000
set_option linter.unusedSimpArgs false
set_option linter.unusedVariables false
namespace Go.Proofs.YtmaginepopldnaaDoor
open Go.Av
attribute [local irreducible] T thenQ blockQ againQ againS WX retV retR Gt Gts GtsP okCells CV CR Av.Pure

theorem mixed : Tryd.prog.follows .mixedOrders = true := by kernel_rfl

def szAfter (left n : Int) : Int := if left - n < 0 then -1 else left - n

theorem getD_mem {α : Type} (l : List α) (d : α) {k : Nat} (h : k < l.length) : l.getD k d ∈ l := by
  rw [List.getD_eq_getElem?_getD, List.getElem?_eq_getElem h]
  exact List.getElem_mem h

abbrev u8A (b : UInt8) : AV := .int .u8 (b.toNat : Int)

abbrev numA (x : Int) : AV := .int .i64 x

instance : ElemF u8A := ⟨fun a y hy => by simp [u8A, AV.cells] at hy; subst hy; exact ⟨pure_int _ _, rfl⟩⟩

instance : OwnF u8A := ⟨fun a y hy => by simp [u8A, AV.cells] at hy; subst hy; exact (flat_int _ _).own⟩

instance : ElemF numA := ⟨fun a y hy => by simp [numA, AV.cells] at hy; subst hy; exact ⟨pure_int _ _, rfl⟩⟩

instance : OwnF numA := ⟨fun a y hy => by simp [numA, AV.cells] at hy; subst hy; exact (flat_int _ _).own⟩

end Go.Proofs.YtmaginepopldnaaDoor
