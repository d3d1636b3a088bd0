/- From a contract to the row's last step: the law answers true and leaves alone what was there. -/
import Derived.Test.YtgakkecaflppfaaAv29
import Derived.Below
set_option linter.unusedSimpArgs false
set_option linter.unusedVariables false
namespace Go.Av

theorem Ext.below {w w' : World} (h : Ext w w') : RowKit.Below w.heap.size w w' := ⟨h.os, h.tape, h.output, h.size, h.block⟩

theorem CV.law {P : Program} {f : FuncId} {xs : List AV} (h : CV P f xs (· = .bool true)) {W : World} {args : Array Value} {ok : Nat → Nat → Prop} (hok : ∀ b o, ok b o → b < W.heap.size) (ha : RepAll W NoLoc ok xs args.toList) :
    Calls P f args W fun e W' => e = .returned (.bool true) ∧ RowKit.Below W.heap.size W W' := by
  refine (h.2 ok W args hok ha).mono ?_
  rintro e w' ⟨v, r, rfl, rfl, hE, hr⟩
  cases hr
  exact ⟨rfl, hE.below⟩

theorem repAll_nil {w : World} {φ : Nat → Option Loc} {ok : Nat → Nat → Prop} : RepAll w φ ok [] [] := ⟨rfl, fun i x v h => by simp at h⟩
theorem repAll_cons {w : World} {φ : Nat → Option Loc} {ok : Nat → Nat → Prop} {x : AV} {xs : List AV} {v : Value} {vs : List Value} (h : Rep w φ ok x v) (k : RepAll w φ ok xs vs) : RepAll w φ ok (x :: xs) (v :: vs) := by
  refine ⟨by simp [k.1], fun i y u h1 h2 => ?_⟩
  cases i with
  | zero => simp at h1 h2; subst h1; subst h2; exact h
  | succ i => simp at h1 h2; exact k.2 i y u h1 h2

end Go.Av
