/-
  No cell of these rows narrows 'for every input' (looked for: loops, veiled, ifaces, maps, wideKeys, modest, calm, conditions, laid).
  DERIVED. THE GIVEN ROWS OF THIS SEAT. 7 by the template 'for every input the law returns true; each argument reads behind the call as it read before'; 0 by the template 'total and deterministic' (their statements: YtaolmfgpebncjaaTotals.lean).
  GIVEN WITH THE SEED: the statements are not yours to turn. If you find one false, say at which input.
  Laid BY PROGRAM, IN A SANDBOX (cutbox-rows.mjs): the forced cells as the released guide's own fill.sh prints them over the translation ba87940bdcb9cffa… (all of the seat's roots in one cut). By AI agents, Wed Nov 11 2026. No macro, syntax, notation, axiom, sorry.
-/
import Derived.Test.YtaolmfgpebncjaaChecked
import GoSem.Claim
import GoSem.ClaimJoined
import GoSem.ClaimMapViews
import Derived.JoinedTies
import Derived.KernelRfl
namespace Go.Proofs.Ytaolmfgpebncjaa
/- THE CELL 'sum', in the pinned program and in every row, IS THE sha256 OF THE DUMP (.gsa) THAT YtaolmfgpebncjaaProg.lean LOADS. Nothing in Lean hashes anything: it is a label: what it is worth is what the hold of that sum in a sandbox is worth. -/
noncomputable def Try.pinned : Pinned := { name := "ytaolmfgpebncjaa", sum := "ba87940bdcb9cffadfbfae9ff4b077c89f1cdbec42e55e6b34b8b4b07c476f24", checked := Try.checked }
namespace Rows
def none {H : Type} : Left H := { results := [], args := [] }

/-- 'laws.FnExactClientFault': WHATEVER THE INPUT: true; the input reads as it did. -/
def fnExactClientFaultSpec : ChangeSpec := { name := "fnExactClientFault", fn := fun _ => fun
  | [d] => { results := [.lit (.bool true)], args := [d] }
  | _ => none }
def fnExactClientFaultRow : OpenClaim := { program := "ytaolmfgpebncjaa", sum := "ba87940bdcb9cffadfbfae9ff4b077c89f1cdbec42e55e6b34b8b4b07c476f24", func := "loop.example/g00143/laws.FnExactClientFault", spec := "fnExactClientFault", unfollowed := true, recurses := true, apart := false }
def FnExactClientFaultSaid : Prop := fnExactClientFaultRow.holds Try.pinned (OpenSpec.ofChange fnExactClientFaultSpec)

/-- ITS FALSE NEIGHBOUR: 'it returns false'. Refute it at one input. -/
def fnExactClientFaultWrong : ChangeSpec := { name := "fnExactClientFault", fn := fun _ => fun
  | [d] => { results := [.lit (.bool false)], args := [d] }
  | _ => none }
def FnExactClientFaultWrongFalsely : Prop := fnExactClientFaultRow.holds Try.pinned (OpenSpec.ofChange fnExactClientFaultWrong)

/-- 'laws.FnExactTipOf': WHATEVER THE INPUT: true; the input reads as it did. -/
def fnExactTipOfSpec : ChangeSpec := { name := "fnExactTipOf", fn := fun _ => fun
  | [d] => { results := [.lit (.bool true)], args := [d] }
  | _ => none }
def fnExactTipOfRow : OpenClaim := { program := "ytaolmfgpebncjaa", sum := "ba87940bdcb9cffadfbfae9ff4b077c89f1cdbec42e55e6b34b8b4b07c476f24", func := "loop.example/g00143/laws.FnExactTipOf", spec := "fnExactTipOf", unfollowed := true, recurses := true, apart := false }
def FnExactTipOfSaid : Prop := fnExactTipOfRow.holds Try.pinned (OpenSpec.ofChange fnExactTipOfSpec)

/-- ITS FALSE NEIGHBOUR: 'it returns false'. Refute it at one input. -/
def fnExactTipOfWrong : ChangeSpec := { name := "fnExactTipOf", fn := fun _ => fun
  | [d] => { results := [.lit (.bool false)], args := [d] }
  | _ => none }
def FnExactTipOfWrongFalsely : Prop := fnExactTipOfRow.holds Try.pinned (OpenSpec.ofChange fnExactTipOfWrong)

/-- 'laws.FnExactTreeFault': WHATEVER THE INPUT: true; the input reads as it did. -/
def fnExactTreeFaultSpec : ChangeSpec := { name := "fnExactTreeFault", fn := fun _ => fun
  | [d] => { results := [.lit (.bool true)], args := [d] }
  | _ => none }
def fnExactTreeFaultRow : OpenClaim := { program := "ytaolmfgpebncjaa", sum := "ba87940bdcb9cffadfbfae9ff4b077c89f1cdbec42e55e6b34b8b4b07c476f24", func := "loop.example/g00143/laws.FnExactTreeFault", spec := "fnExactTreeFault", unfollowed := true, recurses := true, apart := false }
def FnExactTreeFaultSaid : Prop := fnExactTreeFaultRow.holds Try.pinned (OpenSpec.ofChange fnExactTreeFaultSpec)

/-- ITS FALSE NEIGHBOUR: 'it returns false'. Refute it at one input. -/
def fnExactTreeFaultWrong : ChangeSpec := { name := "fnExactTreeFault", fn := fun _ => fun
  | [d] => { results := [.lit (.bool false)], args := [d] }
  | _ => none }
def FnExactTreeFaultWrongFalsely : Prop := fnExactTreeFaultRow.holds Try.pinned (OpenSpec.ofChange fnExactTreeFaultWrong)

/-- 'laws.FnExactIsConfirmed': WHATEVER THE INPUT: true; the input reads as it did. -/
def fnExactIsConfirmedSpec : ChangeSpec := { name := "fnExactIsConfirmed", fn := fun _ => fun
  | [d1, d2] => { results := [.lit (.bool true)], args := [d1, d2] }
  | _ => none }
def fnExactIsConfirmedRow : OpenClaim := { program := "ytaolmfgpebncjaa", sum := "ba87940bdcb9cffadfbfae9ff4b077c89f1cdbec42e55e6b34b8b4b07c476f24", func := "loop.example/g00143/laws.FnExactIsConfirmed", spec := "fnExactIsConfirmed", unfollowed := true, recurses := true, apart := false }
def FnExactIsConfirmedSaid : Prop := fnExactIsConfirmedRow.holds Try.pinned (OpenSpec.ofChange fnExactIsConfirmedSpec)

/-- ITS FALSE NEIGHBOUR: 'it returns false'. Refute it at one input. -/
def fnExactIsConfirmedWrong : ChangeSpec := { name := "fnExactIsConfirmed", fn := fun _ => fun
  | [d1, d2] => { results := [.lit (.bool false)], args := [d1, d2] }
  | _ => none }
def FnExactIsConfirmedWrongFalsely : Prop := fnExactIsConfirmedRow.holds Try.pinned (OpenSpec.ofChange fnExactIsConfirmedWrong)

/-- 'laws.FnExactBrokeDepth': WHATEVER THE INPUT: true; the input reads as it did. -/
def fnExactBrokeDepthSpec : ChangeSpec := { name := "fnExactBrokeDepth", fn := fun _ => fun
  | [d1, d2] => { results := [.lit (.bool true)], args := [d1, d2] }
  | _ => none }
def fnExactBrokeDepthRow : OpenClaim := { program := "ytaolmfgpebncjaa", sum := "ba87940bdcb9cffadfbfae9ff4b077c89f1cdbec42e55e6b34b8b4b07c476f24", func := "loop.example/g00143/laws.FnExactBrokeDepth", spec := "fnExactBrokeDepth", unfollowed := true, recurses := true, apart := false }
def FnExactBrokeDepthSaid : Prop := fnExactBrokeDepthRow.holds Try.pinned (OpenSpec.ofChange fnExactBrokeDepthSpec)

/-- ITS FALSE NEIGHBOUR: 'it returns false'. Refute it at one input. -/
def fnExactBrokeDepthWrong : ChangeSpec := { name := "fnExactBrokeDepth", fn := fun _ => fun
  | [d1, d2] => { results := [.lit (.bool false)], args := [d1, d2] }
  | _ => none }
def FnExactBrokeDepthWrongFalsely : Prop := fnExactBrokeDepthRow.holds Try.pinned (OpenSpec.ofChange fnExactBrokeDepthWrong)

/-- 'laws.FnExactHeaviestOf': WHATEVER THE INPUT: true; the input reads as it did. -/
def fnExactHeaviestOfSpec : ChangeSpec := { name := "fnExactHeaviestOf", fn := fun _ => fun
  | [d] => { results := [.lit (.bool true)], args := [d] }
  | _ => none }
def fnExactHeaviestOfRow : OpenClaim := { program := "ytaolmfgpebncjaa", sum := "ba87940bdcb9cffadfbfae9ff4b077c89f1cdbec42e55e6b34b8b4b07c476f24", func := "loop.example/g00143/laws.FnExactHeaviestOf", spec := "fnExactHeaviestOf", unfollowed := true, recurses := true, apart := false }
def FnExactHeaviestOfSaid : Prop := fnExactHeaviestOfRow.holds Try.pinned (OpenSpec.ofChange fnExactHeaviestOfSpec)

/-- ITS FALSE NEIGHBOUR: 'it returns false'. Refute it at one input. -/
def fnExactHeaviestOfWrong : ChangeSpec := { name := "fnExactHeaviestOf", fn := fun _ => fun
  | [d] => { results := [.lit (.bool false)], args := [d] }
  | _ => none }
def FnExactHeaviestOfWrongFalsely : Prop := fnExactHeaviestOfRow.holds Try.pinned (OpenSpec.ofChange fnExactHeaviestOfWrong)

/-- 'laws.FnExactConfirmedOf': WHATEVER THE INPUT: true; the input reads as it did. -/
def fnExactConfirmedOfSpec : ChangeSpec := { name := "fnExactConfirmedOf", fn := fun _ => fun
  | [d] => { results := [.lit (.bool true)], args := [d] }
  | _ => none }
def fnExactConfirmedOfRow : OpenClaim := { program := "ytaolmfgpebncjaa", sum := "ba87940bdcb9cffadfbfae9ff4b077c89f1cdbec42e55e6b34b8b4b07c476f24", func := "loop.example/g00143/laws.FnExactConfirmedOf", spec := "fnExactConfirmedOf", unfollowed := true, recurses := true, apart := false }
def FnExactConfirmedOfSaid : Prop := fnExactConfirmedOfRow.holds Try.pinned (OpenSpec.ofChange fnExactConfirmedOfSpec)

/-- ITS FALSE NEIGHBOUR: 'it returns false'. Refute it at one input. -/
def fnExactConfirmedOfWrong : ChangeSpec := { name := "fnExactConfirmedOf", fn := fun _ => fun
  | [d] => { results := [.lit (.bool false)], args := [d] }
  | _ => none }
def FnExactConfirmedOfWrongFalsely : Prop := fnExactConfirmedOfRow.holds Try.pinned (OpenSpec.ofChange fnExactConfirmedOfWrong)

/- THE SECOND FORM. 'bulk': how many values and letters a reading holds, each counted each time it is reached (what is shared counts as often as it is met; a slice's spare places count too). A statement '..UptoSaid' is the law's where the arguments, and the package variables that the reading takes, are together of bulk at most 1048576: NARROWER than '..Said'. Prove '..Said' where nothing that the law and all that it calls make is longer than what came in: it says more and counts as full. Else prove '..UptoSaid'. A law counts once. -/
mutual
def uptoBulk {H : Type} : DataW H → Nat
  | .lit (.string bytes) => bytes.length + 1
  | .lit _ => 1
  | .nil => 1
  | .ptr d => uptoBulk d + 1
  | .slice elems spare => uptoBulkAll elems + uptoBulkAll spare + 1
  | .agg parts => uptoBulkAll parts + 1
  | .iface _ d => uptoBulk d + 1
  | .map entries => uptoBulkEntries entries + 1
  | .held _ => 1
def uptoBulkAll {H : Type} : List (DataW H) → Nat
  | [] => 0
  | d :: r => uptoBulk d + uptoBulkAll r
def uptoBulkEntries {H : Type} : List (Lit × DataW H) → Nat
  | [] => 0
  | x :: r => uptoBulkEntry x + uptoBulkEntries r
def uptoBulkEntry {H : Type} : Lit × DataW H → Nat
  | (.string bytes, d) => bytes.length + uptoBulk d + 1
  | (_, d) => uptoBulk d + 1
 end
def uptoSmall : (H : Type) → List (DataW H) → Bool := fun _ ds => decide (uptoBulkAll ds ≤ 1048576)
def OpenSpec.upto (s : _root_.Go.ChangeSpec) : _root_.Go.OpenSpec := { _root_.Go.OpenSpec.ofChange s with cond := some uptoSmall }

/-- 'laws.FnExactClientFault', WHERE WHAT IT READS IS OF BULK AT MOST 1048576: true; the input reads as it did. -/
def fnExactClientFaultUptoRow : OpenClaim := { program := "ytaolmfgpebncjaa", sum := "ba87940bdcb9cffadfbfae9ff4b077c89f1cdbec42e55e6b34b8b4b07c476f24", func := "loop.example/g00143/laws.FnExactClientFault", spec := "fnExactClientFault", unfollowed := true, recurses := true, apart := false, narrowed := true }
def FnExactClientFaultUptoSaid : Prop := fnExactClientFaultUptoRow.holds Try.pinned (OpenSpec.upto fnExactClientFaultSpec)

/-- 'laws.FnExactTipOf', WHERE WHAT IT READS IS OF BULK AT MOST 1048576: true; the input reads as it did. -/
def fnExactTipOfUptoRow : OpenClaim := { program := "ytaolmfgpebncjaa", sum := "ba87940bdcb9cffadfbfae9ff4b077c89f1cdbec42e55e6b34b8b4b07c476f24", func := "loop.example/g00143/laws.FnExactTipOf", spec := "fnExactTipOf", unfollowed := true, recurses := true, apart := false, narrowed := true }
def FnExactTipOfUptoSaid : Prop := fnExactTipOfUptoRow.holds Try.pinned (OpenSpec.upto fnExactTipOfSpec)

/-- 'laws.FnExactTreeFault', WHERE WHAT IT READS IS OF BULK AT MOST 1048576: true; the input reads as it did. -/
def fnExactTreeFaultUptoRow : OpenClaim := { program := "ytaolmfgpebncjaa", sum := "ba87940bdcb9cffadfbfae9ff4b077c89f1cdbec42e55e6b34b8b4b07c476f24", func := "loop.example/g00143/laws.FnExactTreeFault", spec := "fnExactTreeFault", unfollowed := true, recurses := true, apart := false, narrowed := true }
def FnExactTreeFaultUptoSaid : Prop := fnExactTreeFaultUptoRow.holds Try.pinned (OpenSpec.upto fnExactTreeFaultSpec)

/-- 'laws.FnExactIsConfirmed', WHERE WHAT IT READS IS OF BULK AT MOST 1048576: true; the input reads as it did. -/
def fnExactIsConfirmedUptoRow : OpenClaim := { program := "ytaolmfgpebncjaa", sum := "ba87940bdcb9cffadfbfae9ff4b077c89f1cdbec42e55e6b34b8b4b07c476f24", func := "loop.example/g00143/laws.FnExactIsConfirmed", spec := "fnExactIsConfirmed", unfollowed := true, recurses := true, apart := false, narrowed := true }
def FnExactIsConfirmedUptoSaid : Prop := fnExactIsConfirmedUptoRow.holds Try.pinned (OpenSpec.upto fnExactIsConfirmedSpec)

/-- 'laws.FnExactBrokeDepth', WHERE WHAT IT READS IS OF BULK AT MOST 1048576: true; the input reads as it did. -/
def fnExactBrokeDepthUptoRow : OpenClaim := { program := "ytaolmfgpebncjaa", sum := "ba87940bdcb9cffadfbfae9ff4b077c89f1cdbec42e55e6b34b8b4b07c476f24", func := "loop.example/g00143/laws.FnExactBrokeDepth", spec := "fnExactBrokeDepth", unfollowed := true, recurses := true, apart := false, narrowed := true }
def FnExactBrokeDepthUptoSaid : Prop := fnExactBrokeDepthUptoRow.holds Try.pinned (OpenSpec.upto fnExactBrokeDepthSpec)

/-- 'laws.FnExactHeaviestOf', WHERE WHAT IT READS IS OF BULK AT MOST 1048576: true; the input reads as it did. -/
def fnExactHeaviestOfUptoRow : OpenClaim := { program := "ytaolmfgpebncjaa", sum := "ba87940bdcb9cffadfbfae9ff4b077c89f1cdbec42e55e6b34b8b4b07c476f24", func := "loop.example/g00143/laws.FnExactHeaviestOf", spec := "fnExactHeaviestOf", unfollowed := true, recurses := true, apart := false, narrowed := true }
def FnExactHeaviestOfUptoSaid : Prop := fnExactHeaviestOfUptoRow.holds Try.pinned (OpenSpec.upto fnExactHeaviestOfSpec)

/-- 'laws.FnExactConfirmedOf', WHERE WHAT IT READS IS OF BULK AT MOST 1048576: true; the input reads as it did. -/
def fnExactConfirmedOfUptoRow : OpenClaim := { program := "ytaolmfgpebncjaa", sum := "ba87940bdcb9cffadfbfae9ff4b077c89f1cdbec42e55e6b34b8b4b07c476f24", func := "loop.example/g00143/laws.FnExactConfirmedOf", spec := "fnExactConfirmedOf", unfollowed := true, recurses := true, apart := false, narrowed := true }
def FnExactConfirmedOfUptoSaid : Prop := fnExactConfirmedOfUptoRow.holds Try.pinned (OpenSpec.upto fnExactConfirmedOfSpec)

end Rows
end Go.Proofs.Ytaolmfgpebncjaa
