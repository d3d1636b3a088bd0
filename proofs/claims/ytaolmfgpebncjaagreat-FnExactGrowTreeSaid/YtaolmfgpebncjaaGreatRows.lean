/-
  No cell of these rows narrows 'for every input' (looked for: loops, veiled, ifaces, maps, wideKeys, modest, calm, conditions, laid).
  DERIVED. THE GIVEN ROWS OF THIS SEAT. 5 by the template 'for every input the law returns true; each argument reads behind the call as it read before'; 0 by the template 'total and deterministic' (their statements: YtaolmfgpebncjaaGreatTotals.lean).
  GIVEN WITH THE SEED: the statements are not yours to turn. If you find one false, say at which input.
  Laid BY PROGRAM, IN A SANDBOX (cutbox-rows.mjs): the forced cells as the released guide's own fill.sh prints them over the translation 27826831824593ab… (all of the seat's roots in one cut). By AI agents, Wed Nov 11 2026. No macro, syntax, notation, axiom, sorry.
-/
import Derived.Test.YtaolmfgpebncjaaGreatChecked
import GoSem.Claim
import GoSem.ClaimJoined
import GoSem.ClaimMapViews
import Derived.JoinedTies
import Derived.KernelRfl
namespace Go.Proofs.YtaolmfgpebncjaaGreat
/- THE CELL 'sum', in the pinned program and in every row, IS THE sha256 OF THE DUMP (.gsa) THAT YtaolmfgpebncjaaGreatProg.lean LOADS. Nothing in Lean hashes anything: it is a label: what it is worth is what the hold of that sum in a sandbox is worth. -/
noncomputable def Tryz.pinned : Pinned := { name := "ytaolmfgpebncjaagreat", sum := "27826831824593ab3c13b6411f0cad2570feec67b8d8e417589b2fefb4ef98b8", checked := Tryz.checked }
namespace Rows
def none {H : Type} : Left H := { results := [], args := [] }

/-- 'laws.FnExactChainTo': WHATEVER THE INPUT: true; the input reads as it did. -/
def fnExactChainToSpec : ChangeSpec := { name := "fnExactChainTo", fn := fun _ => fun
  | [d1, d2] => { results := [.lit (.bool true)], args := [d1, d2] }
  | _ => none }
def fnExactChainToRow : OpenClaim := { program := "ytaolmfgpebncjaagreat", sum := "27826831824593ab3c13b6411f0cad2570feec67b8d8e417589b2fefb4ef98b8", func := "loop.example/g00143/laws.FnExactChainTo", spec := "fnExactChainTo", unfollowed := true, recurses := true, apart := false }
def FnExactChainToSaid : Prop := fnExactChainToRow.holds Tryz.pinned (OpenSpec.ofChange fnExactChainToSpec)

/-- ITS FALSE NEIGHBOUR: 'it returns false'. Refute it at one input. -/
def fnExactChainToWrong : ChangeSpec := { name := "fnExactChainTo", fn := fun _ => fun
  | [d1, d2] => { results := [.lit (.bool false)], args := [d1, d2] }
  | _ => none }
def FnExactChainToWrongFalsely : Prop := fnExactChainToRow.holds Tryz.pinned (OpenSpec.ofChange fnExactChainToWrong)

/-- 'laws.FnExactGrowTree': WHATEVER THE INPUT: true; the input reads as it did. -/
def fnExactGrowTreeSpec : ChangeSpec := { name := "fnExactGrowTree", fn := fun _ => fun
  | [d1, d2, d3, d4, d5] => { results := [.lit (.bool true)], args := [d1, d2, d3, d4, d5] }
  | _ => none }
def fnExactGrowTreeRow : OpenClaim := { program := "ytaolmfgpebncjaagreat", sum := "27826831824593ab3c13b6411f0cad2570feec67b8d8e417589b2fefb4ef98b8", func := "loop.example/g00143/laws.FnExactGrowTree", spec := "fnExactGrowTree", unfollowed := true, recurses := true, apart := false }
def FnExactGrowTreeSaid : Prop := fnExactGrowTreeRow.holds Tryz.pinned (OpenSpec.ofChange fnExactGrowTreeSpec)

/-- ITS FALSE NEIGHBOUR: 'it returns false'. Refute it at one input. -/
def fnExactGrowTreeWrong : ChangeSpec := { name := "fnExactGrowTree", fn := fun _ => fun
  | [d1, d2, d3, d4, d5] => { results := [.lit (.bool false)], args := [d1, d2, d3, d4, d5] }
  | _ => none }
def FnExactGrowTreeWrongFalsely : Prop := fnExactGrowTreeRow.holds Tryz.pinned (OpenSpec.ofChange fnExactGrowTreeWrong)

/-- 'laws.FnExactCheckEvent': WHATEVER THE INPUT: true; the input reads as it did. -/
def fnExactCheckEventSpec : ChangeSpec := { name := "fnExactCheckEvent", fn := fun _ => fun
  | [d1, d2, d3, d4] => { results := [.lit (.bool true)], args := [d1, d2, d3, d4] }
  | _ => none }
def fnExactCheckEventRow : OpenClaim := { program := "ytaolmfgpebncjaagreat", sum := "27826831824593ab3c13b6411f0cad2570feec67b8d8e417589b2fefb4ef98b8", func := "loop.example/g00143/laws.FnExactCheckEvent", spec := "fnExactCheckEvent", unfollowed := true, recurses := true, apart := false }
def FnExactCheckEventSaid : Prop := fnExactCheckEventRow.holds Tryz.pinned (OpenSpec.ofChange fnExactCheckEventSpec)

/-- ITS FALSE NEIGHBOUR: 'it returns false'. Refute it at one input. -/
def fnExactCheckEventWrong : ChangeSpec := { name := "fnExactCheckEvent", fn := fun _ => fun
  | [d1, d2, d3, d4] => { results := [.lit (.bool false)], args := [d1, d2, d3, d4] }
  | _ => none }
def FnExactCheckEventWrongFalsely : Prop := fnExactCheckEventRow.holds Tryz.pinned (OpenSpec.ofChange fnExactCheckEventWrong)

/-- 'laws.FnGrowth': WHATEVER THE INPUT: true; the input reads as it did. -/
def fnGrowthSpec : ChangeSpec := { name := "fnGrowth", fn := fun _ => fun
  | [d] => { results := [.lit (.bool true)], args := [d] }
  | _ => none }
def fnGrowthRow : OpenClaim := { program := "ytaolmfgpebncjaagreat", sum := "27826831824593ab3c13b6411f0cad2570feec67b8d8e417589b2fefb4ef98b8", func := "loop.example/g00143/laws.FnGrowth", spec := "fnGrowth", unfollowed := true, recurses := true, apart := false }
def FnGrowthSaid : Prop := fnGrowthRow.holds Tryz.pinned (OpenSpec.ofChange fnGrowthSpec)

/-- ITS FALSE NEIGHBOUR: 'it returns false'. Refute it at one input. -/
def fnGrowthWrong : ChangeSpec := { name := "fnGrowth", fn := fun _ => fun
  | [d] => { results := [.lit (.bool false)], args := [d] }
  | _ => none }
def FnGrowthWrongFalsely : Prop := fnGrowthRow.holds Tryz.pinned (OpenSpec.ofChange fnGrowthWrong)

/-- 'laws.FnDeeper': WHATEVER THE INPUT: true; the input reads as it did. -/
def fnDeeperSpec : ChangeSpec := { name := "fnDeeper", fn := fun _ => fun
  | [d] => { results := [.lit (.bool true)], args := [d] }
  | _ => none }
def fnDeeperRow : OpenClaim := { program := "ytaolmfgpebncjaagreat", sum := "27826831824593ab3c13b6411f0cad2570feec67b8d8e417589b2fefb4ef98b8", func := "loop.example/g00143/laws.FnDeeper", spec := "fnDeeper", unfollowed := true, recurses := true, apart := false }
def FnDeeperSaid : Prop := fnDeeperRow.holds Tryz.pinned (OpenSpec.ofChange fnDeeperSpec)

/-- ITS FALSE NEIGHBOUR: 'it returns false'. Refute it at one input. -/
def fnDeeperWrong : ChangeSpec := { name := "fnDeeper", fn := fun _ => fun
  | [d] => { results := [.lit (.bool false)], args := [d] }
  | _ => none }
def FnDeeperWrongFalsely : Prop := fnDeeperRow.holds Tryz.pinned (OpenSpec.ofChange fnDeeperWrong)

/- THE SECOND FORM. 'bulk': how many values and letters a reading holds, each counted each time it is reached (what is shared counts as often as it is met; a slice's spare places count too). A statement '..UptoSaid' is the law's where the arguments, and the package variables that the reading takes, are together of bulk at most 1048576: NARROWER than '..Said'. Prove '..Said' where nothing that the law and all that it calls make is longer than what came in: it says more and counts as full. Else prove '..UptoSaid'. A law counts once. -/
mutual
def uptoBulk {H : Type} : DataW H → Nat
  | .lit (.string bytes) => bytes.length + 1
  | .lit _ => 1
  | .nil => 1
  | .ptr d => uptoBulk d + 1
  | .slice elems spare => uptoBulkAll elems + uptoBulkAll spare + 1
  | .agg parts => uptoBulkAll parts + 1
  | .iface _ d => uptoBulk d + 1
  | .map entries => uptoBulkEntries entries + 1
  | .held _ => 1
def uptoBulkAll {H : Type} : List (DataW H) → Nat
  | [] => 0
  | d :: r => uptoBulk d + uptoBulkAll r
def uptoBulkEntries {H : Type} : List (Lit × DataW H) → Nat
  | [] => 0
  | x :: r => uptoBulkEntry x + uptoBulkEntries r
def uptoBulkEntry {H : Type} : Lit × DataW H → Nat
  | (.string bytes, d) => bytes.length + uptoBulk d + 1
  | (_, d) => uptoBulk d + 1
 end
def uptoSmall : (H : Type) → List (DataW H) → Bool := fun _ ds => decide (uptoBulkAll ds ≤ 1048576)
def OpenSpec.upto (s : _root_.Go.ChangeSpec) : _root_.Go.OpenSpec := { _root_.Go.OpenSpec.ofChange s with cond := some uptoSmall }

/-- 'laws.FnExactChainTo', WHERE WHAT IT READS IS OF BULK AT MOST 1048576: true; the input reads as it did. -/
def fnExactChainToUptoRow : OpenClaim := { program := "ytaolmfgpebncjaagreat", sum := "27826831824593ab3c13b6411f0cad2570feec67b8d8e417589b2fefb4ef98b8", func := "loop.example/g00143/laws.FnExactChainTo", spec := "fnExactChainTo", unfollowed := true, recurses := true, apart := false, narrowed := true }
def FnExactChainToUptoSaid : Prop := fnExactChainToUptoRow.holds Tryz.pinned (OpenSpec.upto fnExactChainToSpec)

/-- 'laws.FnExactGrowTree', WHERE WHAT IT READS IS OF BULK AT MOST 1048576: true; the input reads as it did. -/
def fnExactGrowTreeUptoRow : OpenClaim := { program := "ytaolmfgpebncjaagreat", sum := "27826831824593ab3c13b6411f0cad2570feec67b8d8e417589b2fefb4ef98b8", func := "loop.example/g00143/laws.FnExactGrowTree", spec := "fnExactGrowTree", unfollowed := true, recurses := true, apart := false, narrowed := true }
def FnExactGrowTreeUptoSaid : Prop := fnExactGrowTreeUptoRow.holds Tryz.pinned (OpenSpec.upto fnExactGrowTreeSpec)

/-- 'laws.FnExactCheckEvent', WHERE WHAT IT READS IS OF BULK AT MOST 1048576: true; the input reads as it did. -/
def fnExactCheckEventUptoRow : OpenClaim := { program := "ytaolmfgpebncjaagreat", sum := "27826831824593ab3c13b6411f0cad2570feec67b8d8e417589b2fefb4ef98b8", func := "loop.example/g00143/laws.FnExactCheckEvent", spec := "fnExactCheckEvent", unfollowed := true, recurses := true, apart := false, narrowed := true }
def FnExactCheckEventUptoSaid : Prop := fnExactCheckEventUptoRow.holds Tryz.pinned (OpenSpec.upto fnExactCheckEventSpec)

/-- 'laws.FnGrowth', WHERE WHAT IT READS IS OF BULK AT MOST 1048576: true; the input reads as it did. -/
def fnGrowthUptoRow : OpenClaim := { program := "ytaolmfgpebncjaagreat", sum := "27826831824593ab3c13b6411f0cad2570feec67b8d8e417589b2fefb4ef98b8", func := "loop.example/g00143/laws.FnGrowth", spec := "fnGrowth", unfollowed := true, recurses := true, apart := false, narrowed := true }
def FnGrowthUptoSaid : Prop := fnGrowthUptoRow.holds Tryz.pinned (OpenSpec.upto fnGrowthSpec)

/-- 'laws.FnDeeper', WHERE WHAT IT READS IS OF BULK AT MOST 1048576: true; the input reads as it did. -/
def fnDeeperUptoRow : OpenClaim := { program := "ytaolmfgpebncjaagreat", sum := "27826831824593ab3c13b6411f0cad2570feec67b8d8e417589b2fefb4ef98b8", func := "loop.example/g00143/laws.FnDeeper", spec := "fnDeeper", unfollowed := true, recurses := true, apart := false, narrowed := true }
def FnDeeperUptoSaid : Prop := fnDeeperUptoRow.holds Tryz.pinned (OpenSpec.upto fnDeeperSpec)

end Rows
end Go.Proofs.YtaolmfgpebncjaaGreat
