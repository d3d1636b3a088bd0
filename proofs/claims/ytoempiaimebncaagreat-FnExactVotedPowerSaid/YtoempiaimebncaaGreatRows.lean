/-
  No cell of these rows narrows 'for every input' (looked for: loops, veiled, ifaces, maps, wideKeys, modest, calm, conditions, laid).
  DERIVED. THE GIVEN ROWS OF THIS SEAT. 4 by the template 'for every input the law returns true; each argument reads behind the call as it read before'; 0 by the template 'total and deterministic' (their statements: YtoempiaimebncaaGreatTotals.lean).
  GIVEN WITH THE SEED: the statements are not yours to turn. If you find one false, say at which input.
  Laid BY PROGRAM, IN A SANDBOX (cutbox-rows.mjs): the forced cells as the released guide's own fill.sh prints them over the translation de2d10b3f279e046… (all of the seat's roots in one cut). By AI agents, Wed Nov 11 2026. No macro, syntax, notation, axiom, sorry.
-/
import Derived.Test.YtoempiaimebncaaGreatChecked
import GoSem.Claim
import GoSem.ClaimJoined
import GoSem.ClaimMapViews
import Derived.JoinedTies
import Derived.KernelRfl
namespace Go.Proofs.YtoempiaimebncaaGreat
/- THE CELL 'sum', in the pinned program and in every row, IS THE sha256 OF THE DUMP (.gsa) THAT YtoempiaimebncaaGreatProg.lean LOADS. Nothing in Lean hashes anything: it is a label: what it is worth is what the hold of that sum in a sandbox is worth. -/
noncomputable def Tryz.pinned : Pinned := { name := "ytoempiaimebncaagreat", sum := "de2d10b3f279e0461efcd65f2aa6d31628b48d73be4963d87e69ac938312b2b6", checked := Tryz.checked }
namespace Rows
def none {H : Type} : Left H := { results := [], args := [] }

/-- 'laws.FnExactSharedPower': WHATEVER THE INPUT: true; the input reads as it did. -/
def fnExactSharedPowerSpec : ChangeSpec := { name := "fnExactSharedPower", fn := fun _ => fun
  | [d1, d2, d3] => { results := [.lit (.bool true)], args := [d1, d2, d3] }
  | _ => none }
def fnExactSharedPowerRow : OpenClaim := { program := "ytoempiaimebncaagreat", sum := "de2d10b3f279e0461efcd65f2aa6d31628b48d73be4963d87e69ac938312b2b6", func := "loop.example/g00143/laws.FnExactSharedPower", spec := "fnExactSharedPower", unfollowed := true, recurses := true, apart := false }
def FnExactSharedPowerSaid : Prop := fnExactSharedPowerRow.holds Tryz.pinned (OpenSpec.ofChange fnExactSharedPowerSpec)

/-- ITS FALSE NEIGHBOUR: 'it returns false'. Refute it at one input. -/
def fnExactSharedPowerWrong : ChangeSpec := { name := "fnExactSharedPower", fn := fun _ => fun
  | [d1, d2, d3] => { results := [.lit (.bool false)], args := [d1, d2, d3] }
  | _ => none }
def FnExactSharedPowerWrongFalsely : Prop := fnExactSharedPowerRow.holds Tryz.pinned (OpenSpec.ofChange fnExactSharedPowerWrong)

/-- 'laws.FnExactVotedPower': WHATEVER THE INPUT: true; the input reads as it did. -/
def fnExactVotedPowerSpec : ChangeSpec := { name := "fnExactVotedPower", fn := fun _ => fun
  | [d1, d2] => { results := [.lit (.bool true)], args := [d1, d2] }
  | _ => none }
def fnExactVotedPowerRow : OpenClaim := { program := "ytoempiaimebncaagreat", sum := "de2d10b3f279e0461efcd65f2aa6d31628b48d73be4963d87e69ac938312b2b6", func := "loop.example/g00143/laws.FnExactVotedPower", spec := "fnExactVotedPower", unfollowed := true, recurses := true, apart := false }
def FnExactVotedPowerSaid : Prop := fnExactVotedPowerRow.holds Tryz.pinned (OpenSpec.ofChange fnExactVotedPowerSpec)

/-- ITS FALSE NEIGHBOUR: 'it returns false'. Refute it at one input. -/
def fnExactVotedPowerWrong : ChangeSpec := { name := "fnExactVotedPower", fn := fun _ => fun
  | [d1, d2] => { results := [.lit (.bool false)], args := [d1, d2] }
  | _ => none }
def FnExactVotedPowerWrongFalsely : Prop := fnExactVotedPowerRow.holds Tryz.pinned (OpenSpec.ofChange fnExactVotedPowerWrong)

/-- 'laws.FnExactMostVoted': WHATEVER THE INPUT: true; the input reads as it did. -/
def fnExactMostVotedSpec : ChangeSpec := { name := "fnExactMostVoted", fn := fun _ => fun
  | [d1, d2] => { results := [.lit (.bool true)], args := [d1, d2] }
  | _ => none }
def fnExactMostVotedRow : OpenClaim := { program := "ytoempiaimebncaagreat", sum := "de2d10b3f279e0461efcd65f2aa6d31628b48d73be4963d87e69ac938312b2b6", func := "loop.example/g00143/laws.FnExactMostVoted", spec := "fnExactMostVoted", unfollowed := true, recurses := true, apart := false }
def FnExactMostVotedSaid : Prop := fnExactMostVotedRow.holds Tryz.pinned (OpenSpec.ofChange fnExactMostVotedSpec)

/-- ITS FALSE NEIGHBOUR: 'it returns false'. Refute it at one input. -/
def fnExactMostVotedWrong : ChangeSpec := { name := "fnExactMostVoted", fn := fun _ => fun
  | [d1, d2] => { results := [.lit (.bool false)], args := [d1, d2] }
  | _ => none }
def FnExactMostVotedWrongFalsely : Prop := fnExactMostVotedRow.holds Tryz.pinned (OpenSpec.ofChange fnExactMostVotedWrong)

/-- 'laws.FnVotes': WHATEVER THE INPUT: true; the input reads as it did. -/
def fnVotesSpec : ChangeSpec := { name := "fnVotes", fn := fun _ => fun
  | [d] => { results := [.lit (.bool true)], args := [d] }
  | _ => none }
def fnVotesRow : OpenClaim := { program := "ytoempiaimebncaagreat", sum := "de2d10b3f279e0461efcd65f2aa6d31628b48d73be4963d87e69ac938312b2b6", func := "loop.example/g00143/laws.FnVotes", spec := "fnVotes", unfollowed := true, recurses := true, apart := false }
def FnVotesSaid : Prop := fnVotesRow.holds Tryz.pinned (OpenSpec.ofChange fnVotesSpec)

/-- ITS FALSE NEIGHBOUR: 'it returns false'. Refute it at one input. -/
def fnVotesWrong : ChangeSpec := { name := "fnVotes", fn := fun _ => fun
  | [d] => { results := [.lit (.bool false)], args := [d] }
  | _ => none }
def FnVotesWrongFalsely : Prop := fnVotesRow.holds Tryz.pinned (OpenSpec.ofChange fnVotesWrong)

/- THE SECOND FORM. 'bulk': how many values and letters a reading holds, each counted each time it is reached (what is shared counts as often as it is met; a slice's spare places count too). A statement '..UptoSaid' is the law's where the arguments, and the package variables that the reading takes, are together of bulk at most 1048576: NARROWER than '..Said'. Prove '..Said' where nothing that the law and all that it calls make is longer than what came in: it says more and counts as full. Else prove '..UptoSaid'. A law counts once. -/
mutual
def uptoBulk {H : Type} : DataW H → Nat
  | .lit (.string bytes) => bytes.length + 1
  | .lit _ => 1
  | .nil => 1
  | .ptr d => uptoBulk d + 1
  | .slice elems spare => uptoBulkAll elems + uptoBulkAll spare + 1
  | .agg parts => uptoBulkAll parts + 1
  | .iface _ d => uptoBulk d + 1
  | .map entries => uptoBulkEntries entries + 1
  | .held _ => 1
def uptoBulkAll {H : Type} : List (DataW H) → Nat
  | [] => 0
  | d :: r => uptoBulk d + uptoBulkAll r
def uptoBulkEntries {H : Type} : List (Lit × DataW H) → Nat
  | [] => 0
  | x :: r => uptoBulkEntry x + uptoBulkEntries r
def uptoBulkEntry {H : Type} : Lit × DataW H → Nat
  | (.string bytes, d) => bytes.length + uptoBulk d + 1
  | (_, d) => uptoBulk d + 1
 end
def uptoSmall : (H : Type) → List (DataW H) → Bool := fun _ ds => decide (uptoBulkAll ds ≤ 1048576)
def OpenSpec.upto (s : _root_.Go.ChangeSpec) : _root_.Go.OpenSpec := { _root_.Go.OpenSpec.ofChange s with cond := some uptoSmall }

/-- 'laws.FnExactSharedPower', WHERE WHAT IT READS IS OF BULK AT MOST 1048576: true; the input reads as it did. -/
def fnExactSharedPowerUptoRow : OpenClaim := { program := "ytoempiaimebncaagreat", sum := "de2d10b3f279e0461efcd65f2aa6d31628b48d73be4963d87e69ac938312b2b6", func := "loop.example/g00143/laws.FnExactSharedPower", spec := "fnExactSharedPower", unfollowed := true, recurses := true, apart := false, narrowed := true }
def FnExactSharedPowerUptoSaid : Prop := fnExactSharedPowerUptoRow.holds Tryz.pinned (OpenSpec.upto fnExactSharedPowerSpec)

/-- 'laws.FnExactVotedPower', WHERE WHAT IT READS IS OF BULK AT MOST 1048576: true; the input reads as it did. -/
def fnExactVotedPowerUptoRow : OpenClaim := { program := "ytoempiaimebncaagreat", sum := "de2d10b3f279e0461efcd65f2aa6d31628b48d73be4963d87e69ac938312b2b6", func := "loop.example/g00143/laws.FnExactVotedPower", spec := "fnExactVotedPower", unfollowed := true, recurses := true, apart := false, narrowed := true }
def FnExactVotedPowerUptoSaid : Prop := fnExactVotedPowerUptoRow.holds Tryz.pinned (OpenSpec.upto fnExactVotedPowerSpec)

/-- 'laws.FnExactMostVoted', WHERE WHAT IT READS IS OF BULK AT MOST 1048576: true; the input reads as it did. -/
def fnExactMostVotedUptoRow : OpenClaim := { program := "ytoempiaimebncaagreat", sum := "de2d10b3f279e0461efcd65f2aa6d31628b48d73be4963d87e69ac938312b2b6", func := "loop.example/g00143/laws.FnExactMostVoted", spec := "fnExactMostVoted", unfollowed := true, recurses := true, apart := false, narrowed := true }
def FnExactMostVotedUptoSaid : Prop := fnExactMostVotedUptoRow.holds Tryz.pinned (OpenSpec.upto fnExactMostVotedSpec)

/-- 'laws.FnVotes', WHERE WHAT IT READS IS OF BULK AT MOST 1048576: true; the input reads as it did. -/
def fnVotesUptoRow : OpenClaim := { program := "ytoempiaimebncaagreat", sum := "de2d10b3f279e0461efcd65f2aa6d31628b48d73be4963d87e69ac938312b2b6", func := "loop.example/g00143/laws.FnVotes", spec := "fnVotes", unfollowed := true, recurses := true, apart := false, narrowed := true }
def FnVotesUptoSaid : Prop := fnVotesUptoRow.holds Tryz.pinned (OpenSpec.upto fnVotesSpec)

end Rows
end Go.Proofs.YtoempiaimebncaaGreat
