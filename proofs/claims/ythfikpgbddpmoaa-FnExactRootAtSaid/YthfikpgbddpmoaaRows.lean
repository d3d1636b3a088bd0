/-
  No cell of these rows narrows 'for every input' (looked for: loops, veiled, ifaces, maps, wideKeys, modest, calm, conditions, laid).
  DERIVED. THE GIVEN ROWS OF THIS SEAT. 10 by the template 'for every input the law returns true; each argument reads behind the call as it read before'; 0 by the template 'total and deterministic' (their statements: YthfikpgbddpmoaaTotals.lean).
  GIVEN WITH THE SEED: the statements are not yours to turn. If you find one false, say at which input.
  Laid BY PROGRAM, IN A SANDBOX (cutbox-rows.mjs): the forced cells as the released guide's own fill.sh prints them over the translation fb4b5b9755f3671c… (all of the seat's roots in one cut). By AI agents, Wed Nov 11 2026. No macro, syntax, notation, axiom, sorry.
-/
import Derived.Test.YthfikpgbddpmoaaChecked
import GoSem.Claim
import GoSem.ClaimJoined
import GoSem.ClaimMapViews
import Derived.JoinedTies
import Derived.KernelRfl
namespace Go.Proofs.Ythfikpgbddpmoaa
/- THE CELL 'sum', in the pinned program and in every row, IS THE sha256 OF THE DUMP (.gsa) THAT YthfikpgbddpmoaaProg.lean LOADS. Nothing in Lean hashes anything: it is a label: what it is worth is what the hold of that sum in a sandbox is worth. -/
noncomputable def Try.pinned : Pinned := { name := "ythfikpgbddpmoaa", sum := "fb4b5b9755f3671c186e8f096894444476d507ffd1aa50b2faa38c7310c62dff", checked := Try.checked }
namespace Rows
def none {H : Type} : Left H := { results := [], args := [] }

/-- 'laws.FnLogs': WHATEVER THE INPUT: true; the input reads as it did. -/
def fnLogsSpec : ChangeSpec := { name := "fnLogs", fn := fun _ => fun
  | [d] => { results := [.lit (.bool true)], args := [d] }
  | _ => none }
def fnLogsRow : OpenClaim := { program := "ythfikpgbddpmoaa", sum := "fb4b5b9755f3671c186e8f096894444476d507ffd1aa50b2faa38c7310c62dff", func := "loop.example/g00143/laws.FnLogs", spec := "fnLogs", unfollowed := true, recurses := true, apart := false }
def FnLogsSaid : Prop := fnLogsRow.holds Try.pinned (OpenSpec.ofChange fnLogsSpec)

/-- ITS FALSE NEIGHBOUR: 'it returns false'. Refute it at one input. -/
def fnLogsWrong : ChangeSpec := { name := "fnLogs", fn := fun _ => fun
  | [d] => { results := [.lit (.bool false)], args := [d] }
  | _ => none }
def FnLogsWrongFalsely : Prop := fnLogsRow.holds Try.pinned (OpenSpec.ofChange fnLogsWrong)

/-- 'laws.FnCrashes': WHATEVER THE INPUT: true; the input reads as it did. -/
def fnCrashesSpec : ChangeSpec := { name := "fnCrashes", fn := fun _ => fun
  | [d] => { results := [.lit (.bool true)], args := [d] }
  | _ => none }
def fnCrashesRow : OpenClaim := { program := "ythfikpgbddpmoaa", sum := "fb4b5b9755f3671c186e8f096894444476d507ffd1aa50b2faa38c7310c62dff", func := "loop.example/g00143/laws.FnCrashes", spec := "fnCrashes", unfollowed := true, recurses := true, apart := false }
def FnCrashesSaid : Prop := fnCrashesRow.holds Try.pinned (OpenSpec.ofChange fnCrashesSpec)

/-- ITS FALSE NEIGHBOUR: 'it returns false'. Refute it at one input. -/
def fnCrashesWrong : ChangeSpec := { name := "fnCrashes", fn := fun _ => fun
  | [d] => { results := [.lit (.bool false)], args := [d] }
  | _ => none }
def FnCrashesWrongFalsely : Prop := fnCrashesRow.holds Try.pinned (OpenSpec.ofChange fnCrashesWrong)

/-- 'laws.FnExactRecoverLog': WHATEVER THE INPUT: true; the input reads as it did. -/
def fnExactRecoverLogSpec : ChangeSpec := { name := "fnExactRecoverLog", fn := fun _ => fun
  | [d] => { results := [.lit (.bool true)], args := [d] }
  | _ => none }
def fnExactRecoverLogRow : OpenClaim := { program := "ythfikpgbddpmoaa", sum := "fb4b5b9755f3671c186e8f096894444476d507ffd1aa50b2faa38c7310c62dff", func := "loop.example/g00143/laws.FnExactRecoverLog", spec := "fnExactRecoverLog", unfollowed := true, recurses := true, apart := false }
def FnExactRecoverLogSaid : Prop := fnExactRecoverLogRow.holds Try.pinned (OpenSpec.ofChange fnExactRecoverLogSpec)

/-- ITS FALSE NEIGHBOUR: 'it returns false'. Refute it at one input. -/
def fnExactRecoverLogWrong : ChangeSpec := { name := "fnExactRecoverLog", fn := fun _ => fun
  | [d] => { results := [.lit (.bool false)], args := [d] }
  | _ => none }
def FnExactRecoverLogWrongFalsely : Prop := fnExactRecoverLogRow.holds Try.pinned (OpenSpec.ofChange fnExactRecoverLogWrong)

/-- 'laws.FnExactRecordsOf': WHATEVER THE INPUT: true; the input reads as it did. -/
def fnExactRecordsOfSpec : ChangeSpec := { name := "fnExactRecordsOf", fn := fun _ => fun
  | [d] => { results := [.lit (.bool true)], args := [d] }
  | _ => none }
def fnExactRecordsOfRow : OpenClaim := { program := "ythfikpgbddpmoaa", sum := "fb4b5b9755f3671c186e8f096894444476d507ffd1aa50b2faa38c7310c62dff", func := "loop.example/g00143/laws.FnExactRecordsOf", spec := "fnExactRecordsOf", unfollowed := true, recurses := true, apart := false }
def FnExactRecordsOfSaid : Prop := fnExactRecordsOfRow.holds Try.pinned (OpenSpec.ofChange fnExactRecordsOfSpec)

/-- ITS FALSE NEIGHBOUR: 'it returns false'. Refute it at one input. -/
def fnExactRecordsOfWrong : ChangeSpec := { name := "fnExactRecordsOf", fn := fun _ => fun
  | [d] => { results := [.lit (.bool false)], args := [d] }
  | _ => none }
def FnExactRecordsOfWrongFalsely : Prop := fnExactRecordsOfRow.holds Try.pinned (OpenSpec.ofChange fnExactRecordsOfWrong)

/-- 'laws.FnExactMineHead': WHATEVER THE INPUT: true; the input reads as it did. -/
def fnExactMineHeadSpec : ChangeSpec := { name := "fnExactMineHead", fn := fun _ => fun
  | [d1, d2] => { results := [.lit (.bool true)], args := [d1, d2] }
  | _ => none }
def fnExactMineHeadRow : OpenClaim := { program := "ythfikpgbddpmoaa", sum := "fb4b5b9755f3671c186e8f096894444476d507ffd1aa50b2faa38c7310c62dff", func := "loop.example/g00143/laws.FnExactMineHead", spec := "fnExactMineHead", unfollowed := true, recurses := true, apart := false }
def FnExactMineHeadSaid : Prop := fnExactMineHeadRow.holds Try.pinned (OpenSpec.ofChange fnExactMineHeadSpec)

/-- ITS FALSE NEIGHBOUR: 'it returns false'. Refute it at one input. -/
def fnExactMineHeadWrong : ChangeSpec := { name := "fnExactMineHead", fn := fun _ => fun
  | [d1, d2] => { results := [.lit (.bool false)], args := [d1, d2] }
  | _ => none }
def FnExactMineHeadWrongFalsely : Prop := fnExactMineHeadRow.holds Try.pinned (OpenSpec.ofChange fnExactMineHeadWrong)

/-- 'laws.FnExactCheckSign': WHATEVER THE INPUT: true; the input reads as it did. -/
def fnExactCheckSignSpec : ChangeSpec := { name := "fnExactCheckSign", fn := fun _ => fun
  | [d1, d2, d3] => { results := [.lit (.bool true)], args := [d1, d2, d3] }
  | _ => none }
def fnExactCheckSignRow : OpenClaim := { program := "ythfikpgbddpmoaa", sum := "fb4b5b9755f3671c186e8f096894444476d507ffd1aa50b2faa38c7310c62dff", func := "loop.example/g00143/laws.FnExactCheckSign", spec := "fnExactCheckSign", unfollowed := true, recurses := true, apart := false }
def FnExactCheckSignSaid : Prop := fnExactCheckSignRow.holds Try.pinned (OpenSpec.ofChange fnExactCheckSignSpec)

/-- ITS FALSE NEIGHBOUR: 'it returns false'. Refute it at one input. -/
def fnExactCheckSignWrong : ChangeSpec := { name := "fnExactCheckSign", fn := fun _ => fun
  | [d1, d2, d3] => { results := [.lit (.bool false)], args := [d1, d2, d3] }
  | _ => none }
def FnExactCheckSignWrongFalsely : Prop := fnExactCheckSignRow.holds Try.pinned (OpenSpec.ofChange fnExactCheckSignWrong)

/-- 'laws.FnSigns': WHATEVER THE INPUT: true; the input reads as it did. -/
def fnSignsSpec : ChangeSpec := { name := "fnSigns", fn := fun _ => fun
  | [d] => { results := [.lit (.bool true)], args := [d] }
  | _ => none }
def fnSignsRow : OpenClaim := { program := "ythfikpgbddpmoaa", sum := "fb4b5b9755f3671c186e8f096894444476d507ffd1aa50b2faa38c7310c62dff", func := "loop.example/g00143/laws.FnSigns", spec := "fnSigns", unfollowed := true, recurses := true, apart := false }
def FnSignsSaid : Prop := fnSignsRow.holds Try.pinned (OpenSpec.ofChange fnSignsSpec)

/-- ITS FALSE NEIGHBOUR: 'it returns false'. Refute it at one input. -/
def fnSignsWrong : ChangeSpec := { name := "fnSigns", fn := fun _ => fun
  | [d] => { results := [.lit (.bool false)], args := [d] }
  | _ => none }
def FnSignsWrongFalsely : Prop := fnSignsRow.holds Try.pinned (OpenSpec.ofChange fnSignsWrong)

/-- 'laws.FnExactTrustFault': WHATEVER THE INPUT: true; the input reads as it did. -/
def fnExactTrustFaultSpec : ChangeSpec := { name := "fnExactTrustFault", fn := fun _ => fun
  | [d] => { results := [.lit (.bool true)], args := [d] }
  | _ => none }
def fnExactTrustFaultRow : OpenClaim := { program := "ythfikpgbddpmoaa", sum := "fb4b5b9755f3671c186e8f096894444476d507ffd1aa50b2faa38c7310c62dff", func := "loop.example/g00143/laws.FnExactTrustFault", spec := "fnExactTrustFault", unfollowed := true, recurses := true, apart := false }
def FnExactTrustFaultSaid : Prop := fnExactTrustFaultRow.holds Try.pinned (OpenSpec.ofChange fnExactTrustFaultSpec)

/-- ITS FALSE NEIGHBOUR: 'it returns false'. Refute it at one input. -/
def fnExactTrustFaultWrong : ChangeSpec := { name := "fnExactTrustFault", fn := fun _ => fun
  | [d] => { results := [.lit (.bool false)], args := [d] }
  | _ => none }
def FnExactTrustFaultWrongFalsely : Prop := fnExactTrustFaultRow.holds Try.pinned (OpenSpec.ofChange fnExactTrustFaultWrong)

/-- 'laws.FnExactRootAt': WHATEVER THE INPUT: true; the input reads as it did. -/
def fnExactRootAtSpec : ChangeSpec := { name := "fnExactRootAt", fn := fun _ => fun
  | [d1, d2] => { results := [.lit (.bool true)], args := [d1, d2] }
  | _ => none }
def fnExactRootAtRow : OpenClaim := { program := "ythfikpgbddpmoaa", sum := "fb4b5b9755f3671c186e8f096894444476d507ffd1aa50b2faa38c7310c62dff", func := "loop.example/g00143/laws.FnExactRootAt", spec := "fnExactRootAt", unfollowed := true, recurses := true, apart := false }
def FnExactRootAtSaid : Prop := fnExactRootAtRow.holds Try.pinned (OpenSpec.ofChange fnExactRootAtSpec)

/-- ITS FALSE NEIGHBOUR: 'it returns false'. Refute it at one input. -/
def fnExactRootAtWrong : ChangeSpec := { name := "fnExactRootAt", fn := fun _ => fun
  | [d1, d2] => { results := [.lit (.bool false)], args := [d1, d2] }
  | _ => none }
def FnExactRootAtWrongFalsely : Prop := fnExactRootAtRow.holds Try.pinned (OpenSpec.ofChange fnExactRootAtWrong)

/-- 'laws.FnExactCheckEventB': WHATEVER THE INPUT: true; the input reads as it did. -/
def fnExactCheckEventBSpec : ChangeSpec := { name := "fnExactCheckEventB", fn := fun _ => fun
  | [d1, d2, d3, d4] => { results := [.lit (.bool true)], args := [d1, d2, d3, d4] }
  | _ => none }
def fnExactCheckEventBRow : OpenClaim := { program := "ythfikpgbddpmoaa", sum := "fb4b5b9755f3671c186e8f096894444476d507ffd1aa50b2faa38c7310c62dff", func := "loop.example/g00143/laws.FnExactCheckEventB", spec := "fnExactCheckEventB", unfollowed := true, recurses := true, apart := false }
def FnExactCheckEventBSaid : Prop := fnExactCheckEventBRow.holds Try.pinned (OpenSpec.ofChange fnExactCheckEventBSpec)

/-- ITS FALSE NEIGHBOUR: 'it returns false'. Refute it at one input. -/
def fnExactCheckEventBWrong : ChangeSpec := { name := "fnExactCheckEventB", fn := fun _ => fun
  | [d1, d2, d3, d4] => { results := [.lit (.bool false)], args := [d1, d2, d3, d4] }
  | _ => none }
def FnExactCheckEventBWrongFalsely : Prop := fnExactCheckEventBRow.holds Try.pinned (OpenSpec.ofChange fnExactCheckEventBWrong)

/- THE SECOND FORM. 'bulk': how many values and letters a reading holds, each counted each time it is reached (what is shared counts as often as it is met; a slice's spare places count too). A statement '..UptoSaid' is the law's where the arguments, and the package variables that the reading takes, are together of bulk at most 1048576: NARROWER than '..Said'. Prove '..Said' where nothing that the law and all that it calls make is longer than what came in: it says more and counts as full. Else prove '..UptoSaid'. A law counts once. -/
mutual
def uptoBulk {H : Type} : DataW H → Nat
  | .lit (.string bytes) => bytes.length + 1
  | .lit _ => 1
  | .nil => 1
  | .ptr d => uptoBulk d + 1
  | .slice elems spare => uptoBulkAll elems + uptoBulkAll spare + 1
  | .agg parts => uptoBulkAll parts + 1
  | .iface _ d => uptoBulk d + 1
  | .map entries => uptoBulkEntries entries + 1
  | .held _ => 1
def uptoBulkAll {H : Type} : List (DataW H) → Nat
  | [] => 0
  | d :: r => uptoBulk d + uptoBulkAll r
def uptoBulkEntries {H : Type} : List (Lit × DataW H) → Nat
  | [] => 0
  | x :: r => uptoBulkEntry x + uptoBulkEntries r
def uptoBulkEntry {H : Type} : Lit × DataW H → Nat
  | (.string bytes, d) => bytes.length + uptoBulk d + 1
  | (_, d) => uptoBulk d + 1
 end
def uptoSmall : (H : Type) → List (DataW H) → Bool := fun _ ds => decide (uptoBulkAll ds ≤ 1048576)
def OpenSpec.upto (s : _root_.Go.ChangeSpec) : _root_.Go.OpenSpec := { _root_.Go.OpenSpec.ofChange s with cond := some uptoSmall }

/-- 'laws.FnLogs', WHERE WHAT IT READS IS OF BULK AT MOST 1048576: true; the input reads as it did. -/
def fnLogsUptoRow : OpenClaim := { program := "ythfikpgbddpmoaa", sum := "fb4b5b9755f3671c186e8f096894444476d507ffd1aa50b2faa38c7310c62dff", func := "loop.example/g00143/laws.FnLogs", spec := "fnLogs", unfollowed := true, recurses := true, apart := false, narrowed := true }
def FnLogsUptoSaid : Prop := fnLogsUptoRow.holds Try.pinned (OpenSpec.upto fnLogsSpec)

/-- 'laws.FnCrashes', WHERE WHAT IT READS IS OF BULK AT MOST 1048576: true; the input reads as it did. -/
def fnCrashesUptoRow : OpenClaim := { program := "ythfikpgbddpmoaa", sum := "fb4b5b9755f3671c186e8f096894444476d507ffd1aa50b2faa38c7310c62dff", func := "loop.example/g00143/laws.FnCrashes", spec := "fnCrashes", unfollowed := true, recurses := true, apart := false, narrowed := true }
def FnCrashesUptoSaid : Prop := fnCrashesUptoRow.holds Try.pinned (OpenSpec.upto fnCrashesSpec)

/-- 'laws.FnExactRecoverLog', WHERE WHAT IT READS IS OF BULK AT MOST 1048576: true; the input reads as it did. -/
def fnExactRecoverLogUptoRow : OpenClaim := { program := "ythfikpgbddpmoaa", sum := "fb4b5b9755f3671c186e8f096894444476d507ffd1aa50b2faa38c7310c62dff", func := "loop.example/g00143/laws.FnExactRecoverLog", spec := "fnExactRecoverLog", unfollowed := true, recurses := true, apart := false, narrowed := true }
def FnExactRecoverLogUptoSaid : Prop := fnExactRecoverLogUptoRow.holds Try.pinned (OpenSpec.upto fnExactRecoverLogSpec)

/-- 'laws.FnExactRecordsOf', WHERE WHAT IT READS IS OF BULK AT MOST 1048576: true; the input reads as it did. -/
def fnExactRecordsOfUptoRow : OpenClaim := { program := "ythfikpgbddpmoaa", sum := "fb4b5b9755f3671c186e8f096894444476d507ffd1aa50b2faa38c7310c62dff", func := "loop.example/g00143/laws.FnExactRecordsOf", spec := "fnExactRecordsOf", unfollowed := true, recurses := true, apart := false, narrowed := true }
def FnExactRecordsOfUptoSaid : Prop := fnExactRecordsOfUptoRow.holds Try.pinned (OpenSpec.upto fnExactRecordsOfSpec)

/-- 'laws.FnExactMineHead', WHERE WHAT IT READS IS OF BULK AT MOST 1048576: true; the input reads as it did. -/
def fnExactMineHeadUptoRow : OpenClaim := { program := "ythfikpgbddpmoaa", sum := "fb4b5b9755f3671c186e8f096894444476d507ffd1aa50b2faa38c7310c62dff", func := "loop.example/g00143/laws.FnExactMineHead", spec := "fnExactMineHead", unfollowed := true, recurses := true, apart := false, narrowed := true }
def FnExactMineHeadUptoSaid : Prop := fnExactMineHeadUptoRow.holds Try.pinned (OpenSpec.upto fnExactMineHeadSpec)

/-- 'laws.FnExactCheckSign', WHERE WHAT IT READS IS OF BULK AT MOST 1048576: true; the input reads as it did. -/
def fnExactCheckSignUptoRow : OpenClaim := { program := "ythfikpgbddpmoaa", sum := "fb4b5b9755f3671c186e8f096894444476d507ffd1aa50b2faa38c7310c62dff", func := "loop.example/g00143/laws.FnExactCheckSign", spec := "fnExactCheckSign", unfollowed := true, recurses := true, apart := false, narrowed := true }
def FnExactCheckSignUptoSaid : Prop := fnExactCheckSignUptoRow.holds Try.pinned (OpenSpec.upto fnExactCheckSignSpec)

/-- 'laws.FnSigns', WHERE WHAT IT READS IS OF BULK AT MOST 1048576: true; the input reads as it did. -/
def fnSignsUptoRow : OpenClaim := { program := "ythfikpgbddpmoaa", sum := "fb4b5b9755f3671c186e8f096894444476d507ffd1aa50b2faa38c7310c62dff", func := "loop.example/g00143/laws.FnSigns", spec := "fnSigns", unfollowed := true, recurses := true, apart := false, narrowed := true }
def FnSignsUptoSaid : Prop := fnSignsUptoRow.holds Try.pinned (OpenSpec.upto fnSignsSpec)

/-- 'laws.FnExactTrustFault', WHERE WHAT IT READS IS OF BULK AT MOST 1048576: true; the input reads as it did. -/
def fnExactTrustFaultUptoRow : OpenClaim := { program := "ythfikpgbddpmoaa", sum := "fb4b5b9755f3671c186e8f096894444476d507ffd1aa50b2faa38c7310c62dff", func := "loop.example/g00143/laws.FnExactTrustFault", spec := "fnExactTrustFault", unfollowed := true, recurses := true, apart := false, narrowed := true }
def FnExactTrustFaultUptoSaid : Prop := fnExactTrustFaultUptoRow.holds Try.pinned (OpenSpec.upto fnExactTrustFaultSpec)

/-- 'laws.FnExactRootAt', WHERE WHAT IT READS IS OF BULK AT MOST 1048576: true; the input reads as it did. -/
def fnExactRootAtUptoRow : OpenClaim := { program := "ythfikpgbddpmoaa", sum := "fb4b5b9755f3671c186e8f096894444476d507ffd1aa50b2faa38c7310c62dff", func := "loop.example/g00143/laws.FnExactRootAt", spec := "fnExactRootAt", unfollowed := true, recurses := true, apart := false, narrowed := true }
def FnExactRootAtUptoSaid : Prop := fnExactRootAtUptoRow.holds Try.pinned (OpenSpec.upto fnExactRootAtSpec)

/-- 'laws.FnExactCheckEventB', WHERE WHAT IT READS IS OF BULK AT MOST 1048576: true; the input reads as it did. -/
def fnExactCheckEventBUptoRow : OpenClaim := { program := "ythfikpgbddpmoaa", sum := "fb4b5b9755f3671c186e8f096894444476d507ffd1aa50b2faa38c7310c62dff", func := "loop.example/g00143/laws.FnExactCheckEventB", spec := "fnExactCheckEventB", unfollowed := true, recurses := true, apart := false, narrowed := true }
def FnExactCheckEventBUptoSaid : Prop := fnExactCheckEventBUptoRow.holds Try.pinned (OpenSpec.upto fnExactCheckEventBSpec)

end Rows
end Go.Proofs.Ythfikpgbddpmoaa
