/-
  No cell of these rows narrows 'for every input' (looked for: loops, veiled, ifaces, maps, wideKeys, modest, calm, conditions, laid).
  DERIVED. THE GIVEN ROWS OF THIS SEAT. 12 by the template 'for every input the law returns true; each argument reads behind the call as it read before'; 0 by the template 'total and deterministic' (their statements: YtgakkecaflppfaaTotals.lean).
  GIVEN WITH THE SEED: the statements are not yours to turn. If you find one false, say at which input.
  Laid BY PROGRAM, IN A SANDBOX (cutbox-rows.mjs): the forced cells as the released guide's own fill.sh prints them over the translation ab29e7677aaa2983… (all of the seat's roots in one cut). By AI agents, Wed Nov 11 2026. No macro, syntax, notation, axiom, sorry.
-/
import Derived.Test.YtgakkecaflppfaaChecked
import GoSem.Claim
import GoSem.ClaimJoined
import GoSem.ClaimMapViews
import Derived.JoinedTies
import Derived.KernelRfl
namespace Go.Proofs.Ytgakkecaflppfaa
/- THE CELL 'sum', in the pinned program and in every row, IS THE sha256 OF THE DUMP (.gsa) THAT YtgakkecaflppfaaProg.lean LOADS. Nothing in Lean hashes anything: it is a label: what it is worth is what the hold of that sum in a sandbox is worth. -/
noncomputable def Try.pinned : Pinned := { name := "ytgakkecaflppfaa", sum := "ab29e7677aaa298304a36137d06f3aa40526be45d07e4e9b391397b5272c87cf", checked := Try.checked }
namespace Rows
def none {H : Type} : Left H := { results := [], args := [] }

/-- 'laws.FnExactLatestBy': WHATEVER THE INPUT: true; the input reads as it did. -/
def fnExactLatestBySpec : ChangeSpec := { name := "fnExactLatestBy", fn := fun _ => fun
  | [d1, d2] => { results := [.lit (.bool true)], args := [d1, d2] }
  | _ => none }
def fnExactLatestByRow : OpenClaim := { program := "ytgakkecaflppfaa", sum := "ab29e7677aaa298304a36137d06f3aa40526be45d07e4e9b391397b5272c87cf", func := "loop.example/g00143/laws.FnExactLatestBy", spec := "fnExactLatestBy", apart := false }
def FnExactLatestBySaid : Prop := fnExactLatestByRow.holds Try.pinned (OpenSpec.ofChange fnExactLatestBySpec)

/-- ITS FALSE NEIGHBOUR: 'it returns false'. Refute it at one input. -/
def fnExactLatestByWrong : ChangeSpec := { name := "fnExactLatestBy", fn := fun _ => fun
  | [d1, d2] => { results := [.lit (.bool false)], args := [d1, d2] }
  | _ => none }
def FnExactLatestByWrongFalsely : Prop := fnExactLatestByRow.holds Try.pinned (OpenSpec.ofChange fnExactLatestByWrong)

/-- 'laws.FnExactLogFault': WHATEVER THE INPUT: true; the input reads as it did. -/
def fnExactLogFaultSpec : ChangeSpec := { name := "fnExactLogFault", fn := fun _ => fun
  | [d] => { results := [.lit (.bool true)], args := [d] }
  | _ => none }
def fnExactLogFaultRow : OpenClaim := { program := "ytgakkecaflppfaa", sum := "ab29e7677aaa298304a36137d06f3aa40526be45d07e4e9b391397b5272c87cf", func := "loop.example/g00143/laws.FnExactLogFault", spec := "fnExactLogFault", apart := false }
def FnExactLogFaultSaid : Prop := fnExactLogFaultRow.holds Try.pinned (OpenSpec.ofChange fnExactLogFaultSpec)

/-- ITS FALSE NEIGHBOUR: 'it returns false'. Refute it at one input. -/
def fnExactLogFaultWrong : ChangeSpec := { name := "fnExactLogFault", fn := fun _ => fun
  | [d] => { results := [.lit (.bool false)], args := [d] }
  | _ => none }
def FnExactLogFaultWrongFalsely : Prop := fnExactLogFaultRow.holds Try.pinned (OpenSpec.ofChange fnExactLogFaultWrong)

/-- 'laws.FnExactRecordOf': WHATEVER THE INPUT: true; the input reads as it did. -/
def fnExactRecordOfSpec : ChangeSpec := { name := "fnExactRecordOf", fn := fun _ => fun
  | [d1, d2, d3] => { results := [.lit (.bool true)], args := [d1, d2, d3] }
  | _ => none }
def fnExactRecordOfRow : OpenClaim := { program := "ytgakkecaflppfaa", sum := "ab29e7677aaa298304a36137d06f3aa40526be45d07e4e9b391397b5272c87cf", func := "loop.example/g00143/laws.FnExactRecordOf", spec := "fnExactRecordOf", apart := false }
def FnExactRecordOfSaid : Prop := fnExactRecordOfRow.holds Try.pinned (OpenSpec.ofChange fnExactRecordOfSpec)

/-- ITS FALSE NEIGHBOUR: 'it returns false'. Refute it at one input. -/
def fnExactRecordOfWrong : ChangeSpec := { name := "fnExactRecordOf", fn := fun _ => fun
  | [d1, d2, d3] => { results := [.lit (.bool false)], args := [d1, d2, d3] }
  | _ => none }
def FnExactRecordOfWrongFalsely : Prop := fnExactRecordOfRow.holds Try.pinned (OpenSpec.ofChange fnExactRecordOfWrong)

/-- 'laws.FnExactRelayerFault': WHATEVER THE INPUT: true; the input reads as it did. -/
def fnExactRelayerFaultSpec : ChangeSpec := { name := "fnExactRelayerFault", fn := fun _ => fun
  | [d] => { results := [.lit (.bool true)], args := [d] }
  | _ => none }
def fnExactRelayerFaultRow : OpenClaim := { program := "ytgakkecaflppfaa", sum := "ab29e7677aaa298304a36137d06f3aa40526be45d07e4e9b391397b5272c87cf", func := "loop.example/g00143/laws.FnExactRelayerFault", spec := "fnExactRelayerFault", apart := false }
def FnExactRelayerFaultSaid : Prop := fnExactRelayerFaultRow.holds Try.pinned (OpenSpec.ofChange fnExactRelayerFaultSpec)

/-- ITS FALSE NEIGHBOUR: 'it returns false'. Refute it at one input. -/
def fnExactRelayerFaultWrong : ChangeSpec := { name := "fnExactRelayerFault", fn := fun _ => fun
  | [d] => { results := [.lit (.bool false)], args := [d] }
  | _ => none }
def FnExactRelayerFaultWrongFalsely : Prop := fnExactRelayerFaultRow.holds Try.pinned (OpenSpec.ofChange fnExactRelayerFaultWrong)

/-- 'laws.FnExactNewLedger': WHATEVER THE INPUT: true; the input reads as it did. -/
def fnExactNewLedgerSpec : ChangeSpec := { name := "fnExactNewLedger", fn := fun _ => fun
  | [d1, d2] => { results := [.lit (.bool true)], args := [d1, d2] }
  | _ => none }
def fnExactNewLedgerRow : OpenClaim := { program := "ytgakkecaflppfaa", sum := "ab29e7677aaa298304a36137d06f3aa40526be45d07e4e9b391397b5272c87cf", func := "loop.example/g00143/laws.FnExactNewLedger", spec := "fnExactNewLedger", apart := false }
def FnExactNewLedgerSaid : Prop := fnExactNewLedgerRow.holds Try.pinned (OpenSpec.ofChange fnExactNewLedgerSpec)

/-- ITS FALSE NEIGHBOUR: 'it returns false'. Refute it at one input. -/
def fnExactNewLedgerWrong : ChangeSpec := { name := "fnExactNewLedger", fn := fun _ => fun
  | [d1, d2] => { results := [.lit (.bool false)], args := [d1, d2] }
  | _ => none }
def FnExactNewLedgerWrongFalsely : Prop := fnExactNewLedgerRow.holds Try.pinned (OpenSpec.ofChange fnExactNewLedgerWrong)

/-- 'laws.FnExactLedgerFault': WHATEVER THE INPUT: true; the input reads as it did. -/
def fnExactLedgerFaultSpec : ChangeSpec := { name := "fnExactLedgerFault", fn := fun _ => fun
  | [d] => { results := [.lit (.bool true)], args := [d] }
  | _ => none }
def fnExactLedgerFaultRow : OpenClaim := { program := "ytgakkecaflppfaa", sum := "ab29e7677aaa298304a36137d06f3aa40526be45d07e4e9b391397b5272c87cf", func := "loop.example/g00143/laws.FnExactLedgerFault", spec := "fnExactLedgerFault", apart := false }
def FnExactLedgerFaultSaid : Prop := fnExactLedgerFaultRow.holds Try.pinned (OpenSpec.ofChange fnExactLedgerFaultSpec)

/-- ITS FALSE NEIGHBOUR: 'it returns false'. Refute it at one input. -/
def fnExactLedgerFaultWrong : ChangeSpec := { name := "fnExactLedgerFault", fn := fun _ => fun
  | [d] => { results := [.lit (.bool false)], args := [d] }
  | _ => none }
def FnExactLedgerFaultWrongFalsely : Prop := fnExactLedgerFaultRow.holds Try.pinned (OpenSpec.ofChange fnExactLedgerFaultWrong)

/-- 'laws.FnLatest': WHATEVER THE INPUT: true; the input reads as it did. -/
def fnLatestSpec : ChangeSpec := { name := "fnLatest", fn := fun _ => fun
  | [d] => { results := [.lit (.bool true)], args := [d] }
  | _ => none }
def fnLatestRow : OpenClaim := { program := "ytgakkecaflppfaa", sum := "ab29e7677aaa298304a36137d06f3aa40526be45d07e4e9b391397b5272c87cf", func := "loop.example/g00143/laws.FnLatest", spec := "fnLatest", unfollowed := true, recurses := true, apart := false }
def FnLatestSaid : Prop := fnLatestRow.holds Try.pinned (OpenSpec.ofChange fnLatestSpec)

/-- ITS FALSE NEIGHBOUR: 'it returns false'. Refute it at one input. -/
def fnLatestWrong : ChangeSpec := { name := "fnLatest", fn := fun _ => fun
  | [d] => { results := [.lit (.bool false)], args := [d] }
  | _ => none }
def FnLatestWrongFalsely : Prop := fnLatestRow.holds Try.pinned (OpenSpec.ofChange fnLatestWrong)

/-- 'laws.FnExactHeldBy': WHATEVER THE INPUT: true; the input reads as it did. -/
def fnExactHeldBySpec : ChangeSpec := { name := "fnExactHeldBy", fn := fun _ => fun
  | [d] => { results := [.lit (.bool true)], args := [d] }
  | _ => none }
def fnExactHeldByRow : OpenClaim := { program := "ytgakkecaflppfaa", sum := "ab29e7677aaa298304a36137d06f3aa40526be45d07e4e9b391397b5272c87cf", func := "loop.example/g00143/laws.FnExactHeldBy", spec := "fnExactHeldBy", apart := false }
def FnExactHeldBySaid : Prop := fnExactHeldByRow.holds Try.pinned (OpenSpec.ofChange fnExactHeldBySpec)

/-- ITS FALSE NEIGHBOUR: 'it returns false'. Refute it at one input. -/
def fnExactHeldByWrong : ChangeSpec := { name := "fnExactHeldBy", fn := fun _ => fun
  | [d] => { results := [.lit (.bool false)], args := [d] }
  | _ => none }
def FnExactHeldByWrongFalsely : Prop := fnExactHeldByRow.holds Try.pinned (OpenSpec.ofChange fnExactHeldByWrong)

/-- 'laws.FnExactDueItem': WHATEVER THE INPUT: true; the input reads as it did. -/
def fnExactDueItemSpec : ChangeSpec := { name := "fnExactDueItem", fn := fun _ => fun
  | [d1, d2] => { results := [.lit (.bool true)], args := [d1, d2] }
  | _ => none }
def fnExactDueItemRow : OpenClaim := { program := "ytgakkecaflppfaa", sum := "ab29e7677aaa298304a36137d06f3aa40526be45d07e4e9b391397b5272c87cf", func := "loop.example/g00143/laws.FnExactDueItem", spec := "fnExactDueItem", apart := false }
def FnExactDueItemSaid : Prop := fnExactDueItemRow.holds Try.pinned (OpenSpec.ofChange fnExactDueItemSpec)

/-- ITS FALSE NEIGHBOUR: 'it returns false'. Refute it at one input. -/
def fnExactDueItemWrong : ChangeSpec := { name := "fnExactDueItem", fn := fun _ => fun
  | [d1, d2] => { results := [.lit (.bool false)], args := [d1, d2] }
  | _ => none }
def FnExactDueItemWrongFalsely : Prop := fnExactDueItemRow.holds Try.pinned (OpenSpec.ofChange fnExactDueItemWrong)

/-- 'laws.FnExactSyncLog': WHATEVER THE INPUT: true; the input reads as it did. -/
def fnExactSyncLogSpec : ChangeSpec := { name := "fnExactSyncLog", fn := fun _ => fun
  | [d] => { results := [.lit (.bool true)], args := [d] }
  | _ => none }
def fnExactSyncLogRow : OpenClaim := { program := "ytgakkecaflppfaa", sum := "ab29e7677aaa298304a36137d06f3aa40526be45d07e4e9b391397b5272c87cf", func := "loop.example/g00143/laws.FnExactSyncLog", spec := "fnExactSyncLog", apart := false }
def FnExactSyncLogSaid : Prop := fnExactSyncLogRow.holds Try.pinned (OpenSpec.ofChange fnExactSyncLogSpec)

/-- ITS FALSE NEIGHBOUR: 'it returns false'. Refute it at one input. -/
def fnExactSyncLogWrong : ChangeSpec := { name := "fnExactSyncLog", fn := fun _ => fun
  | [d] => { results := [.lit (.bool false)], args := [d] }
  | _ => none }
def FnExactSyncLogWrongFalsely : Prop := fnExactSyncLogRow.holds Try.pinned (OpenSpec.ofChange fnExactSyncLogWrong)

/-- 'laws.FnExactCrashLog': WHATEVER THE INPUT: true; the input reads as it did. -/
def fnExactCrashLogSpec : ChangeSpec := { name := "fnExactCrashLog", fn := fun _ => fun
  | [d1, d2] => { results := [.lit (.bool true)], args := [d1, d2] }
  | _ => none }
def fnExactCrashLogRow : OpenClaim := { program := "ytgakkecaflppfaa", sum := "ab29e7677aaa298304a36137d06f3aa40526be45d07e4e9b391397b5272c87cf", func := "loop.example/g00143/laws.FnExactCrashLog", spec := "fnExactCrashLog", apart := false }
def FnExactCrashLogSaid : Prop := fnExactCrashLogRow.holds Try.pinned (OpenSpec.ofChange fnExactCrashLogSpec)

/-- ITS FALSE NEIGHBOUR: 'it returns false'. Refute it at one input. -/
def fnExactCrashLogWrong : ChangeSpec := { name := "fnExactCrashLog", fn := fun _ => fun
  | [d1, d2] => { results := [.lit (.bool false)], args := [d1, d2] }
  | _ => none }
def FnExactCrashLogWrongFalsely : Prop := fnExactCrashLogRow.holds Try.pinned (OpenSpec.ofChange fnExactCrashLogWrong)

/-- 'laws.FnDues': WHATEVER THE INPUT: true; the input reads as it did. -/
def fnDuesSpec : ChangeSpec := { name := "fnDues", fn := fun _ => fun
  | [d] => { results := [.lit (.bool true)], args := [d] }
  | _ => none }
def fnDuesRow : OpenClaim := { program := "ytgakkecaflppfaa", sum := "ab29e7677aaa298304a36137d06f3aa40526be45d07e4e9b391397b5272c87cf", func := "loop.example/g00143/laws.FnDues", spec := "fnDues", apart := false }
def FnDuesSaid : Prop := fnDuesRow.holds Try.pinned (OpenSpec.ofChange fnDuesSpec)

/-- ITS FALSE NEIGHBOUR: 'it returns false'. Refute it at one input. -/
def fnDuesWrong : ChangeSpec := { name := "fnDues", fn := fun _ => fun
  | [d] => { results := [.lit (.bool false)], args := [d] }
  | _ => none }
def FnDuesWrongFalsely : Prop := fnDuesRow.holds Try.pinned (OpenSpec.ofChange fnDuesWrong)

/- THE SECOND FORM. 'bulk': how many values and letters a reading holds, each counted each time it is reached (what is shared counts as often as it is met; a slice's spare places count too). A statement '..UptoSaid' is the law's where the arguments, and the package variables that the reading takes, are together of bulk at most 1048576: NARROWER than '..Said'. Prove '..Said' where nothing that the law and all that it calls make is longer than what came in: it says more and counts as full. Else prove '..UptoSaid'. A law counts once. -/
mutual
def uptoBulk {H : Type} : DataW H → Nat
  | .lit (.string bytes) => bytes.length + 1
  | .lit _ => 1
  | .nil => 1
  | .ptr d => uptoBulk d + 1
  | .slice elems spare => uptoBulkAll elems + uptoBulkAll spare + 1
  | .agg parts => uptoBulkAll parts + 1
  | .iface _ d => uptoBulk d + 1
  | .map entries => uptoBulkEntries entries + 1
  | .held _ => 1
def uptoBulkAll {H : Type} : List (DataW H) → Nat
  | [] => 0
  | d :: r => uptoBulk d + uptoBulkAll r
def uptoBulkEntries {H : Type} : List (Lit × DataW H) → Nat
  | [] => 0
  | x :: r => uptoBulkEntry x + uptoBulkEntries r
def uptoBulkEntry {H : Type} : Lit × DataW H → Nat
  | (.string bytes, d) => bytes.length + uptoBulk d + 1
  | (_, d) => uptoBulk d + 1
 end
def uptoSmall : (H : Type) → List (DataW H) → Bool := fun _ ds => decide (uptoBulkAll ds ≤ 1048576)
def OpenSpec.upto (s : _root_.Go.ChangeSpec) : _root_.Go.OpenSpec := { _root_.Go.OpenSpec.ofChange s with cond := some uptoSmall }

/-- 'laws.FnExactLatestBy', WHERE WHAT IT READS IS OF BULK AT MOST 1048576: true; the input reads as it did. -/
def fnExactLatestByUptoRow : OpenClaim := { program := "ytgakkecaflppfaa", sum := "ab29e7677aaa298304a36137d06f3aa40526be45d07e4e9b391397b5272c87cf", func := "loop.example/g00143/laws.FnExactLatestBy", spec := "fnExactLatestBy", apart := false, narrowed := true }
def FnExactLatestByUptoSaid : Prop := fnExactLatestByUptoRow.holds Try.pinned (OpenSpec.upto fnExactLatestBySpec)

/-- 'laws.FnExactLogFault', WHERE WHAT IT READS IS OF BULK AT MOST 1048576: true; the input reads as it did. -/
def fnExactLogFaultUptoRow : OpenClaim := { program := "ytgakkecaflppfaa", sum := "ab29e7677aaa298304a36137d06f3aa40526be45d07e4e9b391397b5272c87cf", func := "loop.example/g00143/laws.FnExactLogFault", spec := "fnExactLogFault", apart := false, narrowed := true }
def FnExactLogFaultUptoSaid : Prop := fnExactLogFaultUptoRow.holds Try.pinned (OpenSpec.upto fnExactLogFaultSpec)

/-- 'laws.FnExactRecordOf', WHERE WHAT IT READS IS OF BULK AT MOST 1048576: true; the input reads as it did. -/
def fnExactRecordOfUptoRow : OpenClaim := { program := "ytgakkecaflppfaa", sum := "ab29e7677aaa298304a36137d06f3aa40526be45d07e4e9b391397b5272c87cf", func := "loop.example/g00143/laws.FnExactRecordOf", spec := "fnExactRecordOf", apart := false, narrowed := true }
def FnExactRecordOfUptoSaid : Prop := fnExactRecordOfUptoRow.holds Try.pinned (OpenSpec.upto fnExactRecordOfSpec)

/-- 'laws.FnExactRelayerFault', WHERE WHAT IT READS IS OF BULK AT MOST 1048576: true; the input reads as it did. -/
def fnExactRelayerFaultUptoRow : OpenClaim := { program := "ytgakkecaflppfaa", sum := "ab29e7677aaa298304a36137d06f3aa40526be45d07e4e9b391397b5272c87cf", func := "loop.example/g00143/laws.FnExactRelayerFault", spec := "fnExactRelayerFault", apart := false, narrowed := true }
def FnExactRelayerFaultUptoSaid : Prop := fnExactRelayerFaultUptoRow.holds Try.pinned (OpenSpec.upto fnExactRelayerFaultSpec)

/-- 'laws.FnExactNewLedger', WHERE WHAT IT READS IS OF BULK AT MOST 1048576: true; the input reads as it did. -/
def fnExactNewLedgerUptoRow : OpenClaim := { program := "ytgakkecaflppfaa", sum := "ab29e7677aaa298304a36137d06f3aa40526be45d07e4e9b391397b5272c87cf", func := "loop.example/g00143/laws.FnExactNewLedger", spec := "fnExactNewLedger", apart := false, narrowed := true }
def FnExactNewLedgerUptoSaid : Prop := fnExactNewLedgerUptoRow.holds Try.pinned (OpenSpec.upto fnExactNewLedgerSpec)

/-- 'laws.FnExactLedgerFault', WHERE WHAT IT READS IS OF BULK AT MOST 1048576: true; the input reads as it did. -/
def fnExactLedgerFaultUptoRow : OpenClaim := { program := "ytgakkecaflppfaa", sum := "ab29e7677aaa298304a36137d06f3aa40526be45d07e4e9b391397b5272c87cf", func := "loop.example/g00143/laws.FnExactLedgerFault", spec := "fnExactLedgerFault", apart := false, narrowed := true }
def FnExactLedgerFaultUptoSaid : Prop := fnExactLedgerFaultUptoRow.holds Try.pinned (OpenSpec.upto fnExactLedgerFaultSpec)

/-- 'laws.FnLatest', WHERE WHAT IT READS IS OF BULK AT MOST 1048576: true; the input reads as it did. -/
def fnLatestUptoRow : OpenClaim := { program := "ytgakkecaflppfaa", sum := "ab29e7677aaa298304a36137d06f3aa40526be45d07e4e9b391397b5272c87cf", func := "loop.example/g00143/laws.FnLatest", spec := "fnLatest", unfollowed := true, recurses := true, apart := false, narrowed := true }
def FnLatestUptoSaid : Prop := fnLatestUptoRow.holds Try.pinned (OpenSpec.upto fnLatestSpec)

/-- 'laws.FnExactHeldBy', WHERE WHAT IT READS IS OF BULK AT MOST 1048576: true; the input reads as it did. -/
def fnExactHeldByUptoRow : OpenClaim := { program := "ytgakkecaflppfaa", sum := "ab29e7677aaa298304a36137d06f3aa40526be45d07e4e9b391397b5272c87cf", func := "loop.example/g00143/laws.FnExactHeldBy", spec := "fnExactHeldBy", apart := false, narrowed := true }
def FnExactHeldByUptoSaid : Prop := fnExactHeldByUptoRow.holds Try.pinned (OpenSpec.upto fnExactHeldBySpec)

/-- 'laws.FnExactDueItem', WHERE WHAT IT READS IS OF BULK AT MOST 1048576: true; the input reads as it did. -/
def fnExactDueItemUptoRow : OpenClaim := { program := "ytgakkecaflppfaa", sum := "ab29e7677aaa298304a36137d06f3aa40526be45d07e4e9b391397b5272c87cf", func := "loop.example/g00143/laws.FnExactDueItem", spec := "fnExactDueItem", apart := false, narrowed := true }
def FnExactDueItemUptoSaid : Prop := fnExactDueItemUptoRow.holds Try.pinned (OpenSpec.upto fnExactDueItemSpec)

/-- 'laws.FnExactSyncLog', WHERE WHAT IT READS IS OF BULK AT MOST 1048576: true; the input reads as it did. -/
def fnExactSyncLogUptoRow : OpenClaim := { program := "ytgakkecaflppfaa", sum := "ab29e7677aaa298304a36137d06f3aa40526be45d07e4e9b391397b5272c87cf", func := "loop.example/g00143/laws.FnExactSyncLog", spec := "fnExactSyncLog", apart := false, narrowed := true }
def FnExactSyncLogUptoSaid : Prop := fnExactSyncLogUptoRow.holds Try.pinned (OpenSpec.upto fnExactSyncLogSpec)

/-- 'laws.FnExactCrashLog', WHERE WHAT IT READS IS OF BULK AT MOST 1048576: true; the input reads as it did. -/
def fnExactCrashLogUptoRow : OpenClaim := { program := "ytgakkecaflppfaa", sum := "ab29e7677aaa298304a36137d06f3aa40526be45d07e4e9b391397b5272c87cf", func := "loop.example/g00143/laws.FnExactCrashLog", spec := "fnExactCrashLog", apart := false, narrowed := true }
def FnExactCrashLogUptoSaid : Prop := fnExactCrashLogUptoRow.holds Try.pinned (OpenSpec.upto fnExactCrashLogSpec)

/-- 'laws.FnDues', WHERE WHAT IT READS IS OF BULK AT MOST 1048576: true; the input reads as it did. -/
def fnDuesUptoRow : OpenClaim := { program := "ytgakkecaflppfaa", sum := "ab29e7677aaa298304a36137d06f3aa40526be45d07e4e9b391397b5272c87cf", func := "loop.example/g00143/laws.FnDues", spec := "fnDues", apart := false, narrowed := true }
def FnDuesUptoSaid : Prop := fnDuesUptoRow.holds Try.pinned (OpenSpec.upto fnDuesSpec)

end Rows
end Go.Proofs.Ytgakkecaflppfaa
