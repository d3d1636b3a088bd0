/-
  No cell of these rows narrows 'for every input' (looked for: loops, veiled, ifaces, maps, wideKeys, modest, calm, conditions, laid).
  DERIVED. THE GIVEN ROWS OF THIS SEAT. 8 by the template 'for every input the law returns true; each argument reads behind the call as it read before'; 0 by the template 'total and deterministic' (their statements: YtmaginepopldnaaTotals.lean).
  GIVEN WITH THE SEED: the statements are not yours to turn. If you find one false, say at which input.
  Laid BY PROGRAM, IN A SANDBOX (cutbox-rows.mjs): the forced cells as the released guide's own fill.sh prints them over the translation 9bc9a8dd0bb0b9e2… (all of the seat's roots in one cut). By AI agents, Wed Nov 11 2026. No macro, syntax, notation, axiom, sorry.
-/
import Derived.Test.YtmaginepopldnaaChecked
import GoSem.Claim
import GoSem.ClaimJoined
import GoSem.ClaimMapViews
import Derived.JoinedTies
import Derived.KernelRfl
namespace Go.Proofs.Ytmaginepopldnaa
/- THE CELL 'sum', in the pinned program and in every row, IS THE sha256 OF THE DUMP (.gsa) THAT YtmaginepopldnaaProg.lean LOADS. Nothing in Lean hashes anything: it is a label: what it is worth is what the hold of that sum in a sandbox is worth. -/
noncomputable def Try.pinned : Pinned := { name := "ytmaginepopldnaa", sum := "9bc9a8dd0bb0b9e2b6f5e2ea07939b82cd3bcdab91ee9db1998a909a5d42bc9f", checked := Try.checked }
namespace Rows
def none {H : Type} : Left H := { results := [], args := [] }

/-- 'laws.FnExactPauseLedger': WHATEVER THE INPUT: true; the input reads as it did. -/
def fnExactPauseLedgerSpec : ChangeSpec := { name := "fnExactPauseLedger", fn := fun _ => fun
  | [d1, d2] => { results := [.lit (.bool true)], args := [d1, d2] }
  | _ => none }
def fnExactPauseLedgerRow : OpenClaim := { program := "ytmaginepopldnaa", sum := "9bc9a8dd0bb0b9e2b6f5e2ea07939b82cd3bcdab91ee9db1998a909a5d42bc9f", func := "loop.example/g00143/laws.FnExactPauseLedger", spec := "fnExactPauseLedger", apart := false }
def FnExactPauseLedgerSaid : Prop := fnExactPauseLedgerRow.holds Try.pinned (OpenSpec.ofChange fnExactPauseLedgerSpec)

/-- ITS FALSE NEIGHBOUR: 'it returns false'. Refute it at one input. -/
def fnExactPauseLedgerWrong : ChangeSpec := { name := "fnExactPauseLedger", fn := fun _ => fun
  | [d1, d2] => { results := [.lit (.bool false)], args := [d1, d2] }
  | _ => none }
def FnExactPauseLedgerWrongFalsely : Prop := fnExactPauseLedgerRow.holds Try.pinned (OpenSpec.ofChange fnExactPauseLedgerWrong)

/-- 'laws.FnExactScanNonce': WHATEVER THE INPUT: true; the input reads as it did. -/
def fnExactScanNonceSpec : ChangeSpec := { name := "fnExactScanNonce", fn := fun _ => fun
  | [d1, d2] => { results := [.lit (.bool true)], args := [d1, d2] }
  | _ => none }
def fnExactScanNonceRow : OpenClaim := { program := "ytmaginepopldnaa", sum := "9bc9a8dd0bb0b9e2b6f5e2ea07939b82cd3bcdab91ee9db1998a909a5d42bc9f", func := "loop.example/g00143/laws.FnExactScanNonce", spec := "fnExactScanNonce", unfollowed := true, recurses := true, apart := false }
def FnExactScanNonceSaid : Prop := fnExactScanNonceRow.holds Try.pinned (OpenSpec.ofChange fnExactScanNonceSpec)

/-- ITS FALSE NEIGHBOUR: 'it returns false'. Refute it at one input. -/
def fnExactScanNonceWrong : ChangeSpec := { name := "fnExactScanNonce", fn := fun _ => fun
  | [d1, d2] => { results := [.lit (.bool false)], args := [d1, d2] }
  | _ => none }
def FnExactScanNonceWrongFalsely : Prop := fnExactScanNonceRow.holds Try.pinned (OpenSpec.ofChange fnExactScanNonceWrong)

/-- 'laws.FnExactFrameRecord': WHATEVER THE INPUT: true; the input reads as it did. -/
def fnExactFrameRecordSpec : ChangeSpec := { name := "fnExactFrameRecord", fn := fun _ => fun
  | [d] => { results := [.lit (.bool true)], args := [d] }
  | _ => none }
def fnExactFrameRecordRow : OpenClaim := { program := "ytmaginepopldnaa", sum := "9bc9a8dd0bb0b9e2b6f5e2ea07939b82cd3bcdab91ee9db1998a909a5d42bc9f", func := "loop.example/g00143/laws.FnExactFrameRecord", spec := "fnExactFrameRecord", unfollowed := true, recurses := true, apart := false }
def FnExactFrameRecordSaid : Prop := fnExactFrameRecordRow.holds Try.pinned (OpenSpec.ofChange fnExactFrameRecordSpec)

/-- ITS FALSE NEIGHBOUR: 'it returns false'. Refute it at one input. -/
def fnExactFrameRecordWrong : ChangeSpec := { name := "fnExactFrameRecord", fn := fun _ => fun
  | [d] => { results := [.lit (.bool false)], args := [d] }
  | _ => none }
def FnExactFrameRecordWrongFalsely : Prop := fnExactFrameRecordRow.holds Try.pinned (OpenSpec.ofChange fnExactFrameRecordWrong)

/-- 'laws.FnExactSettleItem': WHATEVER THE INPUT: true; the input reads as it did. -/
def fnExactSettleItemSpec : ChangeSpec := { name := "fnExactSettleItem", fn := fun _ => fun
  | [d1, d2] => { results := [.lit (.bool true)], args := [d1, d2] }
  | _ => none }
def fnExactSettleItemRow : OpenClaim := { program := "ytmaginepopldnaa", sum := "9bc9a8dd0bb0b9e2b6f5e2ea07939b82cd3bcdab91ee9db1998a909a5d42bc9f", func := "loop.example/g00143/laws.FnExactSettleItem", spec := "fnExactSettleItem", unfollowed := true, recurses := true, apart := false }
def FnExactSettleItemSaid : Prop := fnExactSettleItemRow.holds Try.pinned (OpenSpec.ofChange fnExactSettleItemSpec)

/-- ITS FALSE NEIGHBOUR: 'it returns false'. Refute it at one input. -/
def fnExactSettleItemWrong : ChangeSpec := { name := "fnExactSettleItem", fn := fun _ => fun
  | [d1, d2] => { results := [.lit (.bool false)], args := [d1, d2] }
  | _ => none }
def FnExactSettleItemWrongFalsely : Prop := fnExactSettleItemRow.holds Try.pinned (OpenSpec.ofChange fnExactSettleItemWrong)

/-- 'laws.FnExactTryItem': WHATEVER THE INPUT: true; the input reads as it did. -/
def fnExactTryItemSpec : ChangeSpec := { name := "fnExactTryItem", fn := fun _ => fun
  | [d1, d2, d3] => { results := [.lit (.bool true)], args := [d1, d2, d3] }
  | _ => none }
def fnExactTryItemRow : OpenClaim := { program := "ytmaginepopldnaa", sum := "9bc9a8dd0bb0b9e2b6f5e2ea07939b82cd3bcdab91ee9db1998a909a5d42bc9f", func := "loop.example/g00143/laws.FnExactTryItem", spec := "fnExactTryItem", unfollowed := true, recurses := true, apart := false }
def FnExactTryItemSaid : Prop := fnExactTryItemRow.holds Try.pinned (OpenSpec.ofChange fnExactTryItemSpec)

/-- ITS FALSE NEIGHBOUR: 'it returns false'. Refute it at one input. -/
def fnExactTryItemWrong : ChangeSpec := { name := "fnExactTryItem", fn := fun _ => fun
  | [d1, d2, d3] => { results := [.lit (.bool false)], args := [d1, d2, d3] }
  | _ => none }
def FnExactTryItemWrongFalsely : Prop := fnExactTryItemRow.holds Try.pinned (OpenSpec.ofChange fnExactTryItemWrong)

/-- 'laws.FnRecords': WHATEVER THE INPUT: true; the input reads as it did. -/
def fnRecordsSpec : ChangeSpec := { name := "fnRecords", fn := fun _ => fun
  | [d] => { results := [.lit (.bool true)], args := [d] }
  | _ => none }
def fnRecordsRow : OpenClaim := { program := "ytmaginepopldnaa", sum := "9bc9a8dd0bb0b9e2b6f5e2ea07939b82cd3bcdab91ee9db1998a909a5d42bc9f", func := "loop.example/g00143/laws.FnRecords", spec := "fnRecords", unfollowed := true, recurses := true, apart := false }
def FnRecordsSaid : Prop := fnRecordsRow.holds Try.pinned (OpenSpec.ofChange fnRecordsSpec)

/-- ITS FALSE NEIGHBOUR: 'it returns false'. Refute it at one input. -/
def fnRecordsWrong : ChangeSpec := { name := "fnRecords", fn := fun _ => fun
  | [d] => { results := [.lit (.bool false)], args := [d] }
  | _ => none }
def FnRecordsWrongFalsely : Prop := fnRecordsRow.holds Try.pinned (OpenSpec.ofChange fnRecordsWrong)

/-- 'laws.FnExactReadRecords': WHATEVER THE INPUT: true; the input reads as it did. -/
def fnExactReadRecordsSpec : ChangeSpec := { name := "fnExactReadRecords", fn := fun _ => fun
  | [d] => { results := [.lit (.bool true)], args := [d] }
  | _ => none }
def fnExactReadRecordsRow : OpenClaim := { program := "ytmaginepopldnaa", sum := "9bc9a8dd0bb0b9e2b6f5e2ea07939b82cd3bcdab91ee9db1998a909a5d42bc9f", func := "loop.example/g00143/laws.FnExactReadRecords", spec := "fnExactReadRecords", unfollowed := true, recurses := true, apart := false }
def FnExactReadRecordsSaid : Prop := fnExactReadRecordsRow.holds Try.pinned (OpenSpec.ofChange fnExactReadRecordsSpec)

/-- ITS FALSE NEIGHBOUR: 'it returns false'. Refute it at one input. -/
def fnExactReadRecordsWrong : ChangeSpec := { name := "fnExactReadRecords", fn := fun _ => fun
  | [d] => { results := [.lit (.bool false)], args := [d] }
  | _ => none }
def FnExactReadRecordsWrongFalsely : Prop := fnExactReadRecordsRow.holds Try.pinned (OpenSpec.ofChange fnExactReadRecordsWrong)

/-- 'laws.FnExactAppendLog': WHATEVER THE INPUT: true; the input reads as it did. -/
def fnExactAppendLogSpec : ChangeSpec := { name := "fnExactAppendLog", fn := fun _ => fun
  | [d1, d2] => { results := [.lit (.bool true)], args := [d1, d2] }
  | _ => none }
def fnExactAppendLogRow : OpenClaim := { program := "ytmaginepopldnaa", sum := "9bc9a8dd0bb0b9e2b6f5e2ea07939b82cd3bcdab91ee9db1998a909a5d42bc9f", func := "loop.example/g00143/laws.FnExactAppendLog", spec := "fnExactAppendLog", unfollowed := true, recurses := true, apart := false }
def FnExactAppendLogSaid : Prop := fnExactAppendLogRow.holds Try.pinned (OpenSpec.ofChange fnExactAppendLogSpec)

/-- ITS FALSE NEIGHBOUR: 'it returns false'. Refute it at one input. -/
def fnExactAppendLogWrong : ChangeSpec := { name := "fnExactAppendLog", fn := fun _ => fun
  | [d1, d2] => { results := [.lit (.bool false)], args := [d1, d2] }
  | _ => none }
def FnExactAppendLogWrongFalsely : Prop := fnExactAppendLogRow.holds Try.pinned (OpenSpec.ofChange fnExactAppendLogWrong)

/- THE SECOND FORM. 'bulk': how many values and letters a reading holds, each counted each time it is reached (what is shared counts as often as it is met; a slice's spare places count too). A statement '..UptoSaid' is the law's where the arguments, and the package variables that the reading takes, are together of bulk at most 1048576: NARROWER than '..Said'. Prove '..Said' where nothing that the law and all that it calls make is longer than what came in: it says more and counts as full. Else prove '..UptoSaid'. A law counts once. -/
mutual
def uptoBulk {H : Type} : DataW H → Nat
  | .lit (.string bytes) => bytes.length + 1
  | .lit _ => 1
  | .nil => 1
  | .ptr d => uptoBulk d + 1
  | .slice elems spare => uptoBulkAll elems + uptoBulkAll spare + 1
  | .agg parts => uptoBulkAll parts + 1
  | .iface _ d => uptoBulk d + 1
  | .map entries => uptoBulkEntries entries + 1
  | .held _ => 1
def uptoBulkAll {H : Type} : List (DataW H) → Nat
  | [] => 0
  | d :: r => uptoBulk d + uptoBulkAll r
def uptoBulkEntries {H : Type} : List (Lit × DataW H) → Nat
  | [] => 0
  | x :: r => uptoBulkEntry x + uptoBulkEntries r
def uptoBulkEntry {H : Type} : Lit × DataW H → Nat
  | (.string bytes, d) => bytes.length + uptoBulk d + 1
  | (_, d) => uptoBulk d + 1
 end
def uptoSmall : (H : Type) → List (DataW H) → Bool := fun _ ds => decide (uptoBulkAll ds ≤ 1048576)
def OpenSpec.upto (s : _root_.Go.ChangeSpec) : _root_.Go.OpenSpec := { _root_.Go.OpenSpec.ofChange s with cond := some uptoSmall }

/-- 'laws.FnExactPauseLedger', WHERE WHAT IT READS IS OF BULK AT MOST 1048576: true; the input reads as it did. -/
def fnExactPauseLedgerUptoRow : OpenClaim := { program := "ytmaginepopldnaa", sum := "9bc9a8dd0bb0b9e2b6f5e2ea07939b82cd3bcdab91ee9db1998a909a5d42bc9f", func := "loop.example/g00143/laws.FnExactPauseLedger", spec := "fnExactPauseLedger", apart := false, narrowed := true }
def FnExactPauseLedgerUptoSaid : Prop := fnExactPauseLedgerUptoRow.holds Try.pinned (OpenSpec.upto fnExactPauseLedgerSpec)

/-- 'laws.FnExactScanNonce', WHERE WHAT IT READS IS OF BULK AT MOST 1048576: true; the input reads as it did. -/
def fnExactScanNonceUptoRow : OpenClaim := { program := "ytmaginepopldnaa", sum := "9bc9a8dd0bb0b9e2b6f5e2ea07939b82cd3bcdab91ee9db1998a909a5d42bc9f", func := "loop.example/g00143/laws.FnExactScanNonce", spec := "fnExactScanNonce", unfollowed := true, recurses := true, apart := false, narrowed := true }
def FnExactScanNonceUptoSaid : Prop := fnExactScanNonceUptoRow.holds Try.pinned (OpenSpec.upto fnExactScanNonceSpec)

/-- 'laws.FnExactFrameRecord', WHERE WHAT IT READS IS OF BULK AT MOST 1048576: true; the input reads as it did. -/
def fnExactFrameRecordUptoRow : OpenClaim := { program := "ytmaginepopldnaa", sum := "9bc9a8dd0bb0b9e2b6f5e2ea07939b82cd3bcdab91ee9db1998a909a5d42bc9f", func := "loop.example/g00143/laws.FnExactFrameRecord", spec := "fnExactFrameRecord", unfollowed := true, recurses := true, apart := false, narrowed := true }
def FnExactFrameRecordUptoSaid : Prop := fnExactFrameRecordUptoRow.holds Try.pinned (OpenSpec.upto fnExactFrameRecordSpec)

/-- 'laws.FnExactSettleItem', WHERE WHAT IT READS IS OF BULK AT MOST 1048576: true; the input reads as it did. -/
def fnExactSettleItemUptoRow : OpenClaim := { program := "ytmaginepopldnaa", sum := "9bc9a8dd0bb0b9e2b6f5e2ea07939b82cd3bcdab91ee9db1998a909a5d42bc9f", func := "loop.example/g00143/laws.FnExactSettleItem", spec := "fnExactSettleItem", unfollowed := true, recurses := true, apart := false, narrowed := true }
def FnExactSettleItemUptoSaid : Prop := fnExactSettleItemUptoRow.holds Try.pinned (OpenSpec.upto fnExactSettleItemSpec)

/-- 'laws.FnExactTryItem', WHERE WHAT IT READS IS OF BULK AT MOST 1048576: true; the input reads as it did. -/
def fnExactTryItemUptoRow : OpenClaim := { program := "ytmaginepopldnaa", sum := "9bc9a8dd0bb0b9e2b6f5e2ea07939b82cd3bcdab91ee9db1998a909a5d42bc9f", func := "loop.example/g00143/laws.FnExactTryItem", spec := "fnExactTryItem", unfollowed := true, recurses := true, apart := false, narrowed := true }
def FnExactTryItemUptoSaid : Prop := fnExactTryItemUptoRow.holds Try.pinned (OpenSpec.upto fnExactTryItemSpec)

/-- 'laws.FnRecords', WHERE WHAT IT READS IS OF BULK AT MOST 1048576: true; the input reads as it did. -/
def fnRecordsUptoRow : OpenClaim := { program := "ytmaginepopldnaa", sum := "9bc9a8dd0bb0b9e2b6f5e2ea07939b82cd3bcdab91ee9db1998a909a5d42bc9f", func := "loop.example/g00143/laws.FnRecords", spec := "fnRecords", unfollowed := true, recurses := true, apart := false, narrowed := true }
def FnRecordsUptoSaid : Prop := fnRecordsUptoRow.holds Try.pinned (OpenSpec.upto fnRecordsSpec)

/-- 'laws.FnExactReadRecords', WHERE WHAT IT READS IS OF BULK AT MOST 1048576: true; the input reads as it did. -/
def fnExactReadRecordsUptoRow : OpenClaim := { program := "ytmaginepopldnaa", sum := "9bc9a8dd0bb0b9e2b6f5e2ea07939b82cd3bcdab91ee9db1998a909a5d42bc9f", func := "loop.example/g00143/laws.FnExactReadRecords", spec := "fnExactReadRecords", unfollowed := true, recurses := true, apart := false, narrowed := true }
def FnExactReadRecordsUptoSaid : Prop := fnExactReadRecordsUptoRow.holds Try.pinned (OpenSpec.upto fnExactReadRecordsSpec)

/-- 'laws.FnExactAppendLog', WHERE WHAT IT READS IS OF BULK AT MOST 1048576: true; the input reads as it did. -/
def fnExactAppendLogUptoRow : OpenClaim := { program := "ytmaginepopldnaa", sum := "9bc9a8dd0bb0b9e2b6f5e2ea07939b82cd3bcdab91ee9db1998a909a5d42bc9f", func := "loop.example/g00143/laws.FnExactAppendLog", spec := "fnExactAppendLog", unfollowed := true, recurses := true, apart := false, narrowed := true }
def FnExactAppendLogUptoSaid : Prop := fnExactAppendLogUptoRow.holds Try.pinned (OpenSpec.upto fnExactAppendLogSpec)

end Rows
end Go.Proofs.Ytmaginepopldnaa
