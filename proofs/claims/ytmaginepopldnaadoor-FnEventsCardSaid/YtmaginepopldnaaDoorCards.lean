/-
  DERIVED. GIVEN WITH THE SEED: THE CARDS: each row of YtmaginepopldnaaDoorRows.lean that lists a variable, with what it lists TIED to the program's text (the seventh form; the later family's looks); each row that meets fmt, with fmt's text TOLD by the authors' own Lean function (tested against real Go, not proved from fmt's source: count such statements apart). THE CARD IS WHAT COUNTS. Prove the row's statement (the work); the ties are given (YtmaginepopldnaaDoorTie.lean); close each card by the builder's one call (the guide's Derived/Test/ToyasCard.lean, 'card_holds'). Laid BY PROGRAM, IN A SANDBOX (cutbox-door.mjs). By AI agents, Wed Nov 11 2026. No macro, syntax, notation, axiom, sorry.
-/
import Derived.Test.YtmaginepopldnaaDoorRows
import GoSem.ClaimSeven
namespace Go.Proofs.YtmaginepopldnaaDoor
namespace Rows

/-- THE TIED CARD OF 'laws.FnExactEventFault'. -/
def fnExactEventFaultCard : Claim7 := { stood := { row := fnExactEventFaultRow, standIns := [], harness := (true, "34fb51effb2ce51885d36fbfb4fcaaeb74c177af5617b17b4141d75c758b31f6"), looks := false }, kinds := [], alts := [], laidByText := true, laidKinds := [.data, .pinned], laidTests := true, laidLooks := .later }
def FnExactEventFaultCardSaid : Prop := Claim7.holds Tryd.pinned (.plain (OpenSpec.ofChange fnExactEventFaultSpec)) fnExactEventFaultCard

/-- THE TIED CARD OF 'laws.FnExactPackEvent'. -/
def fnExactPackEventCard : Claim7 := { stood := { row := fnExactPackEventRow, standIns := [], harness := (true, "34fb51effb2ce51885d36fbfb4fcaaeb74c177af5617b17b4141d75c758b31f6"), looks := false }, kinds := [], alts := [], laidByText := true, laidKinds := [.data, .pinned], laidTests := true, laidLooks := .later }
def FnExactPackEventCardSaid : Prop := Claim7.holds Tryd.pinned (.plain (OpenSpec.ofChange fnExactPackEventSpec)) fnExactPackEventCard

/-- THE TIED CARD OF 'laws.FnExactUnpackEvent'. -/
def fnExactUnpackEventCard : Claim7 := { stood := { row := fnExactUnpackEventRow, standIns := [], harness := (true, "34fb51effb2ce51885d36fbfb4fcaaeb74c177af5617b17b4141d75c758b31f6"), looks := false }, kinds := [], alts := [], laidByText := true, laidKinds := [.data, .pinned], laidTests := true, laidLooks := .later }
def FnExactUnpackEventCardSaid : Prop := Claim7.holds Tryd.pinned (.plain (OpenSpec.ofChange fnExactUnpackEventSpec)) fnExactUnpackEventCard

/-- THE TIED CARD OF 'laws.FnEvents'. -/
def fnEventsCard : Claim7 := { stood := { row := fnEventsRow, standIns := [], harness := (true, "34fb51effb2ce51885d36fbfb4fcaaeb74c177af5617b17b4141d75c758b31f6"), looks := false }, kinds := [], alts := [], laidByText := true, laidKinds := [.data, .pinned], laidTests := true, laidLooks := .later }
def FnEventsCardSaid : Prop := Claim7.holds Tryd.pinned (.plain (OpenSpec.ofChange fnEventsSpec)) fnEventsCard

/-- THE SECOND FORM's CARD OF 'laws.FnExactEventFault'. -/
def fnExactEventFaultUptoCard : Claim7 := { stood := { row := fnExactEventFaultUptoRow, standIns := [], harness := (true, "34fb51effb2ce51885d36fbfb4fcaaeb74c177af5617b17b4141d75c758b31f6"), looks := false }, kinds := [], alts := [], laidByText := true, laidKinds := [.data, .pinned], laidTests := true, laidLooks := .later }
def FnExactEventFaultUptoCardSaid : Prop := Claim7.holds Tryd.pinned (.plain (OpenSpec.upto fnExactEventFaultSpec)) fnExactEventFaultUptoCard

/-- THE SECOND FORM's CARD OF 'laws.FnExactPackEvent'. -/
def fnExactPackEventUptoCard : Claim7 := { stood := { row := fnExactPackEventUptoRow, standIns := [], harness := (true, "34fb51effb2ce51885d36fbfb4fcaaeb74c177af5617b17b4141d75c758b31f6"), looks := false }, kinds := [], alts := [], laidByText := true, laidKinds := [.data, .pinned], laidTests := true, laidLooks := .later }
def FnExactPackEventUptoCardSaid : Prop := Claim7.holds Tryd.pinned (.plain (OpenSpec.upto fnExactPackEventSpec)) fnExactPackEventUptoCard

/-- THE SECOND FORM's CARD OF 'laws.FnExactUnpackEvent'. -/
def fnExactUnpackEventUptoCard : Claim7 := { stood := { row := fnExactUnpackEventUptoRow, standIns := [], harness := (true, "34fb51effb2ce51885d36fbfb4fcaaeb74c177af5617b17b4141d75c758b31f6"), looks := false }, kinds := [], alts := [], laidByText := true, laidKinds := [.data, .pinned], laidTests := true, laidLooks := .later }
def FnExactUnpackEventUptoCardSaid : Prop := Claim7.holds Tryd.pinned (.plain (OpenSpec.upto fnExactUnpackEventSpec)) fnExactUnpackEventUptoCard

/-- THE SECOND FORM's CARD OF 'laws.FnEvents'. -/
def fnEventsUptoCard : Claim7 := { stood := { row := fnEventsUptoRow, standIns := [], harness := (true, "34fb51effb2ce51885d36fbfb4fcaaeb74c177af5617b17b4141d75c758b31f6"), looks := false }, kinds := [], alts := [], laidByText := true, laidKinds := [.data, .pinned], laidTests := true, laidLooks := .later }
def FnEventsUptoCardSaid : Prop := Claim7.holds Tryd.pinned (.plain (OpenSpec.upto fnEventsSpec)) fnEventsUptoCard
end Rows
end Go.Proofs.YtmaginepopldnaaDoor
