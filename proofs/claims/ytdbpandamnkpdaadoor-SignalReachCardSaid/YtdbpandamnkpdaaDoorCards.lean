/-
  DERIVED. GIVEN WITH THE SEED: THE CARDS: each row of YtdbpandamnkpdaaDoorRows.lean that lists a variable, with what it lists TIED to the program's text (the seventh form; the later family's looks); each row that meets fmt, with fmt's text TOLD by the authors' own Lean function (tested against real Go, not proved from fmt's source: count such statements apart). THE CARD IS WHAT COUNTS. Prove the row's statement (the work); the ties are given (YtdbpandamnkpdaaDoorTie.lean); close each card by the builder's one call (the guide's Derived/Test/ToyasCard.lean, 'card_holds'). Laid BY PROGRAM, IN A SANDBOX (cutbox-door.mjs). By AI agents, Wed Nov 11 2026. No macro, syntax, notation, axiom, sorry.
-/
import Derived.Test.YtdbpandamnkpdaaDoorRows
import GoSem.ClaimSeven
namespace Go.Proofs.YtdbpandamnkpdaaDoor
namespace Rows

/-- THE TIED CARD OF 'parleylaw26.SignalSends'. -/
def signalSendsCard : Claim7 := { stood := { row := signalSendsRow, standIns := [], harness := (true, "1175cd6e307519ce40743706b2809b2552b75b1ae242f54840599e17f97b9f55"), looks := false }, kinds := [], alts := [], laidByText := true, laidKinds := [.data, .pinned], laidTests := true, laidLooks := .later }
def SignalSendsCardSaid : Prop := Claim7.holds Tryd.pinned (.plain (OpenSpec.ofChange signalSendsSpec)) signalSendsCard

/-- THE TIED CARD OF 'parleylaw26.SignalNil'. -/
def signalNilCard : Claim7 := { stood := { row := signalNilRow, standIns := [], harness := (true, "1175cd6e307519ce40743706b2809b2552b75b1ae242f54840599e17f97b9f55"), looks := false }, kinds := [], alts := [], laidByText := true, laidKinds := [.data, .pinned], laidTests := true, laidLooks := .later }
def SignalNilCardSaid : Prop := Claim7.holds Tryd.pinned (.plain (OpenSpec.ofChange signalNilSpec)) signalNilCard

/-- THE TIED CARD OF 'parleylaw26.SignalReach'. -/
def signalReachCard : Claim7 := { stood := { row := signalReachRow, standIns := [], harness := (true, "1175cd6e307519ce40743706b2809b2552b75b1ae242f54840599e17f97b9f55"), looks := false }, kinds := [], alts := [], laidByText := true, laidKinds := [.data, .pinned], laidTests := true, laidLooks := .later }
def SignalReachCardSaid : Prop := Claim7.holds Tryd.pinned (.plain (OpenSpec.ofChange signalReachSpec)) signalReachCard

/-- THE TIED CARD OF 'parleylaw26.SignalTraps'. -/
def signalTrapsCard : Claim7 := { stood := { row := signalTrapsRow, standIns := [], harness := (true, "1175cd6e307519ce40743706b2809b2552b75b1ae242f54840599e17f97b9f55"), looks := false }, kinds := [], alts := [], laidByText := true, laidKinds := [.data, .pinned], laidTests := true, laidLooks := .later }
def SignalTrapsCardSaid : Prop := Claim7.holds Tryd.pinned (.plain (OpenSpec.ofChange signalTrapsSpec)) signalTrapsCard

/-- THE SECOND FORM's CARD OF 'parleylaw26.SignalSends'. -/
def signalSendsUptoCard : Claim7 := { stood := { row := signalSendsUptoRow, standIns := [], harness := (true, "1175cd6e307519ce40743706b2809b2552b75b1ae242f54840599e17f97b9f55"), looks := false }, kinds := [], alts := [], laidByText := true, laidKinds := [.data, .pinned], laidTests := true, laidLooks := .later }
def SignalSendsUptoCardSaid : Prop := Claim7.holds Tryd.pinned (.plain (OpenSpec.upto signalSendsSpec)) signalSendsUptoCard

/-- THE SECOND FORM's CARD OF 'parleylaw26.SignalNil'. -/
def signalNilUptoCard : Claim7 := { stood := { row := signalNilUptoRow, standIns := [], harness := (true, "1175cd6e307519ce40743706b2809b2552b75b1ae242f54840599e17f97b9f55"), looks := false }, kinds := [], alts := [], laidByText := true, laidKinds := [.data, .pinned], laidTests := true, laidLooks := .later }
def SignalNilUptoCardSaid : Prop := Claim7.holds Tryd.pinned (.plain (OpenSpec.upto signalNilSpec)) signalNilUptoCard

/-- THE SECOND FORM's CARD OF 'parleylaw26.SignalReach'. -/
def signalReachUptoCard : Claim7 := { stood := { row := signalReachUptoRow, standIns := [], harness := (true, "1175cd6e307519ce40743706b2809b2552b75b1ae242f54840599e17f97b9f55"), looks := false }, kinds := [], alts := [], laidByText := true, laidKinds := [.data, .pinned], laidTests := true, laidLooks := .later }
def SignalReachUptoCardSaid : Prop := Claim7.holds Tryd.pinned (.plain (OpenSpec.upto signalReachSpec)) signalReachUptoCard

/-- THE SECOND FORM's CARD OF 'parleylaw26.SignalTraps'. -/
def signalTrapsUptoCard : Claim7 := { stood := { row := signalTrapsUptoRow, standIns := [], harness := (true, "1175cd6e307519ce40743706b2809b2552b75b1ae242f54840599e17f97b9f55"), looks := false }, kinds := [], alts := [], laidByText := true, laidKinds := [.data, .pinned], laidTests := true, laidLooks := .later }
def SignalTrapsUptoCardSaid : Prop := Claim7.holds Tryd.pinned (.plain (OpenSpec.upto signalTrapsSpec)) signalTrapsUptoCard
end Rows
end Go.Proofs.YtdbpandamnkpdaaDoor
