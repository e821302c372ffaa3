/-
  DERIVED. GIVEN WITH THE SEED: THE CARDS: each row of YtgpcanjmgdmdhaaDoorRows.lean that lists a variable, with what it lists TIED to the program's text (the seventh form; the later family's looks); each row that meets fmt, with fmt's text TOLD by the authors' own Lean function (tested against real Go, not proved from fmt's source: count such statements apart). THE CARD IS WHAT COUNTS. Prove the row's statement (the work); the ties are given (YtgpcanjmgdmdhaaDoorTie.lean); close each card by the builder's one call (the guide's Derived/Test/ToyasCard.lean, 'card_holds'). Laid BY PROGRAM, IN A SANDBOX (cutbox-door.mjs). By AI agents, Wed Nov 11 2026. No macro, syntax, notation, axiom, sorry.
-/
import Derived.Test.YtgpcanjmgdmdhaaDoorRows
import GoSem.ClaimSeven
namespace Go.Proofs.YtgpcanjmgdmdhaaDoor
namespace Rows

/-- THE TIED CARD OF 'laws.FnExactDecodeInode'. -/
def fnExactDecodeInodeCard : Claim7 := { stood := { row := fnExactDecodeInodeRow, standIns := [], harness := (true, "025aae787676a604e2cd9d8e4eeb7e4ed7b6000c059b14e6fab412153e60a2b4"), looks := true }, kinds := [], alts := [], laidByText := true, laidKinds := [.data, .pinned], laidTests := true, laidLooks := .later }
def FnExactDecodeInodeCardSaid : Prop := Claim7.holds Tryd.pinned (.plain (OpenSpec.ofChange fnExactDecodeInodeSpec)) fnExactDecodeInodeCard

/-- THE TIED CARD OF 'laws.FnBytes'. -/
def fnBytesCard : Claim7 := { stood := { row := fnBytesRow, standIns := [], harness := (true, "025aae787676a604e2cd9d8e4eeb7e4ed7b6000c059b14e6fab412153e60a2b4"), looks := true }, kinds := [], alts := [], laidByText := true, laidKinds := [.data, .pinned], laidTests := true, laidLooks := .later }
def FnBytesCardSaid : Prop := Claim7.holds Tryd.pinned (.plain (OpenSpec.ofChange fnBytesSpec)) fnBytesCard

/-- THE TIED CARD OF 'laws.FnExactFormatAnswer'. -/
def fnExactFormatAnswerCard : Claim7 := { stood := { row := fnExactFormatAnswerRow, standIns := [], harness := (true, "025aae787676a604e2cd9d8e4eeb7e4ed7b6000c059b14e6fab412153e60a2b4"), looks := true }, kinds := [], alts := [], laidByText := true, laidKinds := [.data, .data, .data], laidTests := true, laidLooks := .later }
def FnExactFormatAnswerCardSaid : Prop := Claim7.holds Tryd.pinned (.plain (OpenSpec.ofChange fnExactFormatAnswerSpec)) fnExactFormatAnswerCard

/-- THE TIED CARD OF 'laws.FnExactParseLine'. -/
def fnExactParseLineCard : Claim7 := { stood := { row := fnExactParseLineRow, standIns := [], harness := (true, "025aae787676a604e2cd9d8e4eeb7e4ed7b6000c059b14e6fab412153e60a2b4"), looks := true }, kinds := [], alts := [], laidByText := true, laidKinds := [.data, .data, .data, .data, .sentinel, .sentinel, .pinned], laidTests := true, laidLooks := .later }
def FnExactParseLineCardSaid : Prop := Claim7.holds Tryd.pinned (.plain (OpenSpec.ofChange fnExactParseLineSpec)) fnExactParseLineCard

/-- THE SECOND FORM's CARD OF 'laws.FnExactDecodeInode'. -/
def fnExactDecodeInodeUptoCard : Claim7 := { stood := { row := fnExactDecodeInodeUptoRow, standIns := [], harness := (true, "025aae787676a604e2cd9d8e4eeb7e4ed7b6000c059b14e6fab412153e60a2b4"), looks := true }, kinds := [], alts := [], laidByText := true, laidKinds := [.data, .pinned], laidTests := true, laidLooks := .later }
def FnExactDecodeInodeUptoCardSaid : Prop := Claim7.holds Tryd.pinned (.plain (OpenSpec.upto fnExactDecodeInodeSpec)) fnExactDecodeInodeUptoCard

/-- THE SECOND FORM's CARD OF 'laws.FnBytes'. -/
def fnBytesUptoCard : Claim7 := { stood := { row := fnBytesUptoRow, standIns := [], harness := (true, "025aae787676a604e2cd9d8e4eeb7e4ed7b6000c059b14e6fab412153e60a2b4"), looks := true }, kinds := [], alts := [], laidByText := true, laidKinds := [.data, .pinned], laidTests := true, laidLooks := .later }
def FnBytesUptoCardSaid : Prop := Claim7.holds Tryd.pinned (.plain (OpenSpec.upto fnBytesSpec)) fnBytesUptoCard

/-- THE SECOND FORM's CARD OF 'laws.FnExactFormatAnswer'. -/
def fnExactFormatAnswerUptoCard : Claim7 := { stood := { row := fnExactFormatAnswerUptoRow, standIns := [], harness := (true, "025aae787676a604e2cd9d8e4eeb7e4ed7b6000c059b14e6fab412153e60a2b4"), looks := true }, kinds := [], alts := [], laidByText := true, laidKinds := [.data, .data, .data], laidTests := true, laidLooks := .later }
def FnExactFormatAnswerUptoCardSaid : Prop := Claim7.holds Tryd.pinned (.plain (OpenSpec.upto fnExactFormatAnswerSpec)) fnExactFormatAnswerUptoCard

/-- THE SECOND FORM's CARD OF 'laws.FnExactParseLine'. -/
def fnExactParseLineUptoCard : Claim7 := { stood := { row := fnExactParseLineUptoRow, standIns := [], harness := (true, "025aae787676a604e2cd9d8e4eeb7e4ed7b6000c059b14e6fab412153e60a2b4"), looks := true }, kinds := [], alts := [], laidByText := true, laidKinds := [.data, .data, .data, .data, .sentinel, .sentinel, .pinned], laidTests := true, laidLooks := .later }
def FnExactParseLineUptoCardSaid : Prop := Claim7.holds Tryd.pinned (.plain (OpenSpec.upto fnExactParseLineSpec)) fnExactParseLineUptoCard
end Rows
end Go.Proofs.YtgpcanjmgdmdhaaDoor
