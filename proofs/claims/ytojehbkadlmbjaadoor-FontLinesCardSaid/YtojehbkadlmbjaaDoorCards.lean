/-
  DERIVED. GIVEN WITH THE SEED: THE CARDS: each row of YtojehbkadlmbjaaDoorRows.lean that lists a variable, with what it lists TIED to the program's text (the seventh form; the later family's looks); each row that meets fmt, with fmt's text TOLD by the authors' own Lean function (tested against real Go, not proved from fmt's source: count such statements apart). THE CARD IS WHAT COUNTS. Prove the row's statement (the work); the ties are given (YtojehbkadlmbjaaDoorTie.lean); close each card by the builder's one call (the guide's Derived/Test/ToyasCard.lean, 'card_holds'). Laid BY PROGRAM, IN A SANDBOX (cutbox-door.mjs). By AI agents, Wed Nov 11 2026. No macro, syntax, notation, axiom, sorry.
-/
import Derived.Test.YtojehbkadlmbjaaDoorRows
import GoSem.ClaimSeven
namespace Go.Proofs.YtojehbkadlmbjaaDoor
namespace Rows

/-- THE TIED CARD OF 'terrlaw5.FontWraps'. -/
def fontWrapsCard : Claim7 := { stood := { row := fontWrapsRow, standIns := [], harness := (true, "30aec7783c24405742f14d65caeeaf7a112925752fd933f9d98341e3516af050"), looks := false }, kinds := [], alts := [], laidByText := true, laidKinds := [.listed, .data], laidTests := true, laidLooks := .later }
def FontWrapsCardSaid : Prop := Claim7.holds Tryd.pinned (.plain (OpenSpec.ofChange fontWrapsSpec)) fontWrapsCard

/-- THE TIED CARD OF 'terrkeep5.FontLines'. -/
def fontLinesCard : Claim7 := { stood := { row := fontLinesRow, standIns := [], harness := (true, "30aec7783c24405742f14d65caeeaf7a112925752fd933f9d98341e3516af050"), looks := false }, kinds := [], alts := [], laidByText := true, laidKinds := [.listed, .data], laidTests := true, laidLooks := .later }
def FontLinesCardSaid : Prop := Claim7.holds Tryd.pinned (.plain (OpenSpec.ofChange fontLinesSpec)) fontLinesCard

/-- THE SECOND FORM's CARD OF 'terrlaw5.FontWraps'. -/
def fontWrapsUptoCard : Claim7 := { stood := { row := fontWrapsUptoRow, standIns := [], harness := (true, "30aec7783c24405742f14d65caeeaf7a112925752fd933f9d98341e3516af050"), looks := false }, kinds := [], alts := [], laidByText := true, laidKinds := [.listed, .data], laidTests := true, laidLooks := .later }
def FontWrapsUptoCardSaid : Prop := Claim7.holds Tryd.pinned (.plain (OpenSpec.upto fontWrapsSpec)) fontWrapsUptoCard

/-- THE SECOND FORM's CARD OF 'terrkeep5.FontLines'. -/
def fontLinesUptoCard : Claim7 := { stood := { row := fontLinesUptoRow, standIns := [], harness := (true, "30aec7783c24405742f14d65caeeaf7a112925752fd933f9d98341e3516af050"), looks := false }, kinds := [], alts := [], laidByText := true, laidKinds := [.listed, .data], laidTests := true, laidLooks := .later }
def FontLinesUptoCardSaid : Prop := Claim7.holds Tryd.pinned (.plain (OpenSpec.upto fontLinesSpec)) fontLinesUptoCard
end Rows
end Go.Proofs.YtojehbkadlmbjaaDoor
