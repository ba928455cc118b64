/-
  No cell of these rows narrows 'for every input' (looked for: loops, veiled, ifaces, maps, wideKeys, modest, calm, conditions, laid).
  DERIVED. THE GIVEN ROWS OF THIS SEAT. 9 by the template 'for every input the law returns true; each argument reads behind the call as it read before'; 0 by the template 'total and deterministic' (their statements: YtojehbkadlmbjaaTotals.lean).
  GIVEN WITH THE SEED: the statements are not yours to turn. If you find one false, say at which input.
  Laid BY PROGRAM, IN A SANDBOX (cutbox-rows.mjs): the forced cells as the released guide's own fill.sh prints them over the translation bcb3911a5823a516… (all of the seat's roots in one cut). By AI agents, Wed Nov 11 2026. No macro, syntax, notation, axiom, sorry.
-/
import Derived.Test.YtojehbkadlmbjaaChecked
import GoSem.Claim
import GoSem.ClaimJoined
import GoSem.ClaimMapViews
import Derived.JoinedTies
import Derived.KernelRfl
namespace Go.Proofs.Ytojehbkadlmbjaa
/- THE CELL 'sum', in the pinned program and in every row, IS THE sha256 OF THE DUMP (.gsa) THAT YtojehbkadlmbjaaProg.lean LOADS. Nothing in Lean hashes anything: it is a label: what it is worth is what the hold of that sum in a sandbox is worth. -/
noncomputable def Try.pinned : Pinned := { name := "ytojehbkadlmbjaa", sum := "bcb3911a5823a5167cbb464c691ff6dc3c6fad52ef2d48579b120e3eceadc3ba", checked := Try.checked }
namespace Rows
def none {H : Type} : Left H := { results := [], args := [] }

/-- 'terrkeep5.FontSums': WHATEVER THE INPUT: true; the input reads as it did. -/
def fontSumsSpec : ChangeSpec := { name := "fontSums", fn := fun _ => fun
  | [d1, d2, d3] => { results := [.lit (.bool true)], args := [d1, d2, d3] }
  | _ => none }
def fontSumsRow : OpenClaim := { program := "ytojehbkadlmbjaa", sum := "bcb3911a5823a5167cbb464c691ff6dc3c6fad52ef2d48579b120e3eceadc3ba", func := "terrier/terrkeep5.FontSums", spec := "fontSums", inPlace := ["internal/bytealg.IndexByteString"], apart := false }
def FontSumsSaid : Prop := fontSumsRow.holds Try.pinned (OpenSpec.ofChange fontSumsSpec)

/-- ITS FALSE NEIGHBOUR: 'it returns false'. Refute it at one input. -/
def fontSumsWrong : ChangeSpec := { name := "fontSums", fn := fun _ => fun
  | [d1, d2, d3] => { results := [.lit (.bool false)], args := [d1, d2, d3] }
  | _ => none }
def FontSumsWrongFalsely : Prop := fontSumsRow.holds Try.pinned (OpenSpec.ofChange fontSumsWrong)

/-- 'terrkeep5.TileThere': WHATEVER THE INPUT: true; the input reads as it did. -/
def tileThereSpec : ChangeSpec := { name := "tileThere", fn := fun _ => fun
  | [d1, d2, d3, d4] => { results := [.lit (.bool true)], args := [d1, d2, d3, d4] }
  | _ => none }
def tileThereRow : OpenClaim := { program := "ytojehbkadlmbjaa", sum := "bcb3911a5823a5167cbb464c691ff6dc3c6fad52ef2d48579b120e3eceadc3ba", func := "terrier/terrkeep5.TileThere", spec := "tileThere", apart := false }
def TileThereSaid : Prop := tileThereRow.holds Try.pinned (OpenSpec.ofChange tileThereSpec)

/-- ITS FALSE NEIGHBOUR: 'it returns false'. Refute it at one input. -/
def tileThereWrong : ChangeSpec := { name := "tileThere", fn := fun _ => fun
  | [d1, d2, d3, d4] => { results := [.lit (.bool false)], args := [d1, d2, d3, d4] }
  | _ => none }
def TileThereWrongFalsely : Prop := tileThereRow.holds Try.pinned (OpenSpec.ofChange tileThereWrong)

/-- 'terrkeep5.TileParts': WHATEVER THE INPUT: true; the input reads as it did. -/
def tilePartsSpec : ChangeSpec := { name := "tileParts", fn := fun _ => fun
  | [d1, d2, d3] => { results := [.lit (.bool true)], args := [d1, d2, d3] }
  | _ => none }
def tilePartsRow : OpenClaim := { program := "ytojehbkadlmbjaa", sum := "bcb3911a5823a5167cbb464c691ff6dc3c6fad52ef2d48579b120e3eceadc3ba", func := "terrier/terrkeep5.TileParts", spec := "tileParts", apart := false }
def TilePartsSaid : Prop := tilePartsRow.holds Try.pinned (OpenSpec.ofChange tilePartsSpec)

/-- ITS FALSE NEIGHBOUR: 'it returns false'. Refute it at one input. -/
def tilePartsWrong : ChangeSpec := { name := "tileParts", fn := fun _ => fun
  | [d1, d2, d3] => { results := [.lit (.bool false)], args := [d1, d2, d3] }
  | _ => none }
def TilePartsWrongFalsely : Prop := tilePartsRow.holds Try.pinned (OpenSpec.ofChange tilePartsWrong)

/-- 'terrlaw5.FontTells': WHATEVER THE INPUT: true; the input reads as it did. -/
def fontTellsSpec : ChangeSpec := { name := "fontTells", fn := fun _ => fun
  | [d1, d2, d3, d4] => { results := [.lit (.bool true)], args := [d1, d2, d3, d4] }
  | _ => none }
def fontTellsRow : OpenClaim := { program := "ytojehbkadlmbjaa", sum := "bcb3911a5823a5167cbb464c691ff6dc3c6fad52ef2d48579b120e3eceadc3ba", func := "terrier/terrlaw5.FontTells", spec := "fontTells", inPlace := ["internal/bytealg.IndexByteString"], apart := false }
def FontTellsSaid : Prop := fontTellsRow.holds Try.pinned (OpenSpec.ofChange fontTellsSpec)

/-- ITS FALSE NEIGHBOUR: 'it returns false'. Refute it at one input. -/
def fontTellsWrong : ChangeSpec := { name := "fontTells", fn := fun _ => fun
  | [d1, d2, d3, d4] => { results := [.lit (.bool false)], args := [d1, d2, d3, d4] }
  | _ => none }
def FontTellsWrongFalsely : Prop := fontTellsRow.holds Try.pinned (OpenSpec.ofChange fontTellsWrong)

/-- 'terrkeep5.FontBeside': WHATEVER THE INPUT: true; the input reads as it did. -/
def fontBesideSpec : ChangeSpec := { name := "fontBeside", fn := fun _ => fun
  | [d1, d2, d3, d4] => { results := [.lit (.bool true)], args := [d1, d2, d3, d4] }
  | _ => none }
def fontBesideRow : OpenClaim := { program := "ytojehbkadlmbjaa", sum := "bcb3911a5823a5167cbb464c691ff6dc3c6fad52ef2d48579b120e3eceadc3ba", func := "terrier/terrkeep5.FontBeside", spec := "fontBeside", inPlace := ["internal/bytealg.IndexByteString"], apart := false }
def FontBesideSaid : Prop := fontBesideRow.holds Try.pinned (OpenSpec.ofChange fontBesideSpec)

/-- ITS FALSE NEIGHBOUR: 'it returns false'. Refute it at one input. -/
def fontBesideWrong : ChangeSpec := { name := "fontBeside", fn := fun _ => fun
  | [d1, d2, d3, d4] => { results := [.lit (.bool false)], args := [d1, d2, d3, d4] }
  | _ => none }
def FontBesideWrongFalsely : Prop := fontBesideRow.holds Try.pinned (OpenSpec.ofChange fontBesideWrong)

/-- 'terrkeep5.TileIn': WHATEVER THE INPUT: true; the input reads as it did. -/
def tileInSpec : ChangeSpec := { name := "tileIn", fn := fun _ => fun
  | [d1, d2, d3] => { results := [.lit (.bool true)], args := [d1, d2, d3] }
  | _ => none }
def tileInRow : OpenClaim := { program := "ytojehbkadlmbjaa", sum := "bcb3911a5823a5167cbb464c691ff6dc3c6fad52ef2d48579b120e3eceadc3ba", func := "terrier/terrkeep5.TileIn", spec := "tileIn", apart := false }
def TileInSaid : Prop := tileInRow.holds Try.pinned (OpenSpec.ofChange tileInSpec)

/-- ITS FALSE NEIGHBOUR: 'it returns false'. Refute it at one input. -/
def tileInWrong : ChangeSpec := { name := "tileIn", fn := fun _ => fun
  | [d1, d2, d3] => { results := [.lit (.bool false)], args := [d1, d2, d3] }
  | _ => none }
def TileInWrongFalsely : Prop := tileInRow.holds Try.pinned (OpenSpec.ofChange tileInWrong)

/-- 'terrkeep5.TileMeets': WHATEVER THE INPUT: true; the input reads as it did. -/
def tileMeetsSpec : ChangeSpec := { name := "tileMeets", fn := fun _ => fun
  | [d1, d2, d3, d4, d5] => { results := [.lit (.bool true)], args := [d1, d2, d3, d4, d5] }
  | _ => none }
def tileMeetsRow : OpenClaim := { program := "ytojehbkadlmbjaa", sum := "bcb3911a5823a5167cbb464c691ff6dc3c6fad52ef2d48579b120e3eceadc3ba", func := "terrier/terrkeep5.TileMeets", spec := "tileMeets", apart := false }
def TileMeetsSaid : Prop := tileMeetsRow.holds Try.pinned (OpenSpec.ofChange tileMeetsSpec)

/-- ITS FALSE NEIGHBOUR: 'it returns false'. Refute it at one input. -/
def tileMeetsWrong : ChangeSpec := { name := "tileMeets", fn := fun _ => fun
  | [d1, d2, d3, d4, d5] => { results := [.lit (.bool false)], args := [d1, d2, d3, d4, d5] }
  | _ => none }
def TileMeetsWrongFalsely : Prop := tileMeetsRow.holds Try.pinned (OpenSpec.ofChange tileMeetsWrong)

/-- 'terrlaw5.TileTells': WHATEVER THE INPUT: true; the input reads as it did. -/
def tileTellsSpec : ChangeSpec := { name := "tileTells", fn := fun _ => fun
  | [d1, d2, d3, d4] => { results := [.lit (.bool true)], args := [d1, d2, d3, d4] }
  | _ => none }
def tileTellsRow : OpenClaim := { program := "ytojehbkadlmbjaa", sum := "bcb3911a5823a5167cbb464c691ff6dc3c6fad52ef2d48579b120e3eceadc3ba", func := "terrier/terrlaw5.TileTells", spec := "tileTells", unfollowed := true, recurses := true, apart := false }
def TileTellsSaid : Prop := tileTellsRow.holds Try.pinned (OpenSpec.ofChange tileTellsSpec)

/-- ITS FALSE NEIGHBOUR: 'it returns false'. Refute it at one input. -/
def tileTellsWrong : ChangeSpec := { name := "tileTells", fn := fun _ => fun
  | [d1, d2, d3, d4] => { results := [.lit (.bool false)], args := [d1, d2, d3, d4] }
  | _ => none }
def TileTellsWrongFalsely : Prop := tileTellsRow.holds Try.pinned (OpenSpec.ofChange tileTellsWrong)

/-- 'terrlaw5.TileAlls': WHATEVER THE INPUT: true; the input reads as it did. -/
def tileAllsSpec : ChangeSpec := { name := "tileAlls", fn := fun _ => fun
  | [d1, d2] => { results := [.lit (.bool true)], args := [d1, d2] }
  | _ => none }
def tileAllsRow : OpenClaim := { program := "ytojehbkadlmbjaa", sum := "bcb3911a5823a5167cbb464c691ff6dc3c6fad52ef2d48579b120e3eceadc3ba", func := "terrier/terrlaw5.TileAlls", spec := "tileAlls", unfollowed := true, recurses := true, apart := false }
def TileAllsSaid : Prop := tileAllsRow.holds Try.pinned (OpenSpec.ofChange tileAllsSpec)

/-- ITS FALSE NEIGHBOUR: 'it returns false'. Refute it at one input. -/
def tileAllsWrong : ChangeSpec := { name := "tileAlls", fn := fun _ => fun
  | [d1, d2] => { results := [.lit (.bool false)], args := [d1, d2] }
  | _ => none }
def TileAllsWrongFalsely : Prop := tileAllsRow.holds Try.pinned (OpenSpec.ofChange tileAllsWrong)

/- THE SECOND FORM. 'bulk': how many values and letters a reading holds, each counted each time it is reached (what is shared counts as often as it is met; a slice's spare places count too). A statement '..UptoSaid' is the law's where the arguments, and the package variables that the reading takes, are together of bulk at most 1048576: NARROWER than '..Said'. Prove '..Said' where nothing that the law and all that it calls make is longer than what came in: it says more and counts as full. Else prove '..UptoSaid'. A law counts once. -/
mutual
def uptoBulk {H : Type} : DataW H → Nat
  | .lit (.string bytes) => bytes.length + 1
  | .lit _ => 1
  | .nil => 1
  | .ptr d => uptoBulk d + 1
  | .slice elems spare => uptoBulkAll elems + uptoBulkAll spare + 1
  | .agg parts => uptoBulkAll parts + 1
  | .iface _ d => uptoBulk d + 1
  | .map entries => uptoBulkEntries entries + 1
  | .held _ => 1
def uptoBulkAll {H : Type} : List (DataW H) → Nat
  | [] => 0
  | d :: r => uptoBulk d + uptoBulkAll r
def uptoBulkEntries {H : Type} : List (Lit × DataW H) → Nat
  | [] => 0
  | x :: r => uptoBulkEntry x + uptoBulkEntries r
def uptoBulkEntry {H : Type} : Lit × DataW H → Nat
  | (.string bytes, d) => bytes.length + uptoBulk d + 1
  | (_, d) => uptoBulk d + 1
 end
def uptoSmall : (H : Type) → List (DataW H) → Bool := fun _ ds => decide (uptoBulkAll ds ≤ 1048576)
def OpenSpec.upto (s : _root_.Go.ChangeSpec) : _root_.Go.OpenSpec := { _root_.Go.OpenSpec.ofChange s with cond := some uptoSmall }

/-- 'terrkeep5.FontSums', WHERE WHAT IT READS IS OF BULK AT MOST 1048576: true; the input reads as it did. -/
def fontSumsUptoRow : OpenClaim := { program := "ytojehbkadlmbjaa", sum := "bcb3911a5823a5167cbb464c691ff6dc3c6fad52ef2d48579b120e3eceadc3ba", func := "terrier/terrkeep5.FontSums", spec := "fontSums", inPlace := ["internal/bytealg.IndexByteString"], apart := false, narrowed := true }
def FontSumsUptoSaid : Prop := fontSumsUptoRow.holds Try.pinned (OpenSpec.upto fontSumsSpec)

/-- 'terrkeep5.TileThere', WHERE WHAT IT READS IS OF BULK AT MOST 1048576: true; the input reads as it did. -/
def tileThereUptoRow : OpenClaim := { program := "ytojehbkadlmbjaa", sum := "bcb3911a5823a5167cbb464c691ff6dc3c6fad52ef2d48579b120e3eceadc3ba", func := "terrier/terrkeep5.TileThere", spec := "tileThere", apart := false, narrowed := true }
def TileThereUptoSaid : Prop := tileThereUptoRow.holds Try.pinned (OpenSpec.upto tileThereSpec)

/-- 'terrkeep5.TileParts', WHERE WHAT IT READS IS OF BULK AT MOST 1048576: true; the input reads as it did. -/
def tilePartsUptoRow : OpenClaim := { program := "ytojehbkadlmbjaa", sum := "bcb3911a5823a5167cbb464c691ff6dc3c6fad52ef2d48579b120e3eceadc3ba", func := "terrier/terrkeep5.TileParts", spec := "tileParts", apart := false, narrowed := true }
def TilePartsUptoSaid : Prop := tilePartsUptoRow.holds Try.pinned (OpenSpec.upto tilePartsSpec)

/-- 'terrlaw5.FontTells', WHERE WHAT IT READS IS OF BULK AT MOST 1048576: true; the input reads as it did. -/
def fontTellsUptoRow : OpenClaim := { program := "ytojehbkadlmbjaa", sum := "bcb3911a5823a5167cbb464c691ff6dc3c6fad52ef2d48579b120e3eceadc3ba", func := "terrier/terrlaw5.FontTells", spec := "fontTells", inPlace := ["internal/bytealg.IndexByteString"], apart := false, narrowed := true }
def FontTellsUptoSaid : Prop := fontTellsUptoRow.holds Try.pinned (OpenSpec.upto fontTellsSpec)

/-- 'terrkeep5.FontBeside', WHERE WHAT IT READS IS OF BULK AT MOST 1048576: true; the input reads as it did. -/
def fontBesideUptoRow : OpenClaim := { program := "ytojehbkadlmbjaa", sum := "bcb3911a5823a5167cbb464c691ff6dc3c6fad52ef2d48579b120e3eceadc3ba", func := "terrier/terrkeep5.FontBeside", spec := "fontBeside", inPlace := ["internal/bytealg.IndexByteString"], apart := false, narrowed := true }
def FontBesideUptoSaid : Prop := fontBesideUptoRow.holds Try.pinned (OpenSpec.upto fontBesideSpec)

/-- 'terrkeep5.TileIn', WHERE WHAT IT READS IS OF BULK AT MOST 1048576: true; the input reads as it did. -/
def tileInUptoRow : OpenClaim := { program := "ytojehbkadlmbjaa", sum := "bcb3911a5823a5167cbb464c691ff6dc3c6fad52ef2d48579b120e3eceadc3ba", func := "terrier/terrkeep5.TileIn", spec := "tileIn", apart := false, narrowed := true }
def TileInUptoSaid : Prop := tileInUptoRow.holds Try.pinned (OpenSpec.upto tileInSpec)

/-- 'terrkeep5.TileMeets', WHERE WHAT IT READS IS OF BULK AT MOST 1048576: true; the input reads as it did. -/
def tileMeetsUptoRow : OpenClaim := { program := "ytojehbkadlmbjaa", sum := "bcb3911a5823a5167cbb464c691ff6dc3c6fad52ef2d48579b120e3eceadc3ba", func := "terrier/terrkeep5.TileMeets", spec := "tileMeets", apart := false, narrowed := true }
def TileMeetsUptoSaid : Prop := tileMeetsUptoRow.holds Try.pinned (OpenSpec.upto tileMeetsSpec)

/-- 'terrlaw5.TileTells', WHERE WHAT IT READS IS OF BULK AT MOST 1048576: true; the input reads as it did. -/
def tileTellsUptoRow : OpenClaim := { program := "ytojehbkadlmbjaa", sum := "bcb3911a5823a5167cbb464c691ff6dc3c6fad52ef2d48579b120e3eceadc3ba", func := "terrier/terrlaw5.TileTells", spec := "tileTells", unfollowed := true, recurses := true, apart := false, narrowed := true }
def TileTellsUptoSaid : Prop := tileTellsUptoRow.holds Try.pinned (OpenSpec.upto tileTellsSpec)

/-- 'terrlaw5.TileAlls', WHERE WHAT IT READS IS OF BULK AT MOST 1048576: true; the input reads as it did. -/
def tileAllsUptoRow : OpenClaim := { program := "ytojehbkadlmbjaa", sum := "bcb3911a5823a5167cbb464c691ff6dc3c6fad52ef2d48579b120e3eceadc3ba", func := "terrier/terrlaw5.TileAlls", spec := "tileAlls", unfollowed := true, recurses := true, apart := false, narrowed := true }
def TileAllsUptoSaid : Prop := tileAllsUptoRow.holds Try.pinned (OpenSpec.upto tileAllsSpec)

end Rows
end Go.Proofs.Ytojehbkadlmbjaa
