/-
  No cell of these rows narrows 'for every input' (looked for: loops, veiled, ifaces, maps, wideKeys, modest, calm, conditions, laid).
  DERIVED. THE GIVEN ROWS OF THIS SEAT. 12 by the template 'for every input the law returns true; each argument reads behind the call as it read before'; 0 by the template 'total and deterministic' (their statements: YtdmhnjpblpfbfaaTotals.lean).
  GIVEN WITH THE SEED: the statements are not yours to turn. If you find one false, say at which input.
  Laid BY PROGRAM, IN A SANDBOX (cutbox-rows.mjs): the forced cells as the released guide's own fill.sh prints them over the translation 0bae1e20c5576c88… (all of the seat's roots in one cut). By AI agents, Wed Nov 11 2026. No macro, syntax, notation, axiom, sorry.
-/
import Derived.Test.YtdmhnjpblpfbfaaChecked
import GoSem.Claim
import GoSem.ClaimJoined
import GoSem.ClaimMapViews
import Derived.JoinedTies
import Derived.KernelRfl
namespace Go.Proofs.Ytdmhnjpblpfbfaa
/- THE CELL 'sum', in the pinned program and in every row, IS THE sha256 OF THE DUMP (.gsa) THAT YtdmhnjpblpfbfaaProg.lean LOADS. Nothing in Lean hashes anything: it is a label: what it is worth is what the hold of that sum in a sandbox is worth. -/
noncomputable def Try.pinned : Pinned := { name := "ytdmhnjpblpfbfaa", sum := "0bae1e20c5576c88ce3934293c1e9a167915c9e9f755e424f6f5bcc849b9e184", checked := Try.checked }
namespace Rows
def none {H : Type} : Left H := { results := [], args := [] }

/-- 'terrkeep5.PlaceFewer': WHATEVER THE INPUT: true; the input reads as it did. -/
def placeFewerSpec : ChangeSpec := { name := "placeFewer", fn := fun _ => fun
  | [d1, d2, d3] => { results := [.lit (.bool true)], args := [d1, d2, d3] }
  | _ => none }
def placeFewerRow : OpenClaim := { program := "ytdmhnjpblpfbfaa", sum := "0bae1e20c5576c88ce3934293c1e9a167915c9e9f755e424f6f5bcc849b9e184", func := "terrier/terrkeep5.PlaceFewer", spec := "placeFewer", recurses := true, apart := false }
def PlaceFewerSaid : Prop := placeFewerRow.holds Try.pinned (OpenSpec.ofChange placeFewerSpec)

/-- ITS FALSE NEIGHBOUR: 'it returns false'. Refute it at one input. -/
def placeFewerWrong : ChangeSpec := { name := "placeFewer", fn := fun _ => fun
  | [d1, d2, d3] => { results := [.lit (.bool false)], args := [d1, d2, d3] }
  | _ => none }
def PlaceFewerWrongFalsely : Prop := placeFewerRow.holds Try.pinned (OpenSpec.ofChange placeFewerWrong)

/-- 'terrkeep5.PlaceFar': WHATEVER THE INPUT: true; the input reads as it did. -/
def placeFarSpec : ChangeSpec := { name := "placeFar", fn := fun _ => fun
  | [d1, d2] => { results := [.lit (.bool true)], args := [d1, d2] }
  | _ => none }
def placeFarRow : OpenClaim := { program := "ytdmhnjpblpfbfaa", sum := "0bae1e20c5576c88ce3934293c1e9a167915c9e9f755e424f6f5bcc849b9e184", func := "terrier/terrkeep5.PlaceFar", spec := "placeFar", recurses := true, apart := false }
def PlaceFarSaid : Prop := placeFarRow.holds Try.pinned (OpenSpec.ofChange placeFarSpec)

/-- ITS FALSE NEIGHBOUR: 'it returns false'. Refute it at one input. -/
def placeFarWrong : ChangeSpec := { name := "placeFar", fn := fun _ => fun
  | [d1, d2] => { results := [.lit (.bool false)], args := [d1, d2] }
  | _ => none }
def PlaceFarWrongFalsely : Prop := placeFarRow.holds Try.pinned (OpenSpec.ofChange placeFarWrong)

/-- 'terrlaw5.PlaceTells': WHATEVER THE INPUT: true; the input reads as it did. -/
def placeTellsSpec : ChangeSpec := { name := "placeTells", fn := fun _ => fun
  | [d1, d2] => { results := [.lit (.bool true)], args := [d1, d2] }
  | _ => none }
def placeTellsRow : OpenClaim := { program := "ytdmhnjpblpfbfaa", sum := "0bae1e20c5576c88ce3934293c1e9a167915c9e9f755e424f6f5bcc849b9e184", func := "terrier/terrlaw5.PlaceTells", spec := "placeTells", recurses := true, apart := false }
def PlaceTellsSaid : Prop := placeTellsRow.holds Try.pinned (OpenSpec.ofChange placeTellsSpec)

/-- ITS FALSE NEIGHBOUR: 'it returns false'. Refute it at one input. -/
def placeTellsWrong : ChangeSpec := { name := "placeTells", fn := fun _ => fun
  | [d1, d2] => { results := [.lit (.bool false)], args := [d1, d2] }
  | _ => none }
def PlaceTellsWrongFalsely : Prop := placeTellsRow.holds Try.pinned (OpenSpec.ofChange placeTellsWrong)

/-- 'terrlaw5.PlaceClears': WHATEVER THE INPUT: true; the input reads as it did. -/
def placeClearsSpec : ChangeSpec := { name := "placeClears", fn := fun _ => fun
  | [d1, d2] => { results := [.lit (.bool true)], args := [d1, d2] }
  | _ => none }
def placeClearsRow : OpenClaim := { program := "ytdmhnjpblpfbfaa", sum := "0bae1e20c5576c88ce3934293c1e9a167915c9e9f755e424f6f5bcc849b9e184", func := "terrier/terrlaw5.PlaceClears", spec := "placeClears", unfollowed := true, recurses := true, apart := false }
def PlaceClearsSaid : Prop := placeClearsRow.holds Try.pinned (OpenSpec.ofChange placeClearsSpec)

/-- ITS FALSE NEIGHBOUR: 'it returns false'. Refute it at one input. -/
def placeClearsWrong : ChangeSpec := { name := "placeClears", fn := fun _ => fun
  | [d1, d2] => { results := [.lit (.bool false)], args := [d1, d2] }
  | _ => none }
def PlaceClearsWrongFalsely : Prop := placeClearsRow.holds Try.pinned (OpenSpec.ofChange placeClearsWrong)

/-- 'terrkeep5.PlaceMost': WHATEVER THE INPUT: true; the input reads as it did. -/
def placeMostSpec : ChangeSpec := { name := "placeMost", fn := fun _ => fun
  | [d] => { results := [.lit (.bool true)], args := [d] }
  | _ => none }
def placeMostRow : OpenClaim := { program := "ytdmhnjpblpfbfaa", sum := "0bae1e20c5576c88ce3934293c1e9a167915c9e9f755e424f6f5bcc849b9e184", func := "terrier/terrkeep5.PlaceMost", spec := "placeMost", unfollowed := true, recurses := true, apart := false }
def PlaceMostSaid : Prop := placeMostRow.holds Try.pinned (OpenSpec.ofChange placeMostSpec)

/-- ITS FALSE NEIGHBOUR: 'it returns false'. Refute it at one input. -/
def placeMostWrong : ChangeSpec := { name := "placeMost", fn := fun _ => fun
  | [d] => { results := [.lit (.bool false)], args := [d] }
  | _ => none }
def PlaceMostWrongFalsely : Prop := placeMostRow.holds Try.pinned (OpenSpec.ofChange placeMostWrong)

/-- 'terrkeep5.RasterEnds': WHATEVER THE INPUT: true; the input reads as it did. -/
def rasterEndsSpec : ChangeSpec := { name := "rasterEnds", fn := fun _ => fun
  | [d1, d2, d3, d4] => { results := [.lit (.bool true)], args := [d1, d2, d3, d4] }
  | _ => none }
def rasterEndsRow : OpenClaim := { program := "ytdmhnjpblpfbfaa", sum := "0bae1e20c5576c88ce3934293c1e9a167915c9e9f755e424f6f5bcc849b9e184", func := "terrier/terrkeep5.RasterEnds", spec := "rasterEnds", apart := false }
def RasterEndsSaid : Prop := rasterEndsRow.holds Try.pinned (OpenSpec.ofChange rasterEndsSpec)

/-- ITS FALSE NEIGHBOUR: 'it returns false'. Refute it at one input. -/
def rasterEndsWrong : ChangeSpec := { name := "rasterEnds", fn := fun _ => fun
  | [d1, d2, d3, d4] => { results := [.lit (.bool false)], args := [d1, d2, d3, d4] }
  | _ => none }
def RasterEndsWrongFalsely : Prop := rasterEndsRow.holds Try.pinned (OpenSpec.ofChange rasterEndsWrong)

/-- 'terrlaw5.RasterRows': WHATEVER THE INPUT: true; the input reads as it did. -/
def rasterRowsSpec : ChangeSpec := { name := "rasterRows", fn := fun _ => fun
  | [d1, d2] => { results := [.lit (.bool true)], args := [d1, d2] }
  | _ => none }
def rasterRowsRow : OpenClaim := { program := "ytdmhnjpblpfbfaa", sum := "0bae1e20c5576c88ce3934293c1e9a167915c9e9f755e424f6f5bcc849b9e184", func := "terrier/terrlaw5.RasterRows", spec := "rasterRows", recurses := true, apart := false }
def RasterRowsSaid : Prop := rasterRowsRow.holds Try.pinned (OpenSpec.ofChange rasterRowsSpec)

/-- ITS FALSE NEIGHBOUR: 'it returns false'. Refute it at one input. -/
def rasterRowsWrong : ChangeSpec := { name := "rasterRows", fn := fun _ => fun
  | [d1, d2] => { results := [.lit (.bool false)], args := [d1, d2] }
  | _ => none }
def RasterRowsWrongFalsely : Prop := rasterRowsRow.holds Try.pinned (OpenSpec.ofChange rasterRowsWrong)

/-- 'terrkeep5.RasterRest': WHATEVER THE INPUT: true; the input reads as it did. -/
def rasterRestSpec : ChangeSpec := { name := "rasterRest", fn := fun _ => fun
  | [d] => { results := [.lit (.bool true)], args := [d] }
  | _ => none }
def rasterRestRow : OpenClaim := { program := "ytdmhnjpblpfbfaa", sum := "0bae1e20c5576c88ce3934293c1e9a167915c9e9f755e424f6f5bcc849b9e184", func := "terrier/terrkeep5.RasterRest", spec := "rasterRest", unfollowed := true, recurses := true, apart := false }
def RasterRestSaid : Prop := rasterRestRow.holds Try.pinned (OpenSpec.ofChange rasterRestSpec)

/-- ITS FALSE NEIGHBOUR: 'it returns false'. Refute it at one input. -/
def rasterRestWrong : ChangeSpec := { name := "rasterRest", fn := fun _ => fun
  | [d] => { results := [.lit (.bool false)], args := [d] }
  | _ => none }
def RasterRestWrongFalsely : Prop := rasterRestRow.holds Try.pinned (OpenSpec.ofChange rasterRestWrong)

/-- 'terrkeep5.RasterHalves': WHATEVER THE INPUT: true; the input reads as it did. -/
def rasterHalvesSpec : ChangeSpec := { name := "rasterHalves", fn := fun _ => fun
  | [d1, d2, d3, d4] => { results := [.lit (.bool true)], args := [d1, d2, d3, d4] }
  | _ => none }
def rasterHalvesRow : OpenClaim := { program := "ytdmhnjpblpfbfaa", sum := "0bae1e20c5576c88ce3934293c1e9a167915c9e9f755e424f6f5bcc849b9e184", func := "terrier/terrkeep5.RasterHalves", spec := "rasterHalves", recurses := true, apart := false }
def RasterHalvesSaid : Prop := rasterHalvesRow.holds Try.pinned (OpenSpec.ofChange rasterHalvesSpec)

/-- ITS FALSE NEIGHBOUR: 'it returns false'. Refute it at one input. -/
def rasterHalvesWrong : ChangeSpec := { name := "rasterHalves", fn := fun _ => fun
  | [d1, d2, d3, d4] => { results := [.lit (.bool false)], args := [d1, d2, d3, d4] }
  | _ => none }
def RasterHalvesWrongFalsely : Prop := rasterHalvesRow.holds Try.pinned (OpenSpec.ofChange rasterHalvesWrong)

/-- 'terrlaw5.RasterCovers': WHATEVER THE INPUT: true; the input reads as it did. -/
def rasterCoversSpec : ChangeSpec := { name := "rasterCovers", fn := fun _ => fun
  | [d1, d2] => { results := [.lit (.bool true)], args := [d1, d2] }
  | _ => none }
def rasterCoversRow : OpenClaim := { program := "ytdmhnjpblpfbfaa", sum := "0bae1e20c5576c88ce3934293c1e9a167915c9e9f755e424f6f5bcc849b9e184", func := "terrier/terrlaw5.RasterCovers", spec := "rasterCovers", recurses := true, apart := false }
def RasterCoversSaid : Prop := rasterCoversRow.holds Try.pinned (OpenSpec.ofChange rasterCoversSpec)

/-- ITS FALSE NEIGHBOUR: 'it returns false'. Refute it at one input. -/
def rasterCoversWrong : ChangeSpec := { name := "rasterCovers", fn := fun _ => fun
  | [d1, d2] => { results := [.lit (.bool false)], args := [d1, d2] }
  | _ => none }
def RasterCoversWrongFalsely : Prop := rasterCoversRow.holds Try.pinned (OpenSpec.ofChange rasterCoversWrong)

/-- 'terrkeep5.RasterTurns': WHATEVER THE INPUT: true; the input reads as it did. -/
def rasterTurnsSpec : ChangeSpec := { name := "rasterTurns", fn := fun _ => fun
  | [d1, d2, d3] => { results := [.lit (.bool true)], args := [d1, d2, d3] }
  | _ => none }
def rasterTurnsRow : OpenClaim := { program := "ytdmhnjpblpfbfaa", sum := "0bae1e20c5576c88ce3934293c1e9a167915c9e9f755e424f6f5bcc849b9e184", func := "terrier/terrkeep5.RasterTurns", spec := "rasterTurns", unfollowed := true, recurses := true, apart := false }
def RasterTurnsSaid : Prop := rasterTurnsRow.holds Try.pinned (OpenSpec.ofChange rasterTurnsSpec)

/-- ITS FALSE NEIGHBOUR: 'it returns false'. Refute it at one input. -/
def rasterTurnsWrong : ChangeSpec := { name := "rasterTurns", fn := fun _ => fun
  | [d1, d2, d3] => { results := [.lit (.bool false)], args := [d1, d2, d3] }
  | _ => none }
def RasterTurnsWrongFalsely : Prop := rasterTurnsRow.holds Try.pinned (OpenSpec.ofChange rasterTurnsWrong)

/-- 'terrlaw5.RasterLines': WHATEVER THE INPUT: true; the input reads as it did. -/
def rasterLinesSpec : ChangeSpec := { name := "rasterLines", fn := fun _ => fun
  | [d1, d2, d3, d4] => { results := [.lit (.bool true)], args := [d1, d2, d3, d4] }
  | _ => none }
def rasterLinesRow : OpenClaim := { program := "ytdmhnjpblpfbfaa", sum := "0bae1e20c5576c88ce3934293c1e9a167915c9e9f755e424f6f5bcc849b9e184", func := "terrier/terrlaw5.RasterLines", spec := "rasterLines", recurses := true, apart := false }
def RasterLinesSaid : Prop := rasterLinesRow.holds Try.pinned (OpenSpec.ofChange rasterLinesSpec)

/-- ITS FALSE NEIGHBOUR: 'it returns false'. Refute it at one input. -/
def rasterLinesWrong : ChangeSpec := { name := "rasterLines", fn := fun _ => fun
  | [d1, d2, d3, d4] => { results := [.lit (.bool false)], args := [d1, d2, d3, d4] }
  | _ => none }
def RasterLinesWrongFalsely : Prop := rasterLinesRow.holds Try.pinned (OpenSpec.ofChange rasterLinesWrong)

/- THE SECOND FORM. 'bulk': how many values and letters a reading holds, each counted each time it is reached (what is shared counts as often as it is met; a slice's spare places count too). A statement '..UptoSaid' is the law's where the arguments, and the package variables that the reading takes, are together of bulk at most 1048576: NARROWER than '..Said'. Prove '..Said' where nothing that the law and all that it calls make is longer than what came in: it says more and counts as full. Else prove '..UptoSaid'. A law counts once. -/
mutual
def uptoBulk {H : Type} : DataW H → Nat
  | .lit (.string bytes) => bytes.length + 1
  | .lit _ => 1
  | .nil => 1
  | .ptr d => uptoBulk d + 1
  | .slice elems spare => uptoBulkAll elems + uptoBulkAll spare + 1
  | .agg parts => uptoBulkAll parts + 1
  | .iface _ d => uptoBulk d + 1
  | .map entries => uptoBulkEntries entries + 1
  | .held _ => 1
def uptoBulkAll {H : Type} : List (DataW H) → Nat
  | [] => 0
  | d :: r => uptoBulk d + uptoBulkAll r
def uptoBulkEntries {H : Type} : List (Lit × DataW H) → Nat
  | [] => 0
  | x :: r => uptoBulkEntry x + uptoBulkEntries r
def uptoBulkEntry {H : Type} : Lit × DataW H → Nat
  | (.string bytes, d) => bytes.length + uptoBulk d + 1
  | (_, d) => uptoBulk d + 1
 end
def uptoSmall : (H : Type) → List (DataW H) → Bool := fun _ ds => decide (uptoBulkAll ds ≤ 1048576)
def OpenSpec.upto (s : _root_.Go.ChangeSpec) : _root_.Go.OpenSpec := { _root_.Go.OpenSpec.ofChange s with cond := some uptoSmall }

/-- 'terrkeep5.PlaceFewer', WHERE WHAT IT READS IS OF BULK AT MOST 1048576: true; the input reads as it did. -/
def placeFewerUptoRow : OpenClaim := { program := "ytdmhnjpblpfbfaa", sum := "0bae1e20c5576c88ce3934293c1e9a167915c9e9f755e424f6f5bcc849b9e184", func := "terrier/terrkeep5.PlaceFewer", spec := "placeFewer", recurses := true, apart := false, narrowed := true }
def PlaceFewerUptoSaid : Prop := placeFewerUptoRow.holds Try.pinned (OpenSpec.upto placeFewerSpec)

/-- 'terrkeep5.PlaceFar', WHERE WHAT IT READS IS OF BULK AT MOST 1048576: true; the input reads as it did. -/
def placeFarUptoRow : OpenClaim := { program := "ytdmhnjpblpfbfaa", sum := "0bae1e20c5576c88ce3934293c1e9a167915c9e9f755e424f6f5bcc849b9e184", func := "terrier/terrkeep5.PlaceFar", spec := "placeFar", recurses := true, apart := false, narrowed := true }
def PlaceFarUptoSaid : Prop := placeFarUptoRow.holds Try.pinned (OpenSpec.upto placeFarSpec)

/-- 'terrlaw5.PlaceTells', WHERE WHAT IT READS IS OF BULK AT MOST 1048576: true; the input reads as it did. -/
def placeTellsUptoRow : OpenClaim := { program := "ytdmhnjpblpfbfaa", sum := "0bae1e20c5576c88ce3934293c1e9a167915c9e9f755e424f6f5bcc849b9e184", func := "terrier/terrlaw5.PlaceTells", spec := "placeTells", recurses := true, apart := false, narrowed := true }
def PlaceTellsUptoSaid : Prop := placeTellsUptoRow.holds Try.pinned (OpenSpec.upto placeTellsSpec)

/-- 'terrlaw5.PlaceClears', WHERE WHAT IT READS IS OF BULK AT MOST 1048576: true; the input reads as it did. -/
def placeClearsUptoRow : OpenClaim := { program := "ytdmhnjpblpfbfaa", sum := "0bae1e20c5576c88ce3934293c1e9a167915c9e9f755e424f6f5bcc849b9e184", func := "terrier/terrlaw5.PlaceClears", spec := "placeClears", unfollowed := true, recurses := true, apart := false, narrowed := true }
def PlaceClearsUptoSaid : Prop := placeClearsUptoRow.holds Try.pinned (OpenSpec.upto placeClearsSpec)

/-- 'terrkeep5.PlaceMost', WHERE WHAT IT READS IS OF BULK AT MOST 1048576: true; the input reads as it did. -/
def placeMostUptoRow : OpenClaim := { program := "ytdmhnjpblpfbfaa", sum := "0bae1e20c5576c88ce3934293c1e9a167915c9e9f755e424f6f5bcc849b9e184", func := "terrier/terrkeep5.PlaceMost", spec := "placeMost", unfollowed := true, recurses := true, apart := false, narrowed := true }
def PlaceMostUptoSaid : Prop := placeMostUptoRow.holds Try.pinned (OpenSpec.upto placeMostSpec)

/-- 'terrkeep5.RasterEnds', WHERE WHAT IT READS IS OF BULK AT MOST 1048576: true; the input reads as it did. -/
def rasterEndsUptoRow : OpenClaim := { program := "ytdmhnjpblpfbfaa", sum := "0bae1e20c5576c88ce3934293c1e9a167915c9e9f755e424f6f5bcc849b9e184", func := "terrier/terrkeep5.RasterEnds", spec := "rasterEnds", apart := false, narrowed := true }
def RasterEndsUptoSaid : Prop := rasterEndsUptoRow.holds Try.pinned (OpenSpec.upto rasterEndsSpec)

/-- 'terrlaw5.RasterRows', WHERE WHAT IT READS IS OF BULK AT MOST 1048576: true; the input reads as it did. -/
def rasterRowsUptoRow : OpenClaim := { program := "ytdmhnjpblpfbfaa", sum := "0bae1e20c5576c88ce3934293c1e9a167915c9e9f755e424f6f5bcc849b9e184", func := "terrier/terrlaw5.RasterRows", spec := "rasterRows", recurses := true, apart := false, narrowed := true }
def RasterRowsUptoSaid : Prop := rasterRowsUptoRow.holds Try.pinned (OpenSpec.upto rasterRowsSpec)

/-- 'terrkeep5.RasterRest', WHERE WHAT IT READS IS OF BULK AT MOST 1048576: true; the input reads as it did. -/
def rasterRestUptoRow : OpenClaim := { program := "ytdmhnjpblpfbfaa", sum := "0bae1e20c5576c88ce3934293c1e9a167915c9e9f755e424f6f5bcc849b9e184", func := "terrier/terrkeep5.RasterRest", spec := "rasterRest", unfollowed := true, recurses := true, apart := false, narrowed := true }
def RasterRestUptoSaid : Prop := rasterRestUptoRow.holds Try.pinned (OpenSpec.upto rasterRestSpec)

/-- 'terrkeep5.RasterHalves', WHERE WHAT IT READS IS OF BULK AT MOST 1048576: true; the input reads as it did. -/
def rasterHalvesUptoRow : OpenClaim := { program := "ytdmhnjpblpfbfaa", sum := "0bae1e20c5576c88ce3934293c1e9a167915c9e9f755e424f6f5bcc849b9e184", func := "terrier/terrkeep5.RasterHalves", spec := "rasterHalves", recurses := true, apart := false, narrowed := true }
def RasterHalvesUptoSaid : Prop := rasterHalvesUptoRow.holds Try.pinned (OpenSpec.upto rasterHalvesSpec)

/-- 'terrlaw5.RasterCovers', WHERE WHAT IT READS IS OF BULK AT MOST 1048576: true; the input reads as it did. -/
def rasterCoversUptoRow : OpenClaim := { program := "ytdmhnjpblpfbfaa", sum := "0bae1e20c5576c88ce3934293c1e9a167915c9e9f755e424f6f5bcc849b9e184", func := "terrier/terrlaw5.RasterCovers", spec := "rasterCovers", recurses := true, apart := false, narrowed := true }
def RasterCoversUptoSaid : Prop := rasterCoversUptoRow.holds Try.pinned (OpenSpec.upto rasterCoversSpec)

/-- 'terrkeep5.RasterTurns', WHERE WHAT IT READS IS OF BULK AT MOST 1048576: true; the input reads as it did. -/
def rasterTurnsUptoRow : OpenClaim := { program := "ytdmhnjpblpfbfaa", sum := "0bae1e20c5576c88ce3934293c1e9a167915c9e9f755e424f6f5bcc849b9e184", func := "terrier/terrkeep5.RasterTurns", spec := "rasterTurns", unfollowed := true, recurses := true, apart := false, narrowed := true }
def RasterTurnsUptoSaid : Prop := rasterTurnsUptoRow.holds Try.pinned (OpenSpec.upto rasterTurnsSpec)

/-- 'terrlaw5.RasterLines', WHERE WHAT IT READS IS OF BULK AT MOST 1048576: true; the input reads as it did. -/
def rasterLinesUptoRow : OpenClaim := { program := "ytdmhnjpblpfbfaa", sum := "0bae1e20c5576c88ce3934293c1e9a167915c9e9f755e424f6f5bcc849b9e184", func := "terrier/terrlaw5.RasterLines", spec := "rasterLines", recurses := true, apart := false, narrowed := true }
def RasterLinesUptoSaid : Prop := rasterLinesUptoRow.holds Try.pinned (OpenSpec.upto rasterLinesSpec)

end Rows
end Go.Proofs.Ytdmhnjpblpfbfaa
