/-
  No cell of these rows narrows 'for every input' (looked for: loops, veiled, ifaces, maps, wideKeys, modest, calm, conditions, laid).
  DERIVED. THE GIVEN ROWS OF THIS SEAT. 8 by the template 'for every input the law returns true; each argument reads behind the call as it read before'; 0 by the template 'total and deterministic' (their statements: YtkkifimcojbmdaaTotals.lean).
  GIVEN WITH THE SEED: the statements are not yours to turn. If you find one false, say at which input.
  Laid BY PROGRAM, IN A SANDBOX (cutbox-rows.mjs): the forced cells as the released guide's own fill.sh prints them over the translation 10982eeb19912b32… (all of the seat's roots in one cut). By AI agents, Wed Nov 11 2026. No macro, syntax, notation, axiom, sorry.
-/
import Derived.Test.YtkkifimcojbmdaaChecked
import GoSem.Claim
import GoSem.ClaimJoined
import GoSem.ClaimMapViews
import Derived.JoinedTies
import Derived.KernelRfl
namespace Go.Proofs.Ytkkifimcojbmdaa
/- THE CELL 'sum', in the pinned program and in every row, IS THE sha256 OF THE DUMP (.gsa) THAT YtkkifimcojbmdaaProg.lean LOADS. Nothing in Lean hashes anything: it is a label: what it is worth is what the hold of that sum in a sandbox is worth. -/
noncomputable def Try.pinned : Pinned := { name := "ytkkifimcojbmdaa", sum := "10982eeb19912b32dd38de7a8a12ec648490f6f6eb393221c405a24b0362f7f8", checked := Try.checked }
namespace Rows
def none {H : Type} : Left H := { results := [], args := [] }

/-- 'laws.FnExactConstants': WHATEVER THE INPUT: true; the input reads as it did. -/
def fnExactConstantsSpec : ChangeSpec := { name := "fnExactConstants", fn := fun _ => fun
  | [] => { results := [.lit (.bool true)], args := [] }
  | _ => none }
def fnExactConstantsRow : OpenClaim := { program := "ytkkifimcojbmdaa", sum := "10982eeb19912b32dd38de7a8a12ec648490f6f6eb393221c405a24b0362f7f8", func := "loop.example/s02881/laws.FnExactConstants", spec := "fnExactConstants", apart := false }
def FnExactConstantsSaid : Prop := fnExactConstantsRow.holds Try.pinned (OpenSpec.ofChange fnExactConstantsSpec)

/-- ITS FALSE NEIGHBOUR: 'it returns false'. Refute it at one input. -/
def fnExactConstantsWrong : ChangeSpec := { name := "fnExactConstants", fn := fun _ => fun
  | [] => { results := [.lit (.bool false)], args := [] }
  | _ => none }
def FnExactConstantsWrongFalsely : Prop := fnExactConstantsRow.holds Try.pinned (OpenSpec.ofChange fnExactConstantsWrong)

/-- 'laws.FnExactValidName': WHATEVER THE INPUT: true; the input reads as it did. -/
def fnExactValidNameSpec : ChangeSpec := { name := "fnExactValidName", fn := fun _ => fun
  | [d] => { results := [.lit (.bool true)], args := [d] }
  | _ => none }
def fnExactValidNameRow : OpenClaim := { program := "ytkkifimcojbmdaa", sum := "10982eeb19912b32dd38de7a8a12ec648490f6f6eb393221c405a24b0362f7f8", func := "loop.example/s02881/laws.FnExactValidName", spec := "fnExactValidName", apart := false }
def FnExactValidNameSaid : Prop := fnExactValidNameRow.holds Try.pinned (OpenSpec.ofChange fnExactValidNameSpec)

/-- ITS FALSE NEIGHBOUR: 'it returns false'. Refute it at one input. -/
def fnExactValidNameWrong : ChangeSpec := { name := "fnExactValidName", fn := fun _ => fun
  | [d] => { results := [.lit (.bool false)], args := [d] }
  | _ => none }
def FnExactValidNameWrongFalsely : Prop := fnExactValidNameRow.holds Try.pinned (OpenSpec.ofChange fnExactValidNameWrong)

/-- 'laws.FnExactFileBlocks': WHATEVER THE INPUT: true; the input reads as it did. -/
def fnExactFileBlocksSpec : ChangeSpec := { name := "fnExactFileBlocks", fn := fun _ => fun
  | [d] => { results := [.lit (.bool true)], args := [d] }
  | _ => none }
def fnExactFileBlocksRow : OpenClaim := { program := "ytkkifimcojbmdaa", sum := "10982eeb19912b32dd38de7a8a12ec648490f6f6eb393221c405a24b0362f7f8", func := "loop.example/s02881/laws.FnExactFileBlocks", spec := "fnExactFileBlocks", apart := false }
def FnExactFileBlocksSaid : Prop := fnExactFileBlocksRow.holds Try.pinned (OpenSpec.ofChange fnExactFileBlocksSpec)

/-- ITS FALSE NEIGHBOUR: 'it returns false'. Refute it at one input. -/
def fnExactFileBlocksWrong : ChangeSpec := { name := "fnExactFileBlocks", fn := fun _ => fun
  | [d] => { results := [.lit (.bool false)], args := [d] }
  | _ => none }
def FnExactFileBlocksWrongFalsely : Prop := fnExactFileBlocksRow.holds Try.pinned (OpenSpec.ofChange fnExactFileBlocksWrong)

/-- 'laws.FnExactFreeSegment': WHATEVER THE INPUT: true; the input reads as it did. -/
def fnExactFreeSegmentSpec : ChangeSpec := { name := "fnExactFreeSegment", fn := fun _ => fun
  | [d1, d2] => { results := [.lit (.bool true)], args := [d1, d2] }
  | _ => none }
def fnExactFreeSegmentRow : OpenClaim := { program := "ytkkifimcojbmdaa", sum := "10982eeb19912b32dd38de7a8a12ec648490f6f6eb393221c405a24b0362f7f8", func := "loop.example/s02881/laws.FnExactFreeSegment", spec := "fnExactFreeSegment", unfollowed := true, recurses := true, apart := false }
def FnExactFreeSegmentSaid : Prop := fnExactFreeSegmentRow.holds Try.pinned (OpenSpec.ofChange fnExactFreeSegmentSpec)

/-- ITS FALSE NEIGHBOUR: 'it returns false'. Refute it at one input. -/
def fnExactFreeSegmentWrong : ChangeSpec := { name := "fnExactFreeSegment", fn := fun _ => fun
  | [d1, d2] => { results := [.lit (.bool false)], args := [d1, d2] }
  | _ => none }
def FnExactFreeSegmentWrongFalsely : Prop := fnExactFreeSegmentRow.holds Try.pinned (OpenSpec.ofChange fnExactFreeSegmentWrong)

/-- 'laws.FnExactPickVictim': WHATEVER THE INPUT: true; the input reads as it did. -/
def fnExactPickVictimSpec : ChangeSpec := { name := "fnExactPickVictim", fn := fun _ => fun
  | [d1, d2, d3] => { results := [.lit (.bool true)], args := [d1, d2, d3] }
  | _ => none }
def fnExactPickVictimRow : OpenClaim := { program := "ytkkifimcojbmdaa", sum := "10982eeb19912b32dd38de7a8a12ec648490f6f6eb393221c405a24b0362f7f8", func := "loop.example/s02881/laws.FnExactPickVictim", spec := "fnExactPickVictim", unfollowed := true, recurses := true, apart := false }
def FnExactPickVictimSaid : Prop := fnExactPickVictimRow.holds Try.pinned (OpenSpec.ofChange fnExactPickVictimSpec)

/-- ITS FALSE NEIGHBOUR: 'it returns false'. Refute it at one input. -/
def fnExactPickVictimWrong : ChangeSpec := { name := "fnExactPickVictim", fn := fun _ => fun
  | [d1, d2, d3] => { results := [.lit (.bool false)], args := [d1, d2, d3] }
  | _ => none }
def FnExactPickVictimWrongFalsely : Prop := fnExactPickVictimRow.holds Try.pinned (OpenSpec.ofChange fnExactPickVictimWrong)

/-- 'laws.FnExactLayout': WHATEVER THE INPUT: true; the input reads as it did. -/
def fnExactLayoutSpec : ChangeSpec := { name := "fnExactLayout", fn := fun _ => fun
  | [d] => { results := [.lit (.bool true)], args := [d] }
  | _ => none }
def fnExactLayoutRow : OpenClaim := { program := "ytkkifimcojbmdaa", sum := "10982eeb19912b32dd38de7a8a12ec648490f6f6eb393221c405a24b0362f7f8", func := "loop.example/s02881/laws.FnExactLayout", spec := "fnExactLayout", apart := false }
def FnExactLayoutSaid : Prop := fnExactLayoutRow.holds Try.pinned (OpenSpec.ofChange fnExactLayoutSpec)

/-- ITS FALSE NEIGHBOUR: 'it returns false'. Refute it at one input. -/
def fnExactLayoutWrong : ChangeSpec := { name := "fnExactLayout", fn := fun _ => fun
  | [d] => { results := [.lit (.bool false)], args := [d] }
  | _ => none }
def FnExactLayoutWrongFalsely : Prop := fnExactLayoutRow.holds Try.pinned (OpenSpec.ofChange fnExactLayoutWrong)

/-- 'laws.FnExactEncodeHeader': WHATEVER THE INPUT: true; the input reads as it did. -/
def fnExactEncodeHeaderSpec : ChangeSpec := { name := "fnExactEncodeHeader", fn := fun _ => fun
  | [d] => { results := [.lit (.bool true)], args := [d] }
  | _ => none }
def fnExactEncodeHeaderRow : OpenClaim := { program := "ytkkifimcojbmdaa", sum := "10982eeb19912b32dd38de7a8a12ec648490f6f6eb393221c405a24b0362f7f8", func := "loop.example/s02881/laws.FnExactEncodeHeader", spec := "fnExactEncodeHeader", recurses := true, apart := false }
def FnExactEncodeHeaderSaid : Prop := fnExactEncodeHeaderRow.holds Try.pinned (OpenSpec.ofChange fnExactEncodeHeaderSpec)

/-- ITS FALSE NEIGHBOUR: 'it returns false'. Refute it at one input. -/
def fnExactEncodeHeaderWrong : ChangeSpec := { name := "fnExactEncodeHeader", fn := fun _ => fun
  | [d] => { results := [.lit (.bool false)], args := [d] }
  | _ => none }
def FnExactEncodeHeaderWrongFalsely : Prop := fnExactEncodeHeaderRow.holds Try.pinned (OpenSpec.ofChange fnExactEncodeHeaderWrong)

/-- 'laws.FnExactNewDisk': WHATEVER THE INPUT: true; the input reads as it did. -/
def fnExactNewDiskSpec : ChangeSpec := { name := "fnExactNewDisk", fn := fun _ => fun
  | [d] => { results := [.lit (.bool true)], args := [d] }
  | _ => none }
def fnExactNewDiskRow : OpenClaim := { program := "ytkkifimcojbmdaa", sum := "10982eeb19912b32dd38de7a8a12ec648490f6f6eb393221c405a24b0362f7f8", func := "loop.example/s02881/laws.FnExactNewDisk", spec := "fnExactNewDisk", apart := false }
def FnExactNewDiskSaid : Prop := fnExactNewDiskRow.holds Try.pinned (OpenSpec.ofChange fnExactNewDiskSpec)

/-- ITS FALSE NEIGHBOUR: 'it returns false'. Refute it at one input. -/
def fnExactNewDiskWrong : ChangeSpec := { name := "fnExactNewDisk", fn := fun _ => fun
  | [d] => { results := [.lit (.bool false)], args := [d] }
  | _ => none }
def FnExactNewDiskWrongFalsely : Prop := fnExactNewDiskRow.holds Try.pinned (OpenSpec.ofChange fnExactNewDiskWrong)

/- THE SECOND FORM. 'bulk': how many values and letters a reading holds, each counted each time it is reached (what is shared counts as often as it is met; a slice's spare places count too). A statement '..UptoSaid' is the law's where the arguments, and the package variables that the reading takes, are together of bulk at most 1048576: NARROWER than '..Said'. Prove '..Said' where nothing that the law and all that it calls make is longer than what came in: it says more and counts as full. Else prove '..UptoSaid'. A law counts once. -/
mutual
def uptoBulk {H : Type} : DataW H → Nat
  | .lit (.string bytes) => bytes.length + 1
  | .lit _ => 1
  | .nil => 1
  | .ptr d => uptoBulk d + 1
  | .slice elems spare => uptoBulkAll elems + uptoBulkAll spare + 1
  | .agg parts => uptoBulkAll parts + 1
  | .iface _ d => uptoBulk d + 1
  | .map entries => uptoBulkEntries entries + 1
  | .held _ => 1
def uptoBulkAll {H : Type} : List (DataW H) → Nat
  | [] => 0
  | d :: r => uptoBulk d + uptoBulkAll r
def uptoBulkEntries {H : Type} : List (Lit × DataW H) → Nat
  | [] => 0
  | x :: r => uptoBulkEntry x + uptoBulkEntries r
def uptoBulkEntry {H : Type} : Lit × DataW H → Nat
  | (.string bytes, d) => bytes.length + uptoBulk d + 1
  | (_, d) => uptoBulk d + 1
 end
def uptoSmall : (H : Type) → List (DataW H) → Bool := fun _ ds => decide (uptoBulkAll ds ≤ 1048576)
def OpenSpec.upto (s : _root_.Go.ChangeSpec) : _root_.Go.OpenSpec := { _root_.Go.OpenSpec.ofChange s with cond := some uptoSmall }

/-- 'laws.FnExactConstants', WHERE WHAT IT READS IS OF BULK AT MOST 1048576: true; the input reads as it did. -/
def fnExactConstantsUptoRow : OpenClaim := { program := "ytkkifimcojbmdaa", sum := "10982eeb19912b32dd38de7a8a12ec648490f6f6eb393221c405a24b0362f7f8", func := "loop.example/s02881/laws.FnExactConstants", spec := "fnExactConstants", apart := false, narrowed := true }
def FnExactConstantsUptoSaid : Prop := fnExactConstantsUptoRow.holds Try.pinned (OpenSpec.upto fnExactConstantsSpec)

/-- 'laws.FnExactValidName', WHERE WHAT IT READS IS OF BULK AT MOST 1048576: true; the input reads as it did. -/
def fnExactValidNameUptoRow : OpenClaim := { program := "ytkkifimcojbmdaa", sum := "10982eeb19912b32dd38de7a8a12ec648490f6f6eb393221c405a24b0362f7f8", func := "loop.example/s02881/laws.FnExactValidName", spec := "fnExactValidName", apart := false, narrowed := true }
def FnExactValidNameUptoSaid : Prop := fnExactValidNameUptoRow.holds Try.pinned (OpenSpec.upto fnExactValidNameSpec)

/-- 'laws.FnExactFileBlocks', WHERE WHAT IT READS IS OF BULK AT MOST 1048576: true; the input reads as it did. -/
def fnExactFileBlocksUptoRow : OpenClaim := { program := "ytkkifimcojbmdaa", sum := "10982eeb19912b32dd38de7a8a12ec648490f6f6eb393221c405a24b0362f7f8", func := "loop.example/s02881/laws.FnExactFileBlocks", spec := "fnExactFileBlocks", apart := false, narrowed := true }
def FnExactFileBlocksUptoSaid : Prop := fnExactFileBlocksUptoRow.holds Try.pinned (OpenSpec.upto fnExactFileBlocksSpec)

/-- 'laws.FnExactFreeSegment', WHERE WHAT IT READS IS OF BULK AT MOST 1048576: true; the input reads as it did. -/
def fnExactFreeSegmentUptoRow : OpenClaim := { program := "ytkkifimcojbmdaa", sum := "10982eeb19912b32dd38de7a8a12ec648490f6f6eb393221c405a24b0362f7f8", func := "loop.example/s02881/laws.FnExactFreeSegment", spec := "fnExactFreeSegment", unfollowed := true, recurses := true, apart := false, narrowed := true }
def FnExactFreeSegmentUptoSaid : Prop := fnExactFreeSegmentUptoRow.holds Try.pinned (OpenSpec.upto fnExactFreeSegmentSpec)

/-- 'laws.FnExactPickVictim', WHERE WHAT IT READS IS OF BULK AT MOST 1048576: true; the input reads as it did. -/
def fnExactPickVictimUptoRow : OpenClaim := { program := "ytkkifimcojbmdaa", sum := "10982eeb19912b32dd38de7a8a12ec648490f6f6eb393221c405a24b0362f7f8", func := "loop.example/s02881/laws.FnExactPickVictim", spec := "fnExactPickVictim", unfollowed := true, recurses := true, apart := false, narrowed := true }
def FnExactPickVictimUptoSaid : Prop := fnExactPickVictimUptoRow.holds Try.pinned (OpenSpec.upto fnExactPickVictimSpec)

/-- 'laws.FnExactLayout', WHERE WHAT IT READS IS OF BULK AT MOST 1048576: true; the input reads as it did. -/
def fnExactLayoutUptoRow : OpenClaim := { program := "ytkkifimcojbmdaa", sum := "10982eeb19912b32dd38de7a8a12ec648490f6f6eb393221c405a24b0362f7f8", func := "loop.example/s02881/laws.FnExactLayout", spec := "fnExactLayout", apart := false, narrowed := true }
def FnExactLayoutUptoSaid : Prop := fnExactLayoutUptoRow.holds Try.pinned (OpenSpec.upto fnExactLayoutSpec)

/-- 'laws.FnExactEncodeHeader', WHERE WHAT IT READS IS OF BULK AT MOST 1048576: true; the input reads as it did. -/
def fnExactEncodeHeaderUptoRow : OpenClaim := { program := "ytkkifimcojbmdaa", sum := "10982eeb19912b32dd38de7a8a12ec648490f6f6eb393221c405a24b0362f7f8", func := "loop.example/s02881/laws.FnExactEncodeHeader", spec := "fnExactEncodeHeader", recurses := true, apart := false, narrowed := true }
def FnExactEncodeHeaderUptoSaid : Prop := fnExactEncodeHeaderUptoRow.holds Try.pinned (OpenSpec.upto fnExactEncodeHeaderSpec)

/-- 'laws.FnExactNewDisk', WHERE WHAT IT READS IS OF BULK AT MOST 1048576: true; the input reads as it did. -/
def fnExactNewDiskUptoRow : OpenClaim := { program := "ytkkifimcojbmdaa", sum := "10982eeb19912b32dd38de7a8a12ec648490f6f6eb393221c405a24b0362f7f8", func := "loop.example/s02881/laws.FnExactNewDisk", spec := "fnExactNewDisk", apart := false, narrowed := true }
def FnExactNewDiskUptoSaid : Prop := fnExactNewDiskUptoRow.holds Try.pinned (OpenSpec.upto fnExactNewDiskSpec)

end Rows
end Go.Proofs.Ytkkifimcojbmdaa
