/-
  No cell of these rows narrows 'for every input' (looked for: loops, veiled, ifaces, maps, wideKeys, modest, calm, conditions, laid).
  DERIVED. THE GIVEN ROWS OF THIS SEAT. 20 by the template 'for every input the law returns true; each argument reads behind the call as it read before'; 0 by the template 'total and deterministic' (their statements: YtgpcanjmgdmdhaaTotals.lean).
  GIVEN WITH THE SEED: the statements are not yours to turn. If you find one false, say at which input.
  Laid BY PROGRAM, IN A SANDBOX (cutbox-rows.mjs): the forced cells as the released guide's own fill.sh prints them over the translation b274c4863d9b9e65… (all of the seat's roots in one cut). By AI agents, Wed Nov 11 2026. No macro, syntax, notation, axiom, sorry.
-/
import Derived.Test.YtgpcanjmgdmdhaaChecked
import GoSem.Claim
import GoSem.ClaimJoined
import GoSem.ClaimMapViews
import Derived.JoinedTies
import Derived.KernelRfl
namespace Go.Proofs.Ytgpcanjmgdmdhaa
/- THE CELL 'sum', in the pinned program and in every row, IS THE sha256 OF THE DUMP (.gsa) THAT YtgpcanjmgdmdhaaProg.lean LOADS. Nothing in Lean hashes anything: it is a label: what it is worth is what the hold of that sum in a sandbox is worth. -/
noncomputable def Try.pinned : Pinned := { name := "ytgpcanjmgdmdhaa", sum := "b274c4863d9b9e652f96387a213010a11385c6b857dd15c9ef50053c1ba9db05", checked := Try.checked }
namespace Rows
def none {H : Type} : Left H := { results := [], args := [] }

/-- 'laws.FnExactFreeSegment': WHATEVER THE INPUT: true; the input reads as it did. -/
def fnExactFreeSegmentSpec : ChangeSpec := { name := "fnExactFreeSegment", fn := fun _ => fun
  | [d1, d2] => { results := [.lit (.bool true)], args := [d1, d2] }
  | _ => none }
def fnExactFreeSegmentRow : OpenClaim := { program := "ytgpcanjmgdmdhaa", sum := "b274c4863d9b9e652f96387a213010a11385c6b857dd15c9ef50053c1ba9db05", func := "loop.example/s02881/laws.FnExactFreeSegment", spec := "fnExactFreeSegment", unfollowed := true, recurses := true, apart := false }
def FnExactFreeSegmentSaid : Prop := fnExactFreeSegmentRow.holds Try.pinned (OpenSpec.ofChange fnExactFreeSegmentSpec)

/-- ITS FALSE NEIGHBOUR: 'it returns false'. Refute it at one input. -/
def fnExactFreeSegmentWrong : ChangeSpec := { name := "fnExactFreeSegment", fn := fun _ => fun
  | [d1, d2] => { results := [.lit (.bool false)], args := [d1, d2] }
  | _ => none }
def FnExactFreeSegmentWrongFalsely : Prop := fnExactFreeSegmentRow.holds Try.pinned (OpenSpec.ofChange fnExactFreeSegmentWrong)

/-- 'laws.FnExactPickVictim': WHATEVER THE INPUT: true; the input reads as it did. -/
def fnExactPickVictimSpec : ChangeSpec := { name := "fnExactPickVictim", fn := fun _ => fun
  | [d1, d2, d3] => { results := [.lit (.bool true)], args := [d1, d2, d3] }
  | _ => none }
def fnExactPickVictimRow : OpenClaim := { program := "ytgpcanjmgdmdhaa", sum := "b274c4863d9b9e652f96387a213010a11385c6b857dd15c9ef50053c1ba9db05", func := "loop.example/s02881/laws.FnExactPickVictim", spec := "fnExactPickVictim", unfollowed := true, recurses := true, apart := false }
def FnExactPickVictimSaid : Prop := fnExactPickVictimRow.holds Try.pinned (OpenSpec.ofChange fnExactPickVictimSpec)

/-- ITS FALSE NEIGHBOUR: 'it returns false'. Refute it at one input. -/
def fnExactPickVictimWrong : ChangeSpec := { name := "fnExactPickVictim", fn := fun _ => fun
  | [d1, d2, d3] => { results := [.lit (.bool false)], args := [d1, d2, d3] }
  | _ => none }
def FnExactPickVictimWrongFalsely : Prop := fnExactPickVictimRow.holds Try.pinned (OpenSpec.ofChange fnExactPickVictimWrong)

/-- 'laws.FnExactLayout': WHATEVER THE INPUT: true; the input reads as it did. -/
def fnExactLayoutSpec : ChangeSpec := { name := "fnExactLayout", fn := fun _ => fun
  | [d] => { results := [.lit (.bool true)], args := [d] }
  | _ => none }
def fnExactLayoutRow : OpenClaim := { program := "ytgpcanjmgdmdhaa", sum := "b274c4863d9b9e652f96387a213010a11385c6b857dd15c9ef50053c1ba9db05", func := "loop.example/s02881/laws.FnExactLayout", spec := "fnExactLayout", apart := false }
def FnExactLayoutSaid : Prop := fnExactLayoutRow.holds Try.pinned (OpenSpec.ofChange fnExactLayoutSpec)

/-- ITS FALSE NEIGHBOUR: 'it returns false'. Refute it at one input. -/
def fnExactLayoutWrong : ChangeSpec := { name := "fnExactLayout", fn := fun _ => fun
  | [d] => { results := [.lit (.bool false)], args := [d] }
  | _ => none }
def FnExactLayoutWrongFalsely : Prop := fnExactLayoutRow.holds Try.pinned (OpenSpec.ofChange fnExactLayoutWrong)

/-- 'laws.FnExactEncodeHeader': WHATEVER THE INPUT: true; the input reads as it did. -/
def fnExactEncodeHeaderSpec : ChangeSpec := { name := "fnExactEncodeHeader", fn := fun _ => fun
  | [d] => { results := [.lit (.bool true)], args := [d] }
  | _ => none }
def fnExactEncodeHeaderRow : OpenClaim := { program := "ytgpcanjmgdmdhaa", sum := "b274c4863d9b9e652f96387a213010a11385c6b857dd15c9ef50053c1ba9db05", func := "loop.example/s02881/laws.FnExactEncodeHeader", spec := "fnExactEncodeHeader", recurses := true, apart := false }
def FnExactEncodeHeaderSaid : Prop := fnExactEncodeHeaderRow.holds Try.pinned (OpenSpec.ofChange fnExactEncodeHeaderSpec)

/-- ITS FALSE NEIGHBOUR: 'it returns false'. Refute it at one input. -/
def fnExactEncodeHeaderWrong : ChangeSpec := { name := "fnExactEncodeHeader", fn := fun _ => fun
  | [d] => { results := [.lit (.bool false)], args := [d] }
  | _ => none }
def FnExactEncodeHeaderWrongFalsely : Prop := fnExactEncodeHeaderRow.holds Try.pinned (OpenSpec.ofChange fnExactEncodeHeaderWrong)

/-- 'laws.FnExactNewDisk': WHATEVER THE INPUT: true; the input reads as it did. -/
def fnExactNewDiskSpec : ChangeSpec := { name := "fnExactNewDisk", fn := fun _ => fun
  | [d] => { results := [.lit (.bool true)], args := [d] }
  | _ => none }
def fnExactNewDiskRow : OpenClaim := { program := "ytgpcanjmgdmdhaa", sum := "b274c4863d9b9e652f96387a213010a11385c6b857dd15c9ef50053c1ba9db05", func := "loop.example/s02881/laws.FnExactNewDisk", spec := "fnExactNewDisk", apart := false }
def FnExactNewDiskSaid : Prop := fnExactNewDiskRow.holds Try.pinned (OpenSpec.ofChange fnExactNewDiskSpec)

/-- ITS FALSE NEIGHBOUR: 'it returns false'. Refute it at one input. -/
def fnExactNewDiskWrong : ChangeSpec := { name := "fnExactNewDisk", fn := fun _ => fun
  | [d] => { results := [.lit (.bool false)], args := [d] }
  | _ => none }
def FnExactNewDiskWrongFalsely : Prop := fnExactNewDiskRow.holds Try.pinned (OpenSpec.ofChange fnExactNewDiskWrong)

/-- 'laws.FnExactFreeLids': WHATEVER THE INPUT: true; the input reads as it did. -/
def fnExactFreeLidsSpec : ChangeSpec := { name := "fnExactFreeLids", fn := fun _ => fun
  | [d1, d2] => { results := [.lit (.bool true)], args := [d1, d2] }
  | _ => none }
def fnExactFreeLidsRow : OpenClaim := { program := "ytgpcanjmgdmdhaa", sum := "b274c4863d9b9e652f96387a213010a11385c6b857dd15c9ef50053c1ba9db05", func := "loop.example/s02881/laws.FnExactFreeLids", spec := "fnExactFreeLids", unfollowed := true, recurses := true, apart := false }
def FnExactFreeLidsSaid : Prop := fnExactFreeLidsRow.holds Try.pinned (OpenSpec.ofChange fnExactFreeLidsSpec)

/-- ITS FALSE NEIGHBOUR: 'it returns false'. Refute it at one input. -/
def fnExactFreeLidsWrong : ChangeSpec := { name := "fnExactFreeLids", fn := fun _ => fun
  | [d1, d2] => { results := [.lit (.bool false)], args := [d1, d2] }
  | _ => none }
def FnExactFreeLidsWrongFalsely : Prop := fnExactFreeLidsRow.holds Try.pinned (OpenSpec.ofChange fnExactFreeLidsWrong)

/-- 'laws.FnExactEncodeTable': WHATEVER THE INPUT: true; the input reads as it did. -/
def fnExactEncodeTableSpec : ChangeSpec := { name := "fnExactEncodeTable", fn := fun _ => fun
  | [d] => { results := [.lit (.bool true)], args := [d] }
  | _ => none }
def fnExactEncodeTableRow : OpenClaim := { program := "ytgpcanjmgdmdhaa", sum := "b274c4863d9b9e652f96387a213010a11385c6b857dd15c9ef50053c1ba9db05", func := "loop.example/s02881/laws.FnExactEncodeTable", spec := "fnExactEncodeTable", recurses := true, apart := false }
def FnExactEncodeTableSaid : Prop := fnExactEncodeTableRow.holds Try.pinned (OpenSpec.ofChange fnExactEncodeTableSpec)

/-- ITS FALSE NEIGHBOUR: 'it returns false'. Refute it at one input. -/
def fnExactEncodeTableWrong : ChangeSpec := { name := "fnExactEncodeTable", fn := fun _ => fun
  | [d] => { results := [.lit (.bool false)], args := [d] }
  | _ => none }
def FnExactEncodeTableWrongFalsely : Prop := fnExactEncodeTableRow.holds Try.pinned (OpenSpec.ofChange fnExactEncodeTableWrong)

/-- 'laws.FnChoose': WHATEVER THE INPUT: true; the input reads as it did. -/
def fnChooseSpec : ChangeSpec := { name := "fnChoose", fn := fun _ => fun
  | [d] => { results := [.lit (.bool true)], args := [d] }
  | _ => none }
def fnChooseRow : OpenClaim := { program := "ytgpcanjmgdmdhaa", sum := "b274c4863d9b9e652f96387a213010a11385c6b857dd15c9ef50053c1ba9db05", func := "loop.example/s02881/laws.FnChoose", spec := "fnChoose", unfollowed := true, recurses := true, apart := false }
def FnChooseSaid : Prop := fnChooseRow.holds Try.pinned (OpenSpec.ofChange fnChooseSpec)

/-- ITS FALSE NEIGHBOUR: 'it returns false'. Refute it at one input. -/
def fnChooseWrong : ChangeSpec := { name := "fnChoose", fn := fun _ => fun
  | [d] => { results := [.lit (.bool false)], args := [d] }
  | _ => none }
def FnChooseWrongFalsely : Prop := fnChooseRow.holds Try.pinned (OpenSpec.ofChange fnChooseWrong)

/-- 'laws.FnExactValidDisk': WHATEVER THE INPUT: true; the input reads as it did. -/
def fnExactValidDiskSpec : ChangeSpec := { name := "fnExactValidDisk", fn := fun _ => fun
  | [d] => { results := [.lit (.bool true)], args := [d] }
  | _ => none }
def fnExactValidDiskRow : OpenClaim := { program := "ytgpcanjmgdmdhaa", sum := "b274c4863d9b9e652f96387a213010a11385c6b857dd15c9ef50053c1ba9db05", func := "loop.example/s02881/laws.FnExactValidDisk", spec := "fnExactValidDisk", apart := false }
def FnExactValidDiskSaid : Prop := fnExactValidDiskRow.holds Try.pinned (OpenSpec.ofChange fnExactValidDiskSpec)

/-- ITS FALSE NEIGHBOUR: 'it returns false'. Refute it at one input. -/
def fnExactValidDiskWrong : ChangeSpec := { name := "fnExactValidDisk", fn := fun _ => fun
  | [d] => { results := [.lit (.bool false)], args := [d] }
  | _ => none }
def FnExactValidDiskWrongFalsely : Prop := fnExactValidDiskRow.holds Try.pinned (OpenSpec.ofChange fnExactValidDiskWrong)

/-- 'laws.FnExactDecodeHeader': WHATEVER THE INPUT: true; the input reads as it did. -/
def fnExactDecodeHeaderSpec : ChangeSpec := { name := "fnExactDecodeHeader", fn := fun _ => fun
  | [d] => { results := [.lit (.bool true)], args := [d] }
  | _ => none }
def fnExactDecodeHeaderRow : OpenClaim := { program := "ytgpcanjmgdmdhaa", sum := "b274c4863d9b9e652f96387a213010a11385c6b857dd15c9ef50053c1ba9db05", func := "loop.example/s02881/laws.FnExactDecodeHeader", spec := "fnExactDecodeHeader", unfollowed := true, recurses := true, apart := false }
def FnExactDecodeHeaderSaid : Prop := fnExactDecodeHeaderRow.holds Try.pinned (OpenSpec.ofChange fnExactDecodeHeaderSpec)

/-- ITS FALSE NEIGHBOUR: 'it returns false'. Refute it at one input. -/
def fnExactDecodeHeaderWrong : ChangeSpec := { name := "fnExactDecodeHeader", fn := fun _ => fun
  | [d] => { results := [.lit (.bool false)], args := [d] }
  | _ => none }
def FnExactDecodeHeaderWrongFalsely : Prop := fnExactDecodeHeaderRow.holds Try.pinned (OpenSpec.ofChange fnExactDecodeHeaderWrong)

/-- 'laws.FnTornHeader': WHATEVER THE INPUT: true; the input reads as it did. -/
def fnTornHeaderSpec : ChangeSpec := { name := "fnTornHeader", fn := fun _ => fun
  | [d1, d2] => { results := [.lit (.bool true)], args := [d1, d2] }
  | _ => none }
def fnTornHeaderRow : OpenClaim := { program := "ytgpcanjmgdmdhaa", sum := "b274c4863d9b9e652f96387a213010a11385c6b857dd15c9ef50053c1ba9db05", func := "loop.example/s02881/laws.FnTornHeader", spec := "fnTornHeader", unfollowed := true, recurses := true, apart := false }
def FnTornHeaderSaid : Prop := fnTornHeaderRow.holds Try.pinned (OpenSpec.ofChange fnTornHeaderSpec)

/-- ITS FALSE NEIGHBOUR: 'it returns false'. Refute it at one input. -/
def fnTornHeaderWrong : ChangeSpec := { name := "fnTornHeader", fn := fun _ => fun
  | [d1, d2] => { results := [.lit (.bool false)], args := [d1, d2] }
  | _ => none }
def FnTornHeaderWrongFalsely : Prop := fnTornHeaderRow.holds Try.pinned (OpenSpec.ofChange fnTornHeaderWrong)

/-- 'laws.FnExactDecodeTable': WHATEVER THE INPUT: true; the input reads as it did. -/
def fnExactDecodeTableSpec : ChangeSpec := { name := "fnExactDecodeTable", fn := fun _ => fun
  | [d] => { results := [.lit (.bool true)], args := [d] }
  | _ => none }
def fnExactDecodeTableRow : OpenClaim := { program := "ytgpcanjmgdmdhaa", sum := "b274c4863d9b9e652f96387a213010a11385c6b857dd15c9ef50053c1ba9db05", func := "loop.example/s02881/laws.FnExactDecodeTable", spec := "fnExactDecodeTable", apart := false }
def FnExactDecodeTableSaid : Prop := fnExactDecodeTableRow.holds Try.pinned (OpenSpec.ofChange fnExactDecodeTableSpec)

/-- ITS FALSE NEIGHBOUR: 'it returns false'. Refute it at one input. -/
def fnExactDecodeTableWrong : ChangeSpec := { name := "fnExactDecodeTable", fn := fun _ => fun
  | [d] => { results := [.lit (.bool false)], args := [d] }
  | _ => none }
def FnExactDecodeTableWrongFalsely : Prop := fnExactDecodeTableRow.holds Try.pinned (OpenSpec.ofChange fnExactDecodeTableWrong)

/-- 'laws.FnExactSegmentCounts': WHATEVER THE INPUT: true; the input reads as it did. -/
def fnExactSegmentCountsSpec : ChangeSpec := { name := "fnExactSegmentCounts", fn := fun _ => fun
  | [d1, d2] => { results := [.lit (.bool true)], args := [d1, d2] }
  | _ => none }
def fnExactSegmentCountsRow : OpenClaim := { program := "ytgpcanjmgdmdhaa", sum := "b274c4863d9b9e652f96387a213010a11385c6b857dd15c9ef50053c1ba9db05", func := "loop.example/s02881/laws.FnExactSegmentCounts", spec := "fnExactSegmentCounts", apart := false }
def FnExactSegmentCountsSaid : Prop := fnExactSegmentCountsRow.holds Try.pinned (OpenSpec.ofChange fnExactSegmentCountsSpec)

/-- ITS FALSE NEIGHBOUR: 'it returns false'. Refute it at one input. -/
def fnExactSegmentCountsWrong : ChangeSpec := { name := "fnExactSegmentCounts", fn := fun _ => fun
  | [d1, d2] => { results := [.lit (.bool false)], args := [d1, d2] }
  | _ => none }
def FnExactSegmentCountsWrongFalsely : Prop := fnExactSegmentCountsRow.holds Try.pinned (OpenSpec.ofChange fnExactSegmentCountsWrong)

/-- 'laws.FnExactEncodeInode': WHATEVER THE INPUT: true; the input reads as it did. -/
def fnExactEncodeInodeSpec : ChangeSpec := { name := "fnExactEncodeInode", fn := fun _ => fun
  | [d] => { results := [.lit (.bool true)], args := [d] }
  | _ => none }
def fnExactEncodeInodeRow : OpenClaim := { program := "ytgpcanjmgdmdhaa", sum := "b274c4863d9b9e652f96387a213010a11385c6b857dd15c9ef50053c1ba9db05", func := "loop.example/s02881/laws.FnExactEncodeInode", spec := "fnExactEncodeInode", recurses := true, apart := false }
def FnExactEncodeInodeSaid : Prop := fnExactEncodeInodeRow.holds Try.pinned (OpenSpec.ofChange fnExactEncodeInodeSpec)

/-- ITS FALSE NEIGHBOUR: 'it returns false'. Refute it at one input. -/
def fnExactEncodeInodeWrong : ChangeSpec := { name := "fnExactEncodeInode", fn := fun _ => fun
  | [d] => { results := [.lit (.bool false)], args := [d] }
  | _ => none }
def FnExactEncodeInodeWrongFalsely : Prop := fnExactEncodeInodeRow.holds Try.pinned (OpenSpec.ofChange fnExactEncodeInodeWrong)

/-- 'laws.FnExactDiskRead': WHATEVER THE INPUT: true; the input reads as it did. -/
def fnExactDiskReadSpec : ChangeSpec := { name := "fnExactDiskRead", fn := fun _ => fun
  | [d1, d2] => { results := [.lit (.bool true)], args := [d1, d2] }
  | _ => none }
def fnExactDiskReadRow : OpenClaim := { program := "ytgpcanjmgdmdhaa", sum := "b274c4863d9b9e652f96387a213010a11385c6b857dd15c9ef50053c1ba9db05", func := "loop.example/s02881/laws.FnExactDiskRead", spec := "fnExactDiskRead", apart := false }
def FnExactDiskReadSaid : Prop := fnExactDiskReadRow.holds Try.pinned (OpenSpec.ofChange fnExactDiskReadSpec)

/-- ITS FALSE NEIGHBOUR: 'it returns false'. Refute it at one input. -/
def fnExactDiskReadWrong : ChangeSpec := { name := "fnExactDiskRead", fn := fun _ => fun
  | [d1, d2] => { results := [.lit (.bool false)], args := [d1, d2] }
  | _ => none }
def FnExactDiskReadWrongFalsely : Prop := fnExactDiskReadRow.holds Try.pinned (OpenSpec.ofChange fnExactDiskReadWrong)

/-- 'laws.FnExactFormatDisk': WHATEVER THE INPUT: true; the input reads as it did. -/
def fnExactFormatDiskSpec : ChangeSpec := { name := "fnExactFormatDisk", fn := fun _ => fun
  | [d] => { results := [.lit (.bool true)], args := [d] }
  | _ => none }
def fnExactFormatDiskRow : OpenClaim := { program := "ytgpcanjmgdmdhaa", sum := "b274c4863d9b9e652f96387a213010a11385c6b857dd15c9ef50053c1ba9db05", func := "loop.example/s02881/laws.FnExactFormatDisk", spec := "fnExactFormatDisk", unfollowed := true, recurses := true, apart := false }
def FnExactFormatDiskSaid : Prop := fnExactFormatDiskRow.holds Try.pinned (OpenSpec.ofChange fnExactFormatDiskSpec)

/-- ITS FALSE NEIGHBOUR: 'it returns false'. Refute it at one input. -/
def fnExactFormatDiskWrong : ChangeSpec := { name := "fnExactFormatDisk", fn := fun _ => fun
  | [d] => { results := [.lit (.bool false)], args := [d] }
  | _ => none }
def FnExactFormatDiskWrongFalsely : Prop := fnExactFormatDiskRow.holds Try.pinned (OpenSpec.ofChange fnExactFormatDiskWrong)

/-- 'laws.FnExactDiskWrite': WHATEVER THE INPUT: true; the input reads as it did. -/
def fnExactDiskWriteSpec : ChangeSpec := { name := "fnExactDiskWrite", fn := fun _ => fun
  | [d1, d2, d3] => { results := [.lit (.bool true)], args := [d1, d2, d3] }
  | _ => none }
def fnExactDiskWriteRow : OpenClaim := { program := "ytgpcanjmgdmdhaa", sum := "b274c4863d9b9e652f96387a213010a11385c6b857dd15c9ef50053c1ba9db05", func := "loop.example/s02881/laws.FnExactDiskWrite", spec := "fnExactDiskWrite", apart := false }
def FnExactDiskWriteSaid : Prop := fnExactDiskWriteRow.holds Try.pinned (OpenSpec.ofChange fnExactDiskWriteSpec)

/-- ITS FALSE NEIGHBOUR: 'it returns false'. Refute it at one input. -/
def fnExactDiskWriteWrong : ChangeSpec := { name := "fnExactDiskWrite", fn := fun _ => fun
  | [d1, d2, d3] => { results := [.lit (.bool false)], args := [d1, d2, d3] }
  | _ => none }
def FnExactDiskWriteWrongFalsely : Prop := fnExactDiskWriteRow.holds Try.pinned (OpenSpec.ofChange fnExactDiskWriteWrong)

/-- 'laws.FnExactDiskBarrier': WHATEVER THE INPUT: true; the input reads as it did. -/
def fnExactDiskBarrierSpec : ChangeSpec := { name := "fnExactDiskBarrier", fn := fun _ => fun
  | [d] => { results := [.lit (.bool true)], args := [d] }
  | _ => none }
def fnExactDiskBarrierRow : OpenClaim := { program := "ytgpcanjmgdmdhaa", sum := "b274c4863d9b9e652f96387a213010a11385c6b857dd15c9ef50053c1ba9db05", func := "loop.example/s02881/laws.FnExactDiskBarrier", spec := "fnExactDiskBarrier", unfollowed := true, recurses := true, apart := false }
def FnExactDiskBarrierSaid : Prop := fnExactDiskBarrierRow.holds Try.pinned (OpenSpec.ofChange fnExactDiskBarrierSpec)

/-- ITS FALSE NEIGHBOUR: 'it returns false'. Refute it at one input. -/
def fnExactDiskBarrierWrong : ChangeSpec := { name := "fnExactDiskBarrier", fn := fun _ => fun
  | [d] => { results := [.lit (.bool false)], args := [d] }
  | _ => none }
def FnExactDiskBarrierWrongFalsely : Prop := fnExactDiskBarrierRow.holds Try.pinned (OpenSpec.ofChange fnExactDiskBarrierWrong)

/-- 'laws.FnDisk': WHATEVER THE INPUT: true; the input reads as it did. -/
def fnDiskSpec : ChangeSpec := { name := "fnDisk", fn := fun _ => fun
  | [d1, d2] => { results := [.lit (.bool true)], args := [d1, d2] }
  | _ => none }
def fnDiskRow : OpenClaim := { program := "ytgpcanjmgdmdhaa", sum := "b274c4863d9b9e652f96387a213010a11385c6b857dd15c9ef50053c1ba9db05", func := "loop.example/s02881/laws.FnDisk", spec := "fnDisk", unfollowed := true, recurses := true, apart := false }
def FnDiskSaid : Prop := fnDiskRow.holds Try.pinned (OpenSpec.ofChange fnDiskSpec)

/-- ITS FALSE NEIGHBOUR: 'it returns false'. Refute it at one input. -/
def fnDiskWrong : ChangeSpec := { name := "fnDisk", fn := fun _ => fun
  | [d1, d2] => { results := [.lit (.bool false)], args := [d1, d2] }
  | _ => none }
def FnDiskWrongFalsely : Prop := fnDiskRow.holds Try.pinned (OpenSpec.ofChange fnDiskWrong)

/-- 'laws.FnExactDiskCrash': WHATEVER THE INPUT: true; the input reads as it did. -/
def fnExactDiskCrashSpec : ChangeSpec := { name := "fnExactDiskCrash", fn := fun _ => fun
  | [d1, d2] => { results := [.lit (.bool true)], args := [d1, d2] }
  | _ => none }
def fnExactDiskCrashRow : OpenClaim := { program := "ytgpcanjmgdmdhaa", sum := "b274c4863d9b9e652f96387a213010a11385c6b857dd15c9ef50053c1ba9db05", func := "loop.example/s02881/laws.FnExactDiskCrash", spec := "fnExactDiskCrash", unfollowed := true, recurses := true, apart := false }
def FnExactDiskCrashSaid : Prop := fnExactDiskCrashRow.holds Try.pinned (OpenSpec.ofChange fnExactDiskCrashSpec)

/-- ITS FALSE NEIGHBOUR: 'it returns false'. Refute it at one input. -/
def fnExactDiskCrashWrong : ChangeSpec := { name := "fnExactDiskCrash", fn := fun _ => fun
  | [d1, d2] => { results := [.lit (.bool false)], args := [d1, d2] }
  | _ => none }
def FnExactDiskCrashWrongFalsely : Prop := fnExactDiskCrashRow.holds Try.pinned (OpenSpec.ofChange fnExactDiskCrashWrong)

/- THE SECOND FORM. 'bulk': how many values and letters a reading holds, each counted each time it is reached (what is shared counts as often as it is met; a slice's spare places count too). A statement '..UptoSaid' is the law's where the arguments, and the package variables that the reading takes, are together of bulk at most 1048576: NARROWER than '..Said'. Prove '..Said' where nothing that the law and all that it calls make is longer than what came in: it says more and counts as full. Else prove '..UptoSaid'. A law counts once. -/
mutual
def uptoBulk {H : Type} : DataW H → Nat
  | .lit (.string bytes) => bytes.length + 1
  | .lit _ => 1
  | .nil => 1
  | .ptr d => uptoBulk d + 1
  | .slice elems spare => uptoBulkAll elems + uptoBulkAll spare + 1
  | .agg parts => uptoBulkAll parts + 1
  | .iface _ d => uptoBulk d + 1
  | .map entries => uptoBulkEntries entries + 1
  | .held _ => 1
def uptoBulkAll {H : Type} : List (DataW H) → Nat
  | [] => 0
  | d :: r => uptoBulk d + uptoBulkAll r
def uptoBulkEntries {H : Type} : List (Lit × DataW H) → Nat
  | [] => 0
  | x :: r => uptoBulkEntry x + uptoBulkEntries r
def uptoBulkEntry {H : Type} : Lit × DataW H → Nat
  | (.string bytes, d) => bytes.length + uptoBulk d + 1
  | (_, d) => uptoBulk d + 1
 end
def uptoSmall : (H : Type) → List (DataW H) → Bool := fun _ ds => decide (uptoBulkAll ds ≤ 1048576)
def OpenSpec.upto (s : _root_.Go.ChangeSpec) : _root_.Go.OpenSpec := { _root_.Go.OpenSpec.ofChange s with cond := some uptoSmall }

/-- 'laws.FnExactFreeSegment', WHERE WHAT IT READS IS OF BULK AT MOST 1048576: true; the input reads as it did. -/
def fnExactFreeSegmentUptoRow : OpenClaim := { program := "ytgpcanjmgdmdhaa", sum := "b274c4863d9b9e652f96387a213010a11385c6b857dd15c9ef50053c1ba9db05", func := "loop.example/s02881/laws.FnExactFreeSegment", spec := "fnExactFreeSegment", unfollowed := true, recurses := true, apart := false, narrowed := true }
def FnExactFreeSegmentUptoSaid : Prop := fnExactFreeSegmentUptoRow.holds Try.pinned (OpenSpec.upto fnExactFreeSegmentSpec)

/-- 'laws.FnExactPickVictim', WHERE WHAT IT READS IS OF BULK AT MOST 1048576: true; the input reads as it did. -/
def fnExactPickVictimUptoRow : OpenClaim := { program := "ytgpcanjmgdmdhaa", sum := "b274c4863d9b9e652f96387a213010a11385c6b857dd15c9ef50053c1ba9db05", func := "loop.example/s02881/laws.FnExactPickVictim", spec := "fnExactPickVictim", unfollowed := true, recurses := true, apart := false, narrowed := true }
def FnExactPickVictimUptoSaid : Prop := fnExactPickVictimUptoRow.holds Try.pinned (OpenSpec.upto fnExactPickVictimSpec)

/-- 'laws.FnExactLayout', WHERE WHAT IT READS IS OF BULK AT MOST 1048576: true; the input reads as it did. -/
def fnExactLayoutUptoRow : OpenClaim := { program := "ytgpcanjmgdmdhaa", sum := "b274c4863d9b9e652f96387a213010a11385c6b857dd15c9ef50053c1ba9db05", func := "loop.example/s02881/laws.FnExactLayout", spec := "fnExactLayout", apart := false, narrowed := true }
def FnExactLayoutUptoSaid : Prop := fnExactLayoutUptoRow.holds Try.pinned (OpenSpec.upto fnExactLayoutSpec)

/-- 'laws.FnExactEncodeHeader', WHERE WHAT IT READS IS OF BULK AT MOST 1048576: true; the input reads as it did. -/
def fnExactEncodeHeaderUptoRow : OpenClaim := { program := "ytgpcanjmgdmdhaa", sum := "b274c4863d9b9e652f96387a213010a11385c6b857dd15c9ef50053c1ba9db05", func := "loop.example/s02881/laws.FnExactEncodeHeader", spec := "fnExactEncodeHeader", recurses := true, apart := false, narrowed := true }
def FnExactEncodeHeaderUptoSaid : Prop := fnExactEncodeHeaderUptoRow.holds Try.pinned (OpenSpec.upto fnExactEncodeHeaderSpec)

/-- 'laws.FnExactNewDisk', WHERE WHAT IT READS IS OF BULK AT MOST 1048576: true; the input reads as it did. -/
def fnExactNewDiskUptoRow : OpenClaim := { program := "ytgpcanjmgdmdhaa", sum := "b274c4863d9b9e652f96387a213010a11385c6b857dd15c9ef50053c1ba9db05", func := "loop.example/s02881/laws.FnExactNewDisk", spec := "fnExactNewDisk", apart := false, narrowed := true }
def FnExactNewDiskUptoSaid : Prop := fnExactNewDiskUptoRow.holds Try.pinned (OpenSpec.upto fnExactNewDiskSpec)

/-- 'laws.FnExactFreeLids', WHERE WHAT IT READS IS OF BULK AT MOST 1048576: true; the input reads as it did. -/
def fnExactFreeLidsUptoRow : OpenClaim := { program := "ytgpcanjmgdmdhaa", sum := "b274c4863d9b9e652f96387a213010a11385c6b857dd15c9ef50053c1ba9db05", func := "loop.example/s02881/laws.FnExactFreeLids", spec := "fnExactFreeLids", unfollowed := true, recurses := true, apart := false, narrowed := true }
def FnExactFreeLidsUptoSaid : Prop := fnExactFreeLidsUptoRow.holds Try.pinned (OpenSpec.upto fnExactFreeLidsSpec)

/-- 'laws.FnExactEncodeTable', WHERE WHAT IT READS IS OF BULK AT MOST 1048576: true; the input reads as it did. -/
def fnExactEncodeTableUptoRow : OpenClaim := { program := "ytgpcanjmgdmdhaa", sum := "b274c4863d9b9e652f96387a213010a11385c6b857dd15c9ef50053c1ba9db05", func := "loop.example/s02881/laws.FnExactEncodeTable", spec := "fnExactEncodeTable", recurses := true, apart := false, narrowed := true }
def FnExactEncodeTableUptoSaid : Prop := fnExactEncodeTableUptoRow.holds Try.pinned (OpenSpec.upto fnExactEncodeTableSpec)

/-- 'laws.FnChoose', WHERE WHAT IT READS IS OF BULK AT MOST 1048576: true; the input reads as it did. -/
def fnChooseUptoRow : OpenClaim := { program := "ytgpcanjmgdmdhaa", sum := "b274c4863d9b9e652f96387a213010a11385c6b857dd15c9ef50053c1ba9db05", func := "loop.example/s02881/laws.FnChoose", spec := "fnChoose", unfollowed := true, recurses := true, apart := false, narrowed := true }
def FnChooseUptoSaid : Prop := fnChooseUptoRow.holds Try.pinned (OpenSpec.upto fnChooseSpec)

/-- 'laws.FnExactValidDisk', WHERE WHAT IT READS IS OF BULK AT MOST 1048576: true; the input reads as it did. -/
def fnExactValidDiskUptoRow : OpenClaim := { program := "ytgpcanjmgdmdhaa", sum := "b274c4863d9b9e652f96387a213010a11385c6b857dd15c9ef50053c1ba9db05", func := "loop.example/s02881/laws.FnExactValidDisk", spec := "fnExactValidDisk", apart := false, narrowed := true }
def FnExactValidDiskUptoSaid : Prop := fnExactValidDiskUptoRow.holds Try.pinned (OpenSpec.upto fnExactValidDiskSpec)

/-- 'laws.FnExactDecodeHeader', WHERE WHAT IT READS IS OF BULK AT MOST 1048576: true; the input reads as it did. -/
def fnExactDecodeHeaderUptoRow : OpenClaim := { program := "ytgpcanjmgdmdhaa", sum := "b274c4863d9b9e652f96387a213010a11385c6b857dd15c9ef50053c1ba9db05", func := "loop.example/s02881/laws.FnExactDecodeHeader", spec := "fnExactDecodeHeader", unfollowed := true, recurses := true, apart := false, narrowed := true }
def FnExactDecodeHeaderUptoSaid : Prop := fnExactDecodeHeaderUptoRow.holds Try.pinned (OpenSpec.upto fnExactDecodeHeaderSpec)

/-- 'laws.FnTornHeader', WHERE WHAT IT READS IS OF BULK AT MOST 1048576: true; the input reads as it did. -/
def fnTornHeaderUptoRow : OpenClaim := { program := "ytgpcanjmgdmdhaa", sum := "b274c4863d9b9e652f96387a213010a11385c6b857dd15c9ef50053c1ba9db05", func := "loop.example/s02881/laws.FnTornHeader", spec := "fnTornHeader", unfollowed := true, recurses := true, apart := false, narrowed := true }
def FnTornHeaderUptoSaid : Prop := fnTornHeaderUptoRow.holds Try.pinned (OpenSpec.upto fnTornHeaderSpec)

/-- 'laws.FnExactDecodeTable', WHERE WHAT IT READS IS OF BULK AT MOST 1048576: true; the input reads as it did. -/
def fnExactDecodeTableUptoRow : OpenClaim := { program := "ytgpcanjmgdmdhaa", sum := "b274c4863d9b9e652f96387a213010a11385c6b857dd15c9ef50053c1ba9db05", func := "loop.example/s02881/laws.FnExactDecodeTable", spec := "fnExactDecodeTable", apart := false, narrowed := true }
def FnExactDecodeTableUptoSaid : Prop := fnExactDecodeTableUptoRow.holds Try.pinned (OpenSpec.upto fnExactDecodeTableSpec)

/-- 'laws.FnExactSegmentCounts', WHERE WHAT IT READS IS OF BULK AT MOST 1048576: true; the input reads as it did. -/
def fnExactSegmentCountsUptoRow : OpenClaim := { program := "ytgpcanjmgdmdhaa", sum := "b274c4863d9b9e652f96387a213010a11385c6b857dd15c9ef50053c1ba9db05", func := "loop.example/s02881/laws.FnExactSegmentCounts", spec := "fnExactSegmentCounts", apart := false, narrowed := true }
def FnExactSegmentCountsUptoSaid : Prop := fnExactSegmentCountsUptoRow.holds Try.pinned (OpenSpec.upto fnExactSegmentCountsSpec)

/-- 'laws.FnExactEncodeInode', WHERE WHAT IT READS IS OF BULK AT MOST 1048576: true; the input reads as it did. -/
def fnExactEncodeInodeUptoRow : OpenClaim := { program := "ytgpcanjmgdmdhaa", sum := "b274c4863d9b9e652f96387a213010a11385c6b857dd15c9ef50053c1ba9db05", func := "loop.example/s02881/laws.FnExactEncodeInode", spec := "fnExactEncodeInode", recurses := true, apart := false, narrowed := true }
def FnExactEncodeInodeUptoSaid : Prop := fnExactEncodeInodeUptoRow.holds Try.pinned (OpenSpec.upto fnExactEncodeInodeSpec)

/-- 'laws.FnExactDiskRead', WHERE WHAT IT READS IS OF BULK AT MOST 1048576: true; the input reads as it did. -/
def fnExactDiskReadUptoRow : OpenClaim := { program := "ytgpcanjmgdmdhaa", sum := "b274c4863d9b9e652f96387a213010a11385c6b857dd15c9ef50053c1ba9db05", func := "loop.example/s02881/laws.FnExactDiskRead", spec := "fnExactDiskRead", apart := false, narrowed := true }
def FnExactDiskReadUptoSaid : Prop := fnExactDiskReadUptoRow.holds Try.pinned (OpenSpec.upto fnExactDiskReadSpec)

/-- 'laws.FnExactFormatDisk', WHERE WHAT IT READS IS OF BULK AT MOST 1048576: true; the input reads as it did. -/
def fnExactFormatDiskUptoRow : OpenClaim := { program := "ytgpcanjmgdmdhaa", sum := "b274c4863d9b9e652f96387a213010a11385c6b857dd15c9ef50053c1ba9db05", func := "loop.example/s02881/laws.FnExactFormatDisk", spec := "fnExactFormatDisk", unfollowed := true, recurses := true, apart := false, narrowed := true }
def FnExactFormatDiskUptoSaid : Prop := fnExactFormatDiskUptoRow.holds Try.pinned (OpenSpec.upto fnExactFormatDiskSpec)

/-- 'laws.FnExactDiskWrite', WHERE WHAT IT READS IS OF BULK AT MOST 1048576: true; the input reads as it did. -/
def fnExactDiskWriteUptoRow : OpenClaim := { program := "ytgpcanjmgdmdhaa", sum := "b274c4863d9b9e652f96387a213010a11385c6b857dd15c9ef50053c1ba9db05", func := "loop.example/s02881/laws.FnExactDiskWrite", spec := "fnExactDiskWrite", apart := false, narrowed := true }
def FnExactDiskWriteUptoSaid : Prop := fnExactDiskWriteUptoRow.holds Try.pinned (OpenSpec.upto fnExactDiskWriteSpec)

/-- 'laws.FnExactDiskBarrier', WHERE WHAT IT READS IS OF BULK AT MOST 1048576: true; the input reads as it did. -/
def fnExactDiskBarrierUptoRow : OpenClaim := { program := "ytgpcanjmgdmdhaa", sum := "b274c4863d9b9e652f96387a213010a11385c6b857dd15c9ef50053c1ba9db05", func := "loop.example/s02881/laws.FnExactDiskBarrier", spec := "fnExactDiskBarrier", unfollowed := true, recurses := true, apart := false, narrowed := true }
def FnExactDiskBarrierUptoSaid : Prop := fnExactDiskBarrierUptoRow.holds Try.pinned (OpenSpec.upto fnExactDiskBarrierSpec)

/-- 'laws.FnDisk', WHERE WHAT IT READS IS OF BULK AT MOST 1048576: true; the input reads as it did. -/
def fnDiskUptoRow : OpenClaim := { program := "ytgpcanjmgdmdhaa", sum := "b274c4863d9b9e652f96387a213010a11385c6b857dd15c9ef50053c1ba9db05", func := "loop.example/s02881/laws.FnDisk", spec := "fnDisk", unfollowed := true, recurses := true, apart := false, narrowed := true }
def FnDiskUptoSaid : Prop := fnDiskUptoRow.holds Try.pinned (OpenSpec.upto fnDiskSpec)

/-- 'laws.FnExactDiskCrash', WHERE WHAT IT READS IS OF BULK AT MOST 1048576: true; the input reads as it did. -/
def fnExactDiskCrashUptoRow : OpenClaim := { program := "ytgpcanjmgdmdhaa", sum := "b274c4863d9b9e652f96387a213010a11385c6b857dd15c9ef50053c1ba9db05", func := "loop.example/s02881/laws.FnExactDiskCrash", spec := "fnExactDiskCrash", unfollowed := true, recurses := true, apart := false, narrowed := true }
def FnExactDiskCrashUptoSaid : Prop := fnExactDiskCrashUptoRow.holds Try.pinned (OpenSpec.upto fnExactDiskCrashSpec)

end Rows
end Go.Proofs.Ytgpcanjmgdmdhaa
