/-
  NARROWER THAN 'FOR EVERY INPUT', by the rows' own cells (each row's printed sentence says how): SegmentDocs: laid · SegmentBytes: laid · SegmentTerms: laid · SegmentAny: laid · SegmentBack: laid · MatchNot: loops, laid · SegmentMerges: laid · SegmentNobody: laid · MatchMerged: loops, laid.
  DERIVED. THE GIVEN ROWS OF THIS SEAT. 9 by the template 'for every input the law returns true; each argument reads behind the call as it read before'; 0 by the template 'total and deterministic' (their statements: YtgfcgkbbmcgjmaaGreatDoorTotals.lean).
  GIVEN WITH THE SEED: the statements are not yours to turn. If you find one false, say at which input.
  Laid BY PROGRAM, IN A SANDBOX (cutbox-rows.mjs): the forced cells as the released guide's own fill.sh prints them over the translation 1d8d072181e3b1ad… (all of the seat's roots in one cut). By AI agents, Wed Nov 11 2026. No macro, syntax, notation, axiom, sorry.
-/
import Derived.Test.YtgfcgkbbmcgjmaaGreatDoorChecked
import GoSem.Claim
import GoSem.ClaimJoined
import GoSem.ClaimMapViews
import Derived.JoinedTies
import Derived.KernelRfl
namespace Go.Proofs.YtgfcgkbbmcgjmaaGreatDoor
/- THE CELL 'sum', in the pinned program and in every row, IS THE sha256 OF THE DUMP (.gsa) THAT YtgfcgkbbmcgjmaaGreatDoorProg.lean LOADS. Nothing in Lean hashes anything: it is a label: what it is worth is what the hold of that sum in a sandbox is worth. -/
noncomputable def Tryz.pinned : Pinned := { name := "ytgfcgkbbmcgjmaagreatdoor", sum := "1d8d072181e3b1ad2b2fd48034d6d9c145b913d76cce1c16898a99a426d5b0e1", checked := Tryz.checked }
namespace Rows
def none {H : Type} : Left H := { results := [], args := [] }

/- WHAT THE LISTED PACKAGE-LEVEL VARIABLES READ AS WHEN THE CALL BEGINS. Each datum BY PROGRAM (the guide's laid-datum.mjs) off the statement by which the dump's own 'gosem.cut.vars' lays the variable. In a bare row this is a premise. The card (YtgfcgkbbmcgjmaaGreatDoorCards.lean) ties it to the program's text. -/
def laid_math_bits_deBruijn64tab {H : Type} : DataW H := .agg [.lit (.int .u8 0), .lit (.int .u8 1), .lit (.int .u8 56), .lit (.int .u8 2), .lit (.int .u8 57), .lit (.int .u8 49), .lit (.int .u8 28), .lit (.int .u8 3), .lit (.int .u8 61), .lit (.int .u8 58), .lit (.int .u8 42), .lit (.int .u8 50), .lit (.int .u8 38), .lit (.int .u8 29), .lit (.int .u8 17), .lit (.int .u8 4), .lit (.int .u8 62), .lit (.int .u8 47), .lit (.int .u8 59), .lit (.int .u8 36), .lit (.int .u8 45), .lit (.int .u8 43), .lit (.int .u8 51), .lit (.int .u8 22), .lit (.int .u8 53), .lit (.int .u8 39), .lit (.int .u8 33), .lit (.int .u8 30), .lit (.int .u8 24), .lit (.int .u8 18), .lit (.int .u8 12), .lit (.int .u8 5), .lit (.int .u8 63), .lit (.int .u8 55), .lit (.int .u8 48), .lit (.int .u8 27), .lit (.int .u8 60), .lit (.int .u8 41), .lit (.int .u8 37), .lit (.int .u8 16), .lit (.int .u8 46), .lit (.int .u8 35), .lit (.int .u8 44), .lit (.int .u8 21), .lit (.int .u8 52), .lit (.int .u8 32), .lit (.int .u8 23), .lit (.int .u8 11), .lit (.int .u8 54), .lit (.int .u8 26), .lit (.int .u8 40), .lit (.int .u8 15), .lit (.int .u8 34), .lit (.int .u8 20), .lit (.int .u8 31), .lit (.int .u8 10), .lit (.int .u8 25), .lit (.int .u8 14), .lit (.int .u8 19), .lit (.int .u8 9), .lit (.int .u8 13), .lit (.int .u8 8), .lit (.int .u8 7), .lit (.int .u8 6)]
def laid_scholia_fold_rows {H : Type} : DataW H := .agg [.agg [.lit (.int .i64 65), .lit (.int .i64 90), .lit (.int .i64 1), .lit (.int .i64 32)], .agg [.lit (.int .i64 192), .lit (.int .i64 214), .lit (.int .i64 1), .lit (.int .i64 32)], .agg [.lit (.int .i64 216), .lit (.int .i64 222), .lit (.int .i64 1), .lit (.int .i64 32)], .agg [.lit (.int .i64 256), .lit (.int .i64 302), .lit (.int .i64 2), .lit (.int .i64 1)], .agg [.lit (.int .i64 306), .lit (.int .i64 310), .lit (.int .i64 2), .lit (.int .i64 1)], .agg [.lit (.int .i64 313), .lit (.int .i64 327), .lit (.int .i64 2), .lit (.int .i64 1)], .agg [.lit (.int .i64 330), .lit (.int .i64 374), .lit (.int .i64 2), .lit (.int .i64 1)], .agg [.lit (.int .i64 377), .lit (.int .i64 381), .lit (.int .i64 2), .lit (.int .i64 1)], .agg [.lit (.int .i64 913), .lit (.int .i64 929), .lit (.int .i64 1), .lit (.int .i64 32)], .agg [.lit (.int .i64 931), .lit (.int .i64 937), .lit (.int .i64 1), .lit (.int .i64 32)], .agg [.lit (.int .i64 1024), .lit (.int .i64 1039), .lit (.int .i64 1), .lit (.int .i64 80)], .agg [.lit (.int .i64 1040), .lit (.int .i64 1071), .lit (.int .i64 1), .lit (.int .i64 32)], .agg [.lit (.int .i64 1120), .lit (.int .i64 1152), .lit (.int .i64 2), .lit (.int .i64 1)]]
def laid_scholia_stem_short {H : Type} : DataW H := .agg [.lit (.string [97]), .lit (.string [97, 110]), .lit (.string [97, 110, 100]), .lit (.string [97, 115]), .lit (.string [97, 116]), .lit (.string [98, 101]), .lit (.string [98, 121]), .lit (.string [102, 111, 114]), .lit (.string [105, 110]), .lit (.string [105, 115]), .lit (.string [105, 116]), .lit (.string [111, 102]), .lit (.string [111, 110]), .lit (.string [111, 114]), .lit (.string [116, 104, 101]), .lit (.string [116, 111])]
def laid_scholia_stem_ends {H : Type} : DataW H := .agg [.agg [.lit (.string [105, 122, 97, 116, 105, 111, 110]), .lit (.string [105, 122, 101])], .agg [.lit (.string [97, 116, 105, 111, 110]), .lit (.string [97, 116, 101])], .agg [.lit (.string [102, 117, 108, 108, 121]), .lit (.string [102, 117, 108])], .agg [.lit (.string [110, 101, 115, 115]), .lit (.string [])], .agg [.lit (.string [109, 101, 110, 116]), .lit (.string [])], .agg [.lit (.string [97, 108, 108, 121]), .lit (.string [97, 108])], .agg [.lit (.string [108, 121]), .lit (.string [])]]

/-- 'scholialaw20.SegmentDocs': WHATEVER THE INPUT: true; the input reads as it did. -/
def segmentDocsSpec : ChangeSpec := { name := "segmentDocs", fn := fun _ => fun
  | [d1, d2, d3, d4] => { results := [.lit (.bool true)], args := [d1, d2, d3, d4] }
  | _ => none }
def segmentDocsRow : OpenClaim := { program := "ytgfcgkbbmcgjmaagreatdoor", sum := "1d8d072181e3b1ad2b2fd48034d6d9c145b913d76cce1c16898a99a426d5b0e1", func := "scholia/scholialaw20.SegmentDocs", spec := "segmentDocs", inPlace := ["internal/bytealg.IndexByteString", "slices.overlaps[scholia/sorted.pair[string, []scholia/api.Spot]]", "internal/abi.NoEscape"], unfollowed := true, recurses := true, named := ["scholia/fold.rows", "scholia/stem.short", "scholia/stem.ends", "math/bits.deBruijn64tab"], apart := false, laid := [("math/bits.deBruijn64tab", laid_math_bits_deBruijn64tab), ("scholia/fold.rows", laid_scholia_fold_rows), ("scholia/stem.short", laid_scholia_stem_short), ("scholia/stem.ends", laid_scholia_stem_ends)] }
def SegmentDocsSaid : Prop := segmentDocsRow.holds Tryz.pinned (OpenSpec.ofChange segmentDocsSpec)

/-- ITS FALSE NEIGHBOUR: 'it returns false'. Refute it at one input. -/
def segmentDocsWrong : ChangeSpec := { name := "segmentDocs", fn := fun _ => fun
  | [d1, d2, d3, d4] => { results := [.lit (.bool false)], args := [d1, d2, d3, d4] }
  | _ => none }
def SegmentDocsWrongFalsely : Prop := segmentDocsRow.holds Tryz.pinned (OpenSpec.ofChange segmentDocsWrong)

/-- 'scholialaw20.SegmentBytes': WHATEVER THE INPUT: true; the input reads as it did. -/
def segmentBytesSpec : ChangeSpec := { name := "segmentBytes", fn := fun _ => fun
  | [d1, d2] => { results := [.lit (.bool true)], args := [d1, d2] }
  | _ => none }
def segmentBytesRow : OpenClaim := { program := "ytgfcgkbbmcgjmaagreatdoor", sum := "1d8d072181e3b1ad2b2fd48034d6d9c145b913d76cce1c16898a99a426d5b0e1", func := "scholia/scholialaw20.SegmentBytes", spec := "segmentBytes", inPlace := ["internal/bytealg.IndexByteString", "slices.overlaps[scholia/sorted.pair[string, []scholia/api.Spot]]", "internal/abi.NoEscape"], unfollowed := true, recurses := true, named := ["scholia/fold.rows", "scholia/stem.short", "scholia/stem.ends", "math/bits.deBruijn64tab"], apart := false, laid := [("math/bits.deBruijn64tab", laid_math_bits_deBruijn64tab), ("scholia/fold.rows", laid_scholia_fold_rows), ("scholia/stem.short", laid_scholia_stem_short), ("scholia/stem.ends", laid_scholia_stem_ends)] }
def SegmentBytesSaid : Prop := segmentBytesRow.holds Tryz.pinned (OpenSpec.ofChange segmentBytesSpec)

/-- ITS FALSE NEIGHBOUR: 'it returns false'. Refute it at one input. -/
def segmentBytesWrong : ChangeSpec := { name := "segmentBytes", fn := fun _ => fun
  | [d1, d2] => { results := [.lit (.bool false)], args := [d1, d2] }
  | _ => none }
def SegmentBytesWrongFalsely : Prop := segmentBytesRow.holds Tryz.pinned (OpenSpec.ofChange segmentBytesWrong)

/-- 'scholialaw20.SegmentTerms': WHATEVER THE INPUT: true; the input reads as it did. -/
def segmentTermsSpec : ChangeSpec := { name := "segmentTerms", fn := fun _ => fun
  | [d1, d2, d3, d4] => { results := [.lit (.bool true)], args := [d1, d2, d3, d4] }
  | _ => none }
def segmentTermsRow : OpenClaim := { program := "ytgfcgkbbmcgjmaagreatdoor", sum := "1d8d072181e3b1ad2b2fd48034d6d9c145b913d76cce1c16898a99a426d5b0e1", func := "scholia/scholialaw20.SegmentTerms", spec := "segmentTerms", inPlace := ["internal/bytealg.IndexByteString", "slices.overlaps[scholia/sorted.pair[string, []scholia/api.Spot]]", "internal/abi.NoEscape"], unfollowed := true, recurses := true, named := ["scholia/fold.rows", "scholia/stem.short", "scholia/stem.ends", "math/bits.deBruijn64tab"], apart := false, laid := [("math/bits.deBruijn64tab", laid_math_bits_deBruijn64tab), ("scholia/fold.rows", laid_scholia_fold_rows), ("scholia/stem.short", laid_scholia_stem_short), ("scholia/stem.ends", laid_scholia_stem_ends)] }
def SegmentTermsSaid : Prop := segmentTermsRow.holds Tryz.pinned (OpenSpec.ofChange segmentTermsSpec)

/-- ITS FALSE NEIGHBOUR: 'it returns false'. Refute it at one input. -/
def segmentTermsWrong : ChangeSpec := { name := "segmentTerms", fn := fun _ => fun
  | [d1, d2, d3, d4] => { results := [.lit (.bool false)], args := [d1, d2, d3, d4] }
  | _ => none }
def SegmentTermsWrongFalsely : Prop := segmentTermsRow.holds Tryz.pinned (OpenSpec.ofChange segmentTermsWrong)

/-- 'scholialaw20.SegmentAny': WHATEVER THE INPUT: true; the input reads as it did. -/
def segmentAnySpec : ChangeSpec := { name := "segmentAny", fn := fun _ => fun
  | [d] => { results := [.lit (.bool true)], args := [d] }
  | _ => none }
def segmentAnyRow : OpenClaim := { program := "ytgfcgkbbmcgjmaagreatdoor", sum := "1d8d072181e3b1ad2b2fd48034d6d9c145b913d76cce1c16898a99a426d5b0e1", func := "scholia/scholialaw20.SegmentAny", spec := "segmentAny", inPlace := ["internal/bytealg.IndexByteString", "slices.overlaps[scholia/sorted.pair[string, []scholia/api.Spot]]", "internal/abi.NoEscape"], unfollowed := true, recurses := true, named := ["scholia/fold.rows", "scholia/stem.short", "scholia/stem.ends", "math/bits.deBruijn64tab"], apart := false, laid := [("math/bits.deBruijn64tab", laid_math_bits_deBruijn64tab), ("scholia/fold.rows", laid_scholia_fold_rows), ("scholia/stem.short", laid_scholia_stem_short), ("scholia/stem.ends", laid_scholia_stem_ends)] }
def SegmentAnySaid : Prop := segmentAnyRow.holds Tryz.pinned (OpenSpec.ofChange segmentAnySpec)

/-- ITS FALSE NEIGHBOUR: 'it returns false'. Refute it at one input. -/
def segmentAnyWrong : ChangeSpec := { name := "segmentAny", fn := fun _ => fun
  | [d] => { results := [.lit (.bool false)], args := [d] }
  | _ => none }
def SegmentAnyWrongFalsely : Prop := segmentAnyRow.holds Tryz.pinned (OpenSpec.ofChange segmentAnyWrong)

/-- 'scholialaw20.SegmentBack': WHATEVER THE INPUT: true; the input reads as it did. -/
def segmentBackSpec : ChangeSpec := { name := "segmentBack", fn := fun _ => fun
  | [d1, d2, d3] => { results := [.lit (.bool true)], args := [d1, d2, d3] }
  | _ => none }
def segmentBackRow : OpenClaim := { program := "ytgfcgkbbmcgjmaagreatdoor", sum := "1d8d072181e3b1ad2b2fd48034d6d9c145b913d76cce1c16898a99a426d5b0e1", func := "scholia/scholialaw20.SegmentBack", spec := "segmentBack", inPlace := ["internal/bytealg.IndexByteString", "slices.overlaps[scholia/sorted.pair[string, []scholia/api.Spot]]", "internal/abi.NoEscape"], unfollowed := true, recurses := true, named := ["scholia/fold.rows", "scholia/stem.short", "scholia/stem.ends", "math/bits.deBruijn64tab"], apart := false, laid := [("math/bits.deBruijn64tab", laid_math_bits_deBruijn64tab), ("scholia/fold.rows", laid_scholia_fold_rows), ("scholia/stem.short", laid_scholia_stem_short), ("scholia/stem.ends", laid_scholia_stem_ends)] }
def SegmentBackSaid : Prop := segmentBackRow.holds Tryz.pinned (OpenSpec.ofChange segmentBackSpec)

/-- ITS FALSE NEIGHBOUR: 'it returns false'. Refute it at one input. -/
def segmentBackWrong : ChangeSpec := { name := "segmentBack", fn := fun _ => fun
  | [d1, d2, d3] => { results := [.lit (.bool false)], args := [d1, d2, d3] }
  | _ => none }
def SegmentBackWrongFalsely : Prop := segmentBackRow.holds Tryz.pinned (OpenSpec.ofChange segmentBackWrong)

/-- 'scholialaw23.MatchNot': WHATEVER THE INPUT: true; the input reads as it did. -/
def matchNotSpec : ChangeSpec := { name := "matchNot", fn := fun _ => fun
  | [d1, d2, d3] => { results := [.lit (.bool true)], args := [d1, d2, d3] }
  | _ => none }
def matchNotRow : OpenClaim := { program := "ytgfcgkbbmcgjmaagreatdoor", sum := "1d8d072181e3b1ad2b2fd48034d6d9c145b913d76cce1c16898a99a426d5b0e1", func := "scholia/scholialaw23.MatchNot", spec := "matchNot", inPlace := ["internal/bytealg.IndexByteString", "slices.overlaps[scholia/sorted.pair[string, []scholia/api.Spot]]"], unfollowed := true, recurses := true, named := ["scholia/fold.rows", "scholia/stem.short", "scholia/stem.ends"], loops := true, apart := false, laid := [("scholia/fold.rows", laid_scholia_fold_rows), ("scholia/stem.short", laid_scholia_stem_short), ("scholia/stem.ends", laid_scholia_stem_ends)] }
def MatchNotSaid : Prop := matchNotRow.holds Tryz.pinned (OpenSpec.ofChange matchNotSpec)

/-- ITS FALSE NEIGHBOUR: 'it returns false'. Refute it at one input. -/
def matchNotWrong : ChangeSpec := { name := "matchNot", fn := fun _ => fun
  | [d1, d2, d3] => { results := [.lit (.bool false)], args := [d1, d2, d3] }
  | _ => none }
def MatchNotWrongFalsely : Prop := matchNotRow.holds Tryz.pinned (OpenSpec.ofChange matchNotWrong)

/-- 'scholialaw20.SegmentMerges': WHATEVER THE INPUT: true; the input reads as it did. -/
def segmentMergesSpec : ChangeSpec := { name := "segmentMerges", fn := fun _ => fun
  | [d1, d2, d3] => { results := [.lit (.bool true)], args := [d1, d2, d3] }
  | _ => none }
def segmentMergesRow : OpenClaim := { program := "ytgfcgkbbmcgjmaagreatdoor", sum := "1d8d072181e3b1ad2b2fd48034d6d9c145b913d76cce1c16898a99a426d5b0e1", func := "scholia/scholialaw20.SegmentMerges", spec := "segmentMerges", inPlace := ["internal/bytealg.IndexByteString", "slices.overlaps[scholia/sorted.pair[string, []scholia/api.Spot]]", "internal/abi.NoEscape"], unfollowed := true, recurses := true, named := ["scholia/fold.rows", "scholia/stem.short", "scholia/stem.ends", "math/bits.deBruijn64tab"], apart := false, laid := [("math/bits.deBruijn64tab", laid_math_bits_deBruijn64tab), ("scholia/fold.rows", laid_scholia_fold_rows), ("scholia/stem.short", laid_scholia_stem_short), ("scholia/stem.ends", laid_scholia_stem_ends)] }
def SegmentMergesSaid : Prop := segmentMergesRow.holds Tryz.pinned (OpenSpec.ofChange segmentMergesSpec)

/-- ITS FALSE NEIGHBOUR: 'it returns false'. Refute it at one input. -/
def segmentMergesWrong : ChangeSpec := { name := "segmentMerges", fn := fun _ => fun
  | [d1, d2, d3] => { results := [.lit (.bool false)], args := [d1, d2, d3] }
  | _ => none }
def SegmentMergesWrongFalsely : Prop := segmentMergesRow.holds Tryz.pinned (OpenSpec.ofChange segmentMergesWrong)

/-- 'scholialaw20.SegmentNobody': WHATEVER THE INPUT: true; the input reads as it did. -/
def segmentNobodySpec : ChangeSpec := { name := "segmentNobody", fn := fun _ => fun
  | [d1, d2] => { results := [.lit (.bool true)], args := [d1, d2] }
  | _ => none }
def segmentNobodyRow : OpenClaim := { program := "ytgfcgkbbmcgjmaagreatdoor", sum := "1d8d072181e3b1ad2b2fd48034d6d9c145b913d76cce1c16898a99a426d5b0e1", func := "scholia/scholialaw20.SegmentNobody", spec := "segmentNobody", inPlace := ["internal/abi.NoEscape", "internal/bytealg.IndexByteString", "slices.overlaps[scholia/sorted.pair[string, []scholia/api.Spot]]"], unfollowed := true, recurses := true, named := ["math/bits.deBruijn64tab", "scholia/fold.rows", "scholia/stem.short", "scholia/stem.ends"], apart := false, laid := [("math/bits.deBruijn64tab", laid_math_bits_deBruijn64tab), ("scholia/fold.rows", laid_scholia_fold_rows), ("scholia/stem.short", laid_scholia_stem_short), ("scholia/stem.ends", laid_scholia_stem_ends)] }
def SegmentNobodySaid : Prop := segmentNobodyRow.holds Tryz.pinned (OpenSpec.ofChange segmentNobodySpec)

/-- ITS FALSE NEIGHBOUR: 'it returns false'. Refute it at one input. -/
def segmentNobodyWrong : ChangeSpec := { name := "segmentNobody", fn := fun _ => fun
  | [d1, d2] => { results := [.lit (.bool false)], args := [d1, d2] }
  | _ => none }
def SegmentNobodyWrongFalsely : Prop := segmentNobodyRow.holds Tryz.pinned (OpenSpec.ofChange segmentNobodyWrong)

/-- 'scholialaw23.MatchMerged': WHATEVER THE INPUT: true; the input reads as it did. -/
def matchMergedSpec : ChangeSpec := { name := "matchMerged", fn := fun _ => fun
  | [d1, d2, d3, d4] => { results := [.lit (.bool true)], args := [d1, d2, d3, d4] }
  | _ => none }
def matchMergedRow : OpenClaim := { program := "ytgfcgkbbmcgjmaagreatdoor", sum := "1d8d072181e3b1ad2b2fd48034d6d9c145b913d76cce1c16898a99a426d5b0e1", func := "scholia/scholialaw23.MatchMerged", spec := "matchMerged", inPlace := ["internal/bytealg.IndexByteString", "slices.overlaps[scholia/sorted.pair[string, []scholia/api.Spot]]"], unfollowed := true, recurses := true, named := ["scholia/fold.rows", "scholia/stem.short", "scholia/stem.ends", "math/bits.deBruijn64tab"], loops := true, apart := false, laid := [("math/bits.deBruijn64tab", laid_math_bits_deBruijn64tab), ("scholia/fold.rows", laid_scholia_fold_rows), ("scholia/stem.short", laid_scholia_stem_short), ("scholia/stem.ends", laid_scholia_stem_ends)] }
def MatchMergedSaid : Prop := matchMergedRow.holds Tryz.pinned (OpenSpec.ofChange matchMergedSpec)

/-- ITS FALSE NEIGHBOUR: 'it returns false'. Refute it at one input. -/
def matchMergedWrong : ChangeSpec := { name := "matchMerged", fn := fun _ => fun
  | [d1, d2, d3, d4] => { results := [.lit (.bool false)], args := [d1, d2, d3, d4] }
  | _ => none }
def MatchMergedWrongFalsely : Prop := matchMergedRow.holds Tryz.pinned (OpenSpec.ofChange matchMergedWrong)

/- THE SECOND FORM. 'bulk': how many values and letters a reading holds, each counted each time it is reached (what is shared counts as often as it is met; a slice's spare places count too). A statement '..UptoSaid' is the law's where the arguments, and the package variables that the reading takes, are together of bulk at most 1048576: NARROWER than '..Said'. Prove '..Said' where nothing that the law and all that it calls make is longer than what came in: it says more and counts as full. Else prove '..UptoSaid'. A law counts once. -/
mutual
def uptoBulk {H : Type} : DataW H → Nat
  | .lit (.string bytes) => bytes.length + 1
  | .lit _ => 1
  | .nil => 1
  | .ptr d => uptoBulk d + 1
  | .slice elems spare => uptoBulkAll elems + uptoBulkAll spare + 1
  | .agg parts => uptoBulkAll parts + 1
  | .iface _ d => uptoBulk d + 1
  | .map entries => uptoBulkEntries entries + 1
  | .held _ => 1
def uptoBulkAll {H : Type} : List (DataW H) → Nat
  | [] => 0
  | d :: r => uptoBulk d + uptoBulkAll r
def uptoBulkEntries {H : Type} : List (Lit × DataW H) → Nat
  | [] => 0
  | x :: r => uptoBulkEntry x + uptoBulkEntries r
def uptoBulkEntry {H : Type} : Lit × DataW H → Nat
  | (.string bytes, d) => bytes.length + uptoBulk d + 1
  | (_, d) => uptoBulk d + 1
 end
def uptoSmall : (H : Type) → List (DataW H) → Bool := fun _ ds => decide (uptoBulkAll ds ≤ 1048576)
def OpenSpec.upto (s : _root_.Go.ChangeSpec) : _root_.Go.OpenSpec := { _root_.Go.OpenSpec.ofChange s with cond := some uptoSmall }

/-- 'scholialaw20.SegmentDocs', WHERE WHAT IT READS IS OF BULK AT MOST 1048576: true; the input reads as it did. -/
def segmentDocsUptoRow : OpenClaim := { program := "ytgfcgkbbmcgjmaagreatdoor", sum := "1d8d072181e3b1ad2b2fd48034d6d9c145b913d76cce1c16898a99a426d5b0e1", func := "scholia/scholialaw20.SegmentDocs", spec := "segmentDocs", inPlace := ["internal/bytealg.IndexByteString", "slices.overlaps[scholia/sorted.pair[string, []scholia/api.Spot]]", "internal/abi.NoEscape"], unfollowed := true, recurses := true, named := ["scholia/fold.rows", "scholia/stem.short", "scholia/stem.ends", "math/bits.deBruijn64tab"], apart := false, laid := [("math/bits.deBruijn64tab", laid_math_bits_deBruijn64tab), ("scholia/fold.rows", laid_scholia_fold_rows), ("scholia/stem.short", laid_scholia_stem_short), ("scholia/stem.ends", laid_scholia_stem_ends)], narrowed := true }
def SegmentDocsUptoSaid : Prop := segmentDocsUptoRow.holds Tryz.pinned (OpenSpec.upto segmentDocsSpec)

/-- 'scholialaw20.SegmentBytes', WHERE WHAT IT READS IS OF BULK AT MOST 1048576: true; the input reads as it did. -/
def segmentBytesUptoRow : OpenClaim := { program := "ytgfcgkbbmcgjmaagreatdoor", sum := "1d8d072181e3b1ad2b2fd48034d6d9c145b913d76cce1c16898a99a426d5b0e1", func := "scholia/scholialaw20.SegmentBytes", spec := "segmentBytes", inPlace := ["internal/bytealg.IndexByteString", "slices.overlaps[scholia/sorted.pair[string, []scholia/api.Spot]]", "internal/abi.NoEscape"], unfollowed := true, recurses := true, named := ["scholia/fold.rows", "scholia/stem.short", "scholia/stem.ends", "math/bits.deBruijn64tab"], apart := false, laid := [("math/bits.deBruijn64tab", laid_math_bits_deBruijn64tab), ("scholia/fold.rows", laid_scholia_fold_rows), ("scholia/stem.short", laid_scholia_stem_short), ("scholia/stem.ends", laid_scholia_stem_ends)], narrowed := true }
def SegmentBytesUptoSaid : Prop := segmentBytesUptoRow.holds Tryz.pinned (OpenSpec.upto segmentBytesSpec)

/-- 'scholialaw20.SegmentTerms', WHERE WHAT IT READS IS OF BULK AT MOST 1048576: true; the input reads as it did. -/
def segmentTermsUptoRow : OpenClaim := { program := "ytgfcgkbbmcgjmaagreatdoor", sum := "1d8d072181e3b1ad2b2fd48034d6d9c145b913d76cce1c16898a99a426d5b0e1", func := "scholia/scholialaw20.SegmentTerms", spec := "segmentTerms", inPlace := ["internal/bytealg.IndexByteString", "slices.overlaps[scholia/sorted.pair[string, []scholia/api.Spot]]", "internal/abi.NoEscape"], unfollowed := true, recurses := true, named := ["scholia/fold.rows", "scholia/stem.short", "scholia/stem.ends", "math/bits.deBruijn64tab"], apart := false, laid := [("math/bits.deBruijn64tab", laid_math_bits_deBruijn64tab), ("scholia/fold.rows", laid_scholia_fold_rows), ("scholia/stem.short", laid_scholia_stem_short), ("scholia/stem.ends", laid_scholia_stem_ends)], narrowed := true }
def SegmentTermsUptoSaid : Prop := segmentTermsUptoRow.holds Tryz.pinned (OpenSpec.upto segmentTermsSpec)

/-- 'scholialaw20.SegmentAny', WHERE WHAT IT READS IS OF BULK AT MOST 1048576: true; the input reads as it did. -/
def segmentAnyUptoRow : OpenClaim := { program := "ytgfcgkbbmcgjmaagreatdoor", sum := "1d8d072181e3b1ad2b2fd48034d6d9c145b913d76cce1c16898a99a426d5b0e1", func := "scholia/scholialaw20.SegmentAny", spec := "segmentAny", inPlace := ["internal/bytealg.IndexByteString", "slices.overlaps[scholia/sorted.pair[string, []scholia/api.Spot]]", "internal/abi.NoEscape"], unfollowed := true, recurses := true, named := ["scholia/fold.rows", "scholia/stem.short", "scholia/stem.ends", "math/bits.deBruijn64tab"], apart := false, laid := [("math/bits.deBruijn64tab", laid_math_bits_deBruijn64tab), ("scholia/fold.rows", laid_scholia_fold_rows), ("scholia/stem.short", laid_scholia_stem_short), ("scholia/stem.ends", laid_scholia_stem_ends)], narrowed := true }
def SegmentAnyUptoSaid : Prop := segmentAnyUptoRow.holds Tryz.pinned (OpenSpec.upto segmentAnySpec)

/-- 'scholialaw20.SegmentBack', WHERE WHAT IT READS IS OF BULK AT MOST 1048576: true; the input reads as it did. -/
def segmentBackUptoRow : OpenClaim := { program := "ytgfcgkbbmcgjmaagreatdoor", sum := "1d8d072181e3b1ad2b2fd48034d6d9c145b913d76cce1c16898a99a426d5b0e1", func := "scholia/scholialaw20.SegmentBack", spec := "segmentBack", inPlace := ["internal/bytealg.IndexByteString", "slices.overlaps[scholia/sorted.pair[string, []scholia/api.Spot]]", "internal/abi.NoEscape"], unfollowed := true, recurses := true, named := ["scholia/fold.rows", "scholia/stem.short", "scholia/stem.ends", "math/bits.deBruijn64tab"], apart := false, laid := [("math/bits.deBruijn64tab", laid_math_bits_deBruijn64tab), ("scholia/fold.rows", laid_scholia_fold_rows), ("scholia/stem.short", laid_scholia_stem_short), ("scholia/stem.ends", laid_scholia_stem_ends)], narrowed := true }
def SegmentBackUptoSaid : Prop := segmentBackUptoRow.holds Tryz.pinned (OpenSpec.upto segmentBackSpec)

/-- 'scholialaw23.MatchNot', WHERE WHAT IT READS IS OF BULK AT MOST 1048576: true; the input reads as it did. -/
def matchNotUptoRow : OpenClaim := { program := "ytgfcgkbbmcgjmaagreatdoor", sum := "1d8d072181e3b1ad2b2fd48034d6d9c145b913d76cce1c16898a99a426d5b0e1", func := "scholia/scholialaw23.MatchNot", spec := "matchNot", inPlace := ["internal/bytealg.IndexByteString", "slices.overlaps[scholia/sorted.pair[string, []scholia/api.Spot]]"], unfollowed := true, recurses := true, named := ["scholia/fold.rows", "scholia/stem.short", "scholia/stem.ends"], loops := true, apart := false, laid := [("scholia/fold.rows", laid_scholia_fold_rows), ("scholia/stem.short", laid_scholia_stem_short), ("scholia/stem.ends", laid_scholia_stem_ends)], narrowed := true }
def MatchNotUptoSaid : Prop := matchNotUptoRow.holds Tryz.pinned (OpenSpec.upto matchNotSpec)

/-- 'scholialaw20.SegmentMerges', WHERE WHAT IT READS IS OF BULK AT MOST 1048576: true; the input reads as it did. -/
def segmentMergesUptoRow : OpenClaim := { program := "ytgfcgkbbmcgjmaagreatdoor", sum := "1d8d072181e3b1ad2b2fd48034d6d9c145b913d76cce1c16898a99a426d5b0e1", func := "scholia/scholialaw20.SegmentMerges", spec := "segmentMerges", inPlace := ["internal/bytealg.IndexByteString", "slices.overlaps[scholia/sorted.pair[string, []scholia/api.Spot]]", "internal/abi.NoEscape"], unfollowed := true, recurses := true, named := ["scholia/fold.rows", "scholia/stem.short", "scholia/stem.ends", "math/bits.deBruijn64tab"], apart := false, laid := [("math/bits.deBruijn64tab", laid_math_bits_deBruijn64tab), ("scholia/fold.rows", laid_scholia_fold_rows), ("scholia/stem.short", laid_scholia_stem_short), ("scholia/stem.ends", laid_scholia_stem_ends)], narrowed := true }
def SegmentMergesUptoSaid : Prop := segmentMergesUptoRow.holds Tryz.pinned (OpenSpec.upto segmentMergesSpec)

/-- 'scholialaw20.SegmentNobody', WHERE WHAT IT READS IS OF BULK AT MOST 1048576: true; the input reads as it did. -/
def segmentNobodyUptoRow : OpenClaim := { program := "ytgfcgkbbmcgjmaagreatdoor", sum := "1d8d072181e3b1ad2b2fd48034d6d9c145b913d76cce1c16898a99a426d5b0e1", func := "scholia/scholialaw20.SegmentNobody", spec := "segmentNobody", inPlace := ["internal/abi.NoEscape", "internal/bytealg.IndexByteString", "slices.overlaps[scholia/sorted.pair[string, []scholia/api.Spot]]"], unfollowed := true, recurses := true, named := ["math/bits.deBruijn64tab", "scholia/fold.rows", "scholia/stem.short", "scholia/stem.ends"], apart := false, laid := [("math/bits.deBruijn64tab", laid_math_bits_deBruijn64tab), ("scholia/fold.rows", laid_scholia_fold_rows), ("scholia/stem.short", laid_scholia_stem_short), ("scholia/stem.ends", laid_scholia_stem_ends)], narrowed := true }
def SegmentNobodyUptoSaid : Prop := segmentNobodyUptoRow.holds Tryz.pinned (OpenSpec.upto segmentNobodySpec)

/-- 'scholialaw23.MatchMerged', WHERE WHAT IT READS IS OF BULK AT MOST 1048576: true; the input reads as it did. -/
def matchMergedUptoRow : OpenClaim := { program := "ytgfcgkbbmcgjmaagreatdoor", sum := "1d8d072181e3b1ad2b2fd48034d6d9c145b913d76cce1c16898a99a426d5b0e1", func := "scholia/scholialaw23.MatchMerged", spec := "matchMerged", inPlace := ["internal/bytealg.IndexByteString", "slices.overlaps[scholia/sorted.pair[string, []scholia/api.Spot]]"], unfollowed := true, recurses := true, named := ["scholia/fold.rows", "scholia/stem.short", "scholia/stem.ends", "math/bits.deBruijn64tab"], loops := true, apart := false, laid := [("math/bits.deBruijn64tab", laid_math_bits_deBruijn64tab), ("scholia/fold.rows", laid_scholia_fold_rows), ("scholia/stem.short", laid_scholia_stem_short), ("scholia/stem.ends", laid_scholia_stem_ends)], narrowed := true }
def MatchMergedUptoSaid : Prop := matchMergedUptoRow.holds Tryz.pinned (OpenSpec.upto matchMergedSpec)

end Rows
end Go.Proofs.YtgfcgkbbmcgjmaaGreatDoor
