/-
  No cell of these rows narrows 'for every input' (looked for: loops, veiled, ifaces, maps, wideKeys, modest, calm, conditions, laid).
  DERIVED. THE GIVEN ROWS OF THIS SEAT. 12 by the template 'for every input the law returns true; each argument reads behind the call as it read before'; 0 by the template 'total and deterministic' (their statements: YtmdlmmfbcnkanaaRTotals.lean).
  GIVEN WITH THE SEED: the statements are not yours to turn. If you find one false, say at which input.
  Laid BY PROGRAM, IN A SANDBOX (cutbox-rows.mjs): the forced cells as the released guide's own fill.sh prints them over the translation b7295f81feb02560… (all of the seat's roots in one cut). By AI agents, Wed Nov 11 2026. No macro, syntax, notation, axiom, sorry.
-/
import Derived.Test.YtmdlmmfbcnkanaaRChecked
import GoSem.Claim
import GoSem.ClaimJoined
import GoSem.ClaimMapViews
import Derived.JoinedTies
import Derived.KernelRfl
namespace Go.Proofs.YtmdlmmfbcnkanaaR
/- THE CELL 'sum', in the pinned program and in every row, IS THE sha256 OF THE DUMP (.gsa) THAT YtmdlmmfbcnkanaaRProg.lean LOADS. Nothing in Lean hashes anything: it is a label: what it is worth is what the hold of that sum in a sandbox is worth. -/
noncomputable def Try.pinned : Pinned := { name := "ytmdlmmfbcnkanaar", sum := "b7295f81feb0256063dd1158ac8782cc56f19fe03da0c6d321556737fa823934", checked := Try.checked }
namespace Rows
def none {H : Type} : Left H := { results := [], args := [] }

/-- 'meniscuslaw11.FileWrites': WHATEVER THE INPUT: true; the input reads as it did. -/
def fileWritesSpec : ChangeSpec := { name := "fileWrites", fn := fun _ => fun
  | [d] => { results := [.lit (.bool true)], args := [d] }
  | _ => none }
def fileWritesRow : OpenClaim := { program := "ytmdlmmfbcnkanaar", sum := "b7295f81feb0256063dd1158ac8782cc56f19fe03da0c6d321556737fa823934", func := "meniscus/meniscuslaw11.FileWrites", spec := "fileWrites", inPlace := ["internal/bytealg.IndexByte"], unfollowed := true, recurses := true, plainKeys := false, apart := false }
def FileWritesSaid : Prop := fileWritesRow.holds Try.pinned (OpenSpec.ofChange fileWritesSpec)

/-- ITS FALSE NEIGHBOUR: 'it returns false'. Refute it at one input. -/
def fileWritesWrong : ChangeSpec := { name := "fileWrites", fn := fun _ => fun
  | [d] => { results := [.lit (.bool false)], args := [d] }
  | _ => none }
def FileWritesWrongFalsely : Prop := fileWritesRow.holds Try.pinned (OpenSpec.ofChange fileWritesWrong)

/-- 'meniscuslaw11.FileEnds': WHATEVER THE INPUT: true; the input reads as it did. -/
def fileEndsSpec : ChangeSpec := { name := "fileEnds", fn := fun _ => fun
  | [d1, d2, d3, d4] => { results := [.lit (.bool true)], args := [d1, d2, d3, d4] }
  | _ => none }
def fileEndsRow : OpenClaim := { program := "ytmdlmmfbcnkanaar", sum := "b7295f81feb0256063dd1158ac8782cc56f19fe03da0c6d321556737fa823934", func := "meniscus/meniscuslaw11.FileEnds", spec := "fileEnds", inPlace := ["internal/bytealg.IndexByte"], unfollowed := true, recurses := true, plainKeys := false, apart := false }
def FileEndsSaid : Prop := fileEndsRow.holds Try.pinned (OpenSpec.ofChange fileEndsSpec)

/-- ITS FALSE NEIGHBOUR: 'it returns false'. Refute it at one input. -/
def fileEndsWrong : ChangeSpec := { name := "fileEnds", fn := fun _ => fun
  | [d1, d2, d3, d4] => { results := [.lit (.bool false)], args := [d1, d2, d3, d4] }
  | _ => none }
def FileEndsWrongFalsely : Prop := fileEndsRow.holds Try.pinned (OpenSpec.ofChange fileEndsWrong)

/-- 'meniscuslaw11.FileOne': WHATEVER THE INPUT: true; the input reads as it did. -/
def fileOneSpec : ChangeSpec := { name := "fileOne", fn := fun _ => fun
  | [d1, d2] => { results := [.lit (.bool true)], args := [d1, d2] }
  | _ => none }
def fileOneRow : OpenClaim := { program := "ytmdlmmfbcnkanaar", sum := "b7295f81feb0256063dd1158ac8782cc56f19fe03da0c6d321556737fa823934", func := "meniscus/meniscuslaw11.FileOne", spec := "fileOne", inPlace := ["internal/bytealg.IndexByte"], unfollowed := true, recurses := true, plainKeys := false, apart := false }
def FileOneSaid : Prop := fileOneRow.holds Try.pinned (OpenSpec.ofChange fileOneSpec)

/-- ITS FALSE NEIGHBOUR: 'it returns false'. Refute it at one input. -/
def fileOneWrong : ChangeSpec := { name := "fileOne", fn := fun _ => fun
  | [d1, d2] => { results := [.lit (.bool false)], args := [d1, d2] }
  | _ => none }
def FileOneWrongFalsely : Prop := fileOneRow.holds Try.pinned (OpenSpec.ofChange fileOneWrong)

/-- 'meniscuslaw11.FileMore': WHATEVER THE INPUT: true; the input reads as it did. -/
def fileMoreSpec : ChangeSpec := { name := "fileMore", fn := fun _ => fun
  | [d1, d2, d3, d4, d5, d6] => { results := [.lit (.bool true)], args := [d1, d2, d3, d4, d5, d6] }
  | _ => none }
def fileMoreRow : OpenClaim := { program := "ytmdlmmfbcnkanaar", sum := "b7295f81feb0256063dd1158ac8782cc56f19fe03da0c6d321556737fa823934", func := "meniscus/meniscuslaw11.FileMore", spec := "fileMore", inPlace := ["internal/bytealg.IndexByte"], unfollowed := true, recurses := true, plainKeys := false, apart := false }
def FileMoreSaid : Prop := fileMoreRow.holds Try.pinned (OpenSpec.ofChange fileMoreSpec)

/-- ITS FALSE NEIGHBOUR: 'it returns false'. Refute it at one input. -/
def fileMoreWrong : ChangeSpec := { name := "fileMore", fn := fun _ => fun
  | [d1, d2, d3, d4, d5, d6] => { results := [.lit (.bool false)], args := [d1, d2, d3, d4, d5, d6] }
  | _ => none }
def FileMoreWrongFalsely : Prop := fileMoreRow.holds Try.pinned (OpenSpec.ofChange fileMoreWrong)

/-- 'meniscuslaw11.FileFits': WHATEVER THE INPUT: true; the input reads as it did. -/
def fileFitsSpec : ChangeSpec := { name := "fileFits", fn := fun _ => fun
  | [d1, d2] => { results := [.lit (.bool true)], args := [d1, d2] }
  | _ => none }
def fileFitsRow : OpenClaim := { program := "ytmdlmmfbcnkanaar", sum := "b7295f81feb0256063dd1158ac8782cc56f19fe03da0c6d321556737fa823934", func := "meniscus/meniscuslaw11.FileFits", spec := "fileFits", inPlace := ["internal/bytealg.IndexByte"], unfollowed := true, recurses := true, plainKeys := false, apart := false }
def FileFitsSaid : Prop := fileFitsRow.holds Try.pinned (OpenSpec.ofChange fileFitsSpec)

/-- ITS FALSE NEIGHBOUR: 'it returns false'. Refute it at one input. -/
def fileFitsWrong : ChangeSpec := { name := "fileFits", fn := fun _ => fun
  | [d1, d2] => { results := [.lit (.bool false)], args := [d1, d2] }
  | _ => none }
def FileFitsWrongFalsely : Prop := fileFitsRow.holds Try.pinned (OpenSpec.ofChange fileFitsWrong)

/-- 'meniscuslaw11.FileCounts': WHATEVER THE INPUT: true; the input reads as it did. -/
def fileCountsSpec : ChangeSpec := { name := "fileCounts", fn := fun _ => fun
  | [d] => { results := [.lit (.bool true)], args := [d] }
  | _ => none }
def fileCountsRow : OpenClaim := { program := "ytmdlmmfbcnkanaar", sum := "b7295f81feb0256063dd1158ac8782cc56f19fe03da0c6d321556737fa823934", func := "meniscus/meniscuslaw11.FileCounts", spec := "fileCounts", inPlace := ["internal/bytealg.IndexByte"], unfollowed := true, recurses := true, plainKeys := false, apart := false }
def FileCountsSaid : Prop := fileCountsRow.holds Try.pinned (OpenSpec.ofChange fileCountsSpec)

/-- ITS FALSE NEIGHBOUR: 'it returns false'. Refute it at one input. -/
def fileCountsWrong : ChangeSpec := { name := "fileCounts", fn := fun _ => fun
  | [d] => { results := [.lit (.bool false)], args := [d] }
  | _ => none }
def FileCountsWrongFalsely : Prop := fileCountsRow.holds Try.pinned (OpenSpec.ofChange fileCountsWrong)

/-- 'meniscuslaw11.FileSpoilt': WHATEVER THE INPUT: true; the input reads as it did. -/
def fileSpoiltSpec : ChangeSpec := { name := "fileSpoilt", fn := fun _ => fun
  | [d1, d2, d3] => { results := [.lit (.bool true)], args := [d1, d2, d3] }
  | _ => none }
def fileSpoiltRow : OpenClaim := { program := "ytmdlmmfbcnkanaar", sum := "b7295f81feb0256063dd1158ac8782cc56f19fe03da0c6d321556737fa823934", func := "meniscus/meniscuslaw11.FileSpoilt", spec := "fileSpoilt", inPlace := ["internal/bytealg.IndexByte"], unfollowed := true, recurses := true, plainKeys := false, apart := false }
def FileSpoiltSaid : Prop := fileSpoiltRow.holds Try.pinned (OpenSpec.ofChange fileSpoiltSpec)

/-- ITS FALSE NEIGHBOUR: 'it returns false'. Refute it at one input. -/
def fileSpoiltWrong : ChangeSpec := { name := "fileSpoilt", fn := fun _ => fun
  | [d1, d2, d3] => { results := [.lit (.bool false)], args := [d1, d2, d3] }
  | _ => none }
def FileSpoiltWrongFalsely : Prop := fileSpoiltRow.holds Try.pinned (OpenSpec.ofChange fileSpoiltWrong)

/-- 'meniscuslaw11.FileTruth': WHATEVER THE INPUT: true; the input reads as it did. -/
def fileTruthSpec : ChangeSpec := { name := "fileTruth", fn := fun _ => fun
  | [d1, d2, d3] => { results := [.lit (.bool true)], args := [d1, d2, d3] }
  | _ => none }
def fileTruthRow : OpenClaim := { program := "ytmdlmmfbcnkanaar", sum := "b7295f81feb0256063dd1158ac8782cc56f19fe03da0c6d321556737fa823934", func := "meniscus/meniscuslaw11.FileTruth", spec := "fileTruth", inPlace := ["internal/bytealg.IndexByte"], unfollowed := true, recurses := true, plainKeys := false, apart := false }
def FileTruthSaid : Prop := fileTruthRow.holds Try.pinned (OpenSpec.ofChange fileTruthSpec)

/-- ITS FALSE NEIGHBOUR: 'it returns false'. Refute it at one input. -/
def fileTruthWrong : ChangeSpec := { name := "fileTruth", fn := fun _ => fun
  | [d1, d2, d3] => { results := [.lit (.bool false)], args := [d1, d2, d3] }
  | _ => none }
def FileTruthWrongFalsely : Prop := fileTruthRow.holds Try.pinned (OpenSpec.ofChange fileTruthWrong)

/-- 'meniscuslaw11.FileJoins': WHATEVER THE INPUT: true; the input reads as it did. -/
def fileJoinsSpec : ChangeSpec := { name := "fileJoins", fn := fun _ => fun
  | [d1, d2] => { results := [.lit (.bool true)], args := [d1, d2] }
  | _ => none }
def fileJoinsRow : OpenClaim := { program := "ytmdlmmfbcnkanaar", sum := "b7295f81feb0256063dd1158ac8782cc56f19fe03da0c6d321556737fa823934", func := "meniscus/meniscuslaw11.FileJoins", spec := "fileJoins", inPlace := ["internal/bytealg.IndexByte"], unfollowed := true, recurses := true, plainKeys := false, apart := false }
def FileJoinsSaid : Prop := fileJoinsRow.holds Try.pinned (OpenSpec.ofChange fileJoinsSpec)

/-- ITS FALSE NEIGHBOUR: 'it returns false'. Refute it at one input. -/
def fileJoinsWrong : ChangeSpec := { name := "fileJoins", fn := fun _ => fun
  | [d1, d2] => { results := [.lit (.bool false)], args := [d1, d2] }
  | _ => none }
def FileJoinsWrongFalsely : Prop := fileJoinsRow.holds Try.pinned (OpenSpec.ofChange fileJoinsWrong)

/-- 'meniscuslaw11.FileBack': WHATEVER THE INPUT: true; the input reads as it did. -/
def fileBackSpec : ChangeSpec := { name := "fileBack", fn := fun _ => fun
  | [d1, d2, d3] => { results := [.lit (.bool true)], args := [d1, d2, d3] }
  | _ => none }
def fileBackRow : OpenClaim := { program := "ytmdlmmfbcnkanaar", sum := "b7295f81feb0256063dd1158ac8782cc56f19fe03da0c6d321556737fa823934", func := "meniscus/meniscuslaw11.FileBack", spec := "fileBack", inPlace := ["internal/bytealg.IndexByte"], unfollowed := true, recurses := true, plainKeys := false, apart := false }
def FileBackSaid : Prop := fileBackRow.holds Try.pinned (OpenSpec.ofChange fileBackSpec)

/-- ITS FALSE NEIGHBOUR: 'it returns false'. Refute it at one input. -/
def fileBackWrong : ChangeSpec := { name := "fileBack", fn := fun _ => fun
  | [d1, d2, d3] => { results := [.lit (.bool false)], args := [d1, d2, d3] }
  | _ => none }
def FileBackWrongFalsely : Prop := fileBackRow.holds Try.pinned (OpenSpec.ofChange fileBackWrong)

/-- 'meniscuslaw11.FileTogether': WHATEVER THE INPUT: true; the input reads as it did. -/
def fileTogetherSpec : ChangeSpec := { name := "fileTogether", fn := fun _ => fun
  | [d1, d2, d3, d4] => { results := [.lit (.bool true)], args := [d1, d2, d3, d4] }
  | _ => none }
def fileTogetherRow : OpenClaim := { program := "ytmdlmmfbcnkanaar", sum := "b7295f81feb0256063dd1158ac8782cc56f19fe03da0c6d321556737fa823934", func := "meniscus/meniscuslaw11.FileTogether", spec := "fileTogether", inPlace := ["internal/bytealg.IndexByte"], unfollowed := true, recurses := true, plainKeys := false, apart := false }
def FileTogetherSaid : Prop := fileTogetherRow.holds Try.pinned (OpenSpec.ofChange fileTogetherSpec)

/-- ITS FALSE NEIGHBOUR: 'it returns false'. Refute it at one input. -/
def fileTogetherWrong : ChangeSpec := { name := "fileTogether", fn := fun _ => fun
  | [d1, d2, d3, d4] => { results := [.lit (.bool false)], args := [d1, d2, d3, d4] }
  | _ => none }
def FileTogetherWrongFalsely : Prop := fileTogetherRow.holds Try.pinned (OpenSpec.ofChange fileTogetherWrong)

/-- 'meniscuslaw11.FileNames': WHATEVER THE INPUT: true; the input reads as it did. -/
def fileNamesSpec : ChangeSpec := { name := "fileNames", fn := fun _ => fun
  | [] => { results := [.lit (.bool true)], args := [] }
  | _ => none }
def fileNamesRow : OpenClaim := { program := "ytmdlmmfbcnkanaar", sum := "b7295f81feb0256063dd1158ac8782cc56f19fe03da0c6d321556737fa823934", func := "meniscus/meniscuslaw11.FileNames", spec := "fileNames", inPlace := ["internal/bytealg.IndexByte"], unfollowed := true, recurses := true, plainKeys := false, apart := false }
def FileNamesSaid : Prop := fileNamesRow.holds Try.pinned (OpenSpec.ofChange fileNamesSpec)

/-- ITS FALSE NEIGHBOUR: 'it returns false'. Refute it at one input. -/
def fileNamesWrong : ChangeSpec := { name := "fileNames", fn := fun _ => fun
  | [] => { results := [.lit (.bool false)], args := [] }
  | _ => none }
def FileNamesWrongFalsely : Prop := fileNamesRow.holds Try.pinned (OpenSpec.ofChange fileNamesWrong)

/- THE SECOND FORM. 'bulk': how many values and letters a reading holds, each counted each time it is reached (what is shared counts as often as it is met; a slice's spare places count too). A statement '..UptoSaid' is the law's where the arguments, and the package variables that the reading takes, are together of bulk at most 1048576: NARROWER than '..Said'. Prove '..Said' where nothing that the law and all that it calls make is longer than what came in: it says more and counts as full. Else prove '..UptoSaid'. A law counts once. -/
mutual
def uptoBulk {H : Type} : DataW H → Nat
  | .lit (.string bytes) => bytes.length + 1
  | .lit _ => 1
  | .nil => 1
  | .ptr d => uptoBulk d + 1
  | .slice elems spare => uptoBulkAll elems + uptoBulkAll spare + 1
  | .agg parts => uptoBulkAll parts + 1
  | .iface _ d => uptoBulk d + 1
  | .map entries => uptoBulkEntries entries + 1
  | .held _ => 1
def uptoBulkAll {H : Type} : List (DataW H) → Nat
  | [] => 0
  | d :: r => uptoBulk d + uptoBulkAll r
def uptoBulkEntries {H : Type} : List (Lit × DataW H) → Nat
  | [] => 0
  | x :: r => uptoBulkEntry x + uptoBulkEntries r
def uptoBulkEntry {H : Type} : Lit × DataW H → Nat
  | (.string bytes, d) => bytes.length + uptoBulk d + 1
  | (_, d) => uptoBulk d + 1
 end
def uptoSmall : (H : Type) → List (DataW H) → Bool := fun _ ds => decide (uptoBulkAll ds ≤ 1048576)
def OpenSpec.upto (s : _root_.Go.ChangeSpec) : _root_.Go.OpenSpec := { _root_.Go.OpenSpec.ofChange s with cond := some uptoSmall }

/-- 'meniscuslaw11.FileWrites', WHERE WHAT IT READS IS OF BULK AT MOST 1048576: true; the input reads as it did. -/
def fileWritesUptoRow : OpenClaim := { program := "ytmdlmmfbcnkanaar", sum := "b7295f81feb0256063dd1158ac8782cc56f19fe03da0c6d321556737fa823934", func := "meniscus/meniscuslaw11.FileWrites", spec := "fileWrites", inPlace := ["internal/bytealg.IndexByte"], unfollowed := true, recurses := true, plainKeys := false, apart := false, narrowed := true }
def FileWritesUptoSaid : Prop := fileWritesUptoRow.holds Try.pinned (OpenSpec.upto fileWritesSpec)

/-- 'meniscuslaw11.FileEnds', WHERE WHAT IT READS IS OF BULK AT MOST 1048576: true; the input reads as it did. -/
def fileEndsUptoRow : OpenClaim := { program := "ytmdlmmfbcnkanaar", sum := "b7295f81feb0256063dd1158ac8782cc56f19fe03da0c6d321556737fa823934", func := "meniscus/meniscuslaw11.FileEnds", spec := "fileEnds", inPlace := ["internal/bytealg.IndexByte"], unfollowed := true, recurses := true, plainKeys := false, apart := false, narrowed := true }
def FileEndsUptoSaid : Prop := fileEndsUptoRow.holds Try.pinned (OpenSpec.upto fileEndsSpec)

/-- 'meniscuslaw11.FileOne', WHERE WHAT IT READS IS OF BULK AT MOST 1048576: true; the input reads as it did. -/
def fileOneUptoRow : OpenClaim := { program := "ytmdlmmfbcnkanaar", sum := "b7295f81feb0256063dd1158ac8782cc56f19fe03da0c6d321556737fa823934", func := "meniscus/meniscuslaw11.FileOne", spec := "fileOne", inPlace := ["internal/bytealg.IndexByte"], unfollowed := true, recurses := true, plainKeys := false, apart := false, narrowed := true }
def FileOneUptoSaid : Prop := fileOneUptoRow.holds Try.pinned (OpenSpec.upto fileOneSpec)

/-- 'meniscuslaw11.FileMore', WHERE WHAT IT READS IS OF BULK AT MOST 1048576: true; the input reads as it did. -/
def fileMoreUptoRow : OpenClaim := { program := "ytmdlmmfbcnkanaar", sum := "b7295f81feb0256063dd1158ac8782cc56f19fe03da0c6d321556737fa823934", func := "meniscus/meniscuslaw11.FileMore", spec := "fileMore", inPlace := ["internal/bytealg.IndexByte"], unfollowed := true, recurses := true, plainKeys := false, apart := false, narrowed := true }
def FileMoreUptoSaid : Prop := fileMoreUptoRow.holds Try.pinned (OpenSpec.upto fileMoreSpec)

/-- 'meniscuslaw11.FileFits', WHERE WHAT IT READS IS OF BULK AT MOST 1048576: true; the input reads as it did. -/
def fileFitsUptoRow : OpenClaim := { program := "ytmdlmmfbcnkanaar", sum := "b7295f81feb0256063dd1158ac8782cc56f19fe03da0c6d321556737fa823934", func := "meniscus/meniscuslaw11.FileFits", spec := "fileFits", inPlace := ["internal/bytealg.IndexByte"], unfollowed := true, recurses := true, plainKeys := false, apart := false, narrowed := true }
def FileFitsUptoSaid : Prop := fileFitsUptoRow.holds Try.pinned (OpenSpec.upto fileFitsSpec)

/-- 'meniscuslaw11.FileCounts', WHERE WHAT IT READS IS OF BULK AT MOST 1048576: true; the input reads as it did. -/
def fileCountsUptoRow : OpenClaim := { program := "ytmdlmmfbcnkanaar", sum := "b7295f81feb0256063dd1158ac8782cc56f19fe03da0c6d321556737fa823934", func := "meniscus/meniscuslaw11.FileCounts", spec := "fileCounts", inPlace := ["internal/bytealg.IndexByte"], unfollowed := true, recurses := true, plainKeys := false, apart := false, narrowed := true }
def FileCountsUptoSaid : Prop := fileCountsUptoRow.holds Try.pinned (OpenSpec.upto fileCountsSpec)

/-- 'meniscuslaw11.FileSpoilt', WHERE WHAT IT READS IS OF BULK AT MOST 1048576: true; the input reads as it did. -/
def fileSpoiltUptoRow : OpenClaim := { program := "ytmdlmmfbcnkanaar", sum := "b7295f81feb0256063dd1158ac8782cc56f19fe03da0c6d321556737fa823934", func := "meniscus/meniscuslaw11.FileSpoilt", spec := "fileSpoilt", inPlace := ["internal/bytealg.IndexByte"], unfollowed := true, recurses := true, plainKeys := false, apart := false, narrowed := true }
def FileSpoiltUptoSaid : Prop := fileSpoiltUptoRow.holds Try.pinned (OpenSpec.upto fileSpoiltSpec)

/-- 'meniscuslaw11.FileTruth', WHERE WHAT IT READS IS OF BULK AT MOST 1048576: true; the input reads as it did. -/
def fileTruthUptoRow : OpenClaim := { program := "ytmdlmmfbcnkanaar", sum := "b7295f81feb0256063dd1158ac8782cc56f19fe03da0c6d321556737fa823934", func := "meniscus/meniscuslaw11.FileTruth", spec := "fileTruth", inPlace := ["internal/bytealg.IndexByte"], unfollowed := true, recurses := true, plainKeys := false, apart := false, narrowed := true }
def FileTruthUptoSaid : Prop := fileTruthUptoRow.holds Try.pinned (OpenSpec.upto fileTruthSpec)

/-- 'meniscuslaw11.FileJoins', WHERE WHAT IT READS IS OF BULK AT MOST 1048576: true; the input reads as it did. -/
def fileJoinsUptoRow : OpenClaim := { program := "ytmdlmmfbcnkanaar", sum := "b7295f81feb0256063dd1158ac8782cc56f19fe03da0c6d321556737fa823934", func := "meniscus/meniscuslaw11.FileJoins", spec := "fileJoins", inPlace := ["internal/bytealg.IndexByte"], unfollowed := true, recurses := true, plainKeys := false, apart := false, narrowed := true }
def FileJoinsUptoSaid : Prop := fileJoinsUptoRow.holds Try.pinned (OpenSpec.upto fileJoinsSpec)

/-- 'meniscuslaw11.FileBack', WHERE WHAT IT READS IS OF BULK AT MOST 1048576: true; the input reads as it did. -/
def fileBackUptoRow : OpenClaim := { program := "ytmdlmmfbcnkanaar", sum := "b7295f81feb0256063dd1158ac8782cc56f19fe03da0c6d321556737fa823934", func := "meniscus/meniscuslaw11.FileBack", spec := "fileBack", inPlace := ["internal/bytealg.IndexByte"], unfollowed := true, recurses := true, plainKeys := false, apart := false, narrowed := true }
def FileBackUptoSaid : Prop := fileBackUptoRow.holds Try.pinned (OpenSpec.upto fileBackSpec)

/-- 'meniscuslaw11.FileTogether', WHERE WHAT IT READS IS OF BULK AT MOST 1048576: true; the input reads as it did. -/
def fileTogetherUptoRow : OpenClaim := { program := "ytmdlmmfbcnkanaar", sum := "b7295f81feb0256063dd1158ac8782cc56f19fe03da0c6d321556737fa823934", func := "meniscus/meniscuslaw11.FileTogether", spec := "fileTogether", inPlace := ["internal/bytealg.IndexByte"], unfollowed := true, recurses := true, plainKeys := false, apart := false, narrowed := true }
def FileTogetherUptoSaid : Prop := fileTogetherUptoRow.holds Try.pinned (OpenSpec.upto fileTogetherSpec)

/-- 'meniscuslaw11.FileNames', WHERE WHAT IT READS IS OF BULK AT MOST 1048576: true; the input reads as it did. -/
def fileNamesUptoRow : OpenClaim := { program := "ytmdlmmfbcnkanaar", sum := "b7295f81feb0256063dd1158ac8782cc56f19fe03da0c6d321556737fa823934", func := "meniscus/meniscuslaw11.FileNames", spec := "fileNames", inPlace := ["internal/bytealg.IndexByte"], unfollowed := true, recurses := true, plainKeys := false, apart := false, narrowed := true }
def FileNamesUptoSaid : Prop := fileNamesUptoRow.holds Try.pinned (OpenSpec.upto fileNamesSpec)

end Rows
end Go.Proofs.YtmdlmmfbcnkanaaR
