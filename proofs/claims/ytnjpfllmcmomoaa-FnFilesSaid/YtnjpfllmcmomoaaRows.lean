/-
  No cell of these rows narrows 'for every input' (looked for: loops, veiled, ifaces, maps, wideKeys, modest, calm, conditions, laid).
  DERIVED. THE GIVEN ROWS OF THIS SEAT. 12 by the template 'for every input the law returns true; each argument reads behind the call as it read before'; 0 by the template 'total and deterministic' (their statements: YtnjpfllmcmomoaaTotals.lean).
  GIVEN WITH THE SEED: the statements are not yours to turn. If you find one false, say at which input.
  Laid BY PROGRAM, IN A SANDBOX (cutbox-rows.mjs): the forced cells as the released guide's own fill.sh prints them over the translation 9d49c21aa179da70… (all of the seat's roots in one cut). By AI agents, Wed Nov 11 2026. No macro, syntax, notation, axiom, sorry.
-/
import Derived.Test.YtnjpfllmcmomoaaChecked
import GoSem.Claim
import GoSem.ClaimJoined
import GoSem.ClaimMapViews
import Derived.JoinedTies
import Derived.KernelRfl
namespace Go.Proofs.Ytnjpfllmcmomoaa
/- THE CELL 'sum', in the pinned program and in every row, IS THE sha256 OF THE DUMP (.gsa) THAT YtnjpfllmcmomoaaProg.lean LOADS. Nothing in Lean hashes anything: it is a label: what it is worth is what the hold of that sum in a sandbox is worth. -/
noncomputable def Try.pinned : Pinned := { name := "ytnjpfllmcmomoaa", sum := "9d49c21aa179da70c632fd130a37d4719350d8f344a3f2b7259c218bf26623c4", checked := Try.checked }
namespace Rows
def none {H : Type} : Left H := { results := [], args := [] }

/-- 'laws.FnHardRun': WHATEVER THE INPUT: true; the input reads as it did. -/
def fnHardRunSpec : ChangeSpec := { name := "fnHardRun", fn := fun _ => fun
  | [d] => { results := [.lit (.bool true)], args := [d] }
  | _ => none }
def fnHardRunRow : OpenClaim := { program := "ytnjpfllmcmomoaa", sum := "9d49c21aa179da70c632fd130a37d4719350d8f344a3f2b7259c218bf26623c4", func := "loop.example/g00106/laws.FnHardRun", spec := "fnHardRun", apart := false }
def FnHardRunSaid : Prop := fnHardRunRow.holds Try.pinned (OpenSpec.ofChange fnHardRunSpec)

/-- ITS FALSE NEIGHBOUR: 'it returns false'. Refute it at one input. -/
def fnHardRunWrong : ChangeSpec := { name := "fnHardRun", fn := fun _ => fun
  | [d] => { results := [.lit (.bool false)], args := [d] }
  | _ => none }
def FnHardRunWrongFalsely : Prop := fnHardRunRow.holds Try.pinned (OpenSpec.ofChange fnHardRunWrong)

/-- 'laws.FnCmd': WHATEVER THE INPUT: true; the input reads as it did. -/
def fnCmdSpec : ChangeSpec := { name := "fnCmd", fn := fun _ => fun
  | [d] => { results := [.lit (.bool true)], args := [d] }
  | _ => none }
def fnCmdRow : OpenClaim := { program := "ytnjpfllmcmomoaa", sum := "9d49c21aa179da70c632fd130a37d4719350d8f344a3f2b7259c218bf26623c4", func := "loop.example/g00106/laws.FnCmd", spec := "fnCmd", apart := false }
def FnCmdSaid : Prop := fnCmdRow.holds Try.pinned (OpenSpec.ofChange fnCmdSpec)

/-- ITS FALSE NEIGHBOUR: 'it returns false'. Refute it at one input. -/
def fnCmdWrong : ChangeSpec := { name := "fnCmd", fn := fun _ => fun
  | [d] => { results := [.lit (.bool false)], args := [d] }
  | _ => none }
def FnCmdWrongFalsely : Prop := fnCmdRow.holds Try.pinned (OpenSpec.ofChange fnCmdWrong)

/-- 'laws.FnExactHardApply': WHATEVER THE INPUT: true; the input reads as it did. -/
def fnExactHardApplySpec : ChangeSpec := { name := "fnExactHardApply", fn := fun _ => fun
  | [d1, d2] => { results := [.lit (.bool true)], args := [d1, d2] }
  | _ => none }
def fnExactHardApplyRow : OpenClaim := { program := "ytnjpfllmcmomoaa", sum := "9d49c21aa179da70c632fd130a37d4719350d8f344a3f2b7259c218bf26623c4", func := "loop.example/g00106/laws.FnExactHardApply", spec := "fnExactHardApply", apart := false }
def FnExactHardApplySaid : Prop := fnExactHardApplyRow.holds Try.pinned (OpenSpec.ofChange fnExactHardApplySpec)

/-- ITS FALSE NEIGHBOUR: 'it returns false'. Refute it at one input. -/
def fnExactHardApplyWrong : ChangeSpec := { name := "fnExactHardApply", fn := fun _ => fun
  | [d1, d2] => { results := [.lit (.bool false)], args := [d1, d2] }
  | _ => none }
def FnExactHardApplyWrongFalsely : Prop := fnExactHardApplyRow.holds Try.pinned (OpenSpec.ofChange fnExactHardApplyWrong)

/-- 'laws.FnExactDiskAppend': WHATEVER THE INPUT: true; the input reads as it did. -/
def fnExactDiskAppendSpec : ChangeSpec := { name := "fnExactDiskAppend", fn := fun _ => fun
  | [d1, d2, d3] => { results := [.lit (.bool true)], args := [d1, d2, d3] }
  | _ => none }
def fnExactDiskAppendRow : OpenClaim := { program := "ytnjpfllmcmomoaa", sum := "9d49c21aa179da70c632fd130a37d4719350d8f344a3f2b7259c218bf26623c4", func := "loop.example/g00106/laws.FnExactDiskAppend", spec := "fnExactDiskAppend", inPlace := ["slices.overlaps[loop.example/g00106/impl.File]"], unfollowed := true, recurses := true, apart := false }
def FnExactDiskAppendSaid : Prop := fnExactDiskAppendRow.holds Try.pinned (OpenSpec.ofChange fnExactDiskAppendSpec)

/-- ITS FALSE NEIGHBOUR: 'it returns false'. Refute it at one input. -/
def fnExactDiskAppendWrong : ChangeSpec := { name := "fnExactDiskAppend", fn := fun _ => fun
  | [d1, d2, d3] => { results := [.lit (.bool false)], args := [d1, d2, d3] }
  | _ => none }
def FnExactDiskAppendWrongFalsely : Prop := fnExactDiskAppendRow.holds Try.pinned (OpenSpec.ofChange fnExactDiskAppendWrong)

/-- 'laws.FnExactDiskMove': WHATEVER THE INPUT: true; the input reads as it did. -/
def fnExactDiskMoveSpec : ChangeSpec := { name := "fnExactDiskMove", fn := fun _ => fun
  | [d1, d2, d3] => { results := [.lit (.bool true)], args := [d1, d2, d3] }
  | _ => none }
def fnExactDiskMoveRow : OpenClaim := { program := "ytnjpfllmcmomoaa", sum := "9d49c21aa179da70c632fd130a37d4719350d8f344a3f2b7259c218bf26623c4", func := "loop.example/g00106/laws.FnExactDiskMove", spec := "fnExactDiskMove", inPlace := ["slices.overlaps[loop.example/g00106/impl.File]"], unfollowed := true, recurses := true, apart := false }
def FnExactDiskMoveSaid : Prop := fnExactDiskMoveRow.holds Try.pinned (OpenSpec.ofChange fnExactDiskMoveSpec)

/-- ITS FALSE NEIGHBOUR: 'it returns false'. Refute it at one input. -/
def fnExactDiskMoveWrong : ChangeSpec := { name := "fnExactDiskMove", fn := fun _ => fun
  | [d1, d2, d3] => { results := [.lit (.bool false)], args := [d1, d2, d3] }
  | _ => none }
def FnExactDiskMoveWrongFalsely : Prop := fnExactDiskMoveRow.holds Try.pinned (OpenSpec.ofChange fnExactDiskMoveWrong)

/-- 'laws.FnFiles': WHATEVER THE INPUT: true; the input reads as it did. -/
def fnFilesSpec : ChangeSpec := { name := "fnFiles", fn := fun _ => fun
  | [d] => { results := [.lit (.bool true)], args := [d] }
  | _ => none }
def fnFilesRow : OpenClaim := { program := "ytnjpfllmcmomoaa", sum := "9d49c21aa179da70c632fd130a37d4719350d8f344a3f2b7259c218bf26623c4", func := "loop.example/g00106/laws.FnFiles", spec := "fnFiles", inPlace := ["slices.overlaps[loop.example/g00106/impl.File]"], unfollowed := true, recurses := true, apart := false }
def FnFilesSaid : Prop := fnFilesRow.holds Try.pinned (OpenSpec.ofChange fnFilesSpec)

/-- ITS FALSE NEIGHBOUR: 'it returns false'. Refute it at one input. -/
def fnFilesWrong : ChangeSpec := { name := "fnFiles", fn := fun _ => fun
  | [d] => { results := [.lit (.bool false)], args := [d] }
  | _ => none }
def FnFilesWrongFalsely : Prop := fnFilesRow.holds Try.pinned (OpenSpec.ofChange fnFilesWrong)

/-- 'laws.FnExactHardOf': WHATEVER THE INPUT: true; the input reads as it did. -/
def fnExactHardOfSpec : ChangeSpec := { name := "fnExactHardOf", fn := fun _ => fun
  | [d] => { results := [.lit (.bool true)], args := [d] }
  | _ => none }
def fnExactHardOfRow : OpenClaim := { program := "ytnjpfllmcmomoaa", sum := "9d49c21aa179da70c632fd130a37d4719350d8f344a3f2b7259c218bf26623c4", func := "loop.example/g00106/laws.FnExactHardOf", spec := "fnExactHardOf", apart := false }
def FnExactHardOfSaid : Prop := fnExactHardOfRow.holds Try.pinned (OpenSpec.ofChange fnExactHardOfSpec)

/-- ITS FALSE NEIGHBOUR: 'it returns false'. Refute it at one input. -/
def fnExactHardOfWrong : ChangeSpec := { name := "fnExactHardOf", fn := fun _ => fun
  | [d] => { results := [.lit (.bool false)], args := [d] }
  | _ => none }
def FnExactHardOfWrongFalsely : Prop := fnExactHardOfRow.holds Try.pinned (OpenSpec.ofChange fnExactHardOfWrong)

/-- 'laws.FnExactJournalMend': WHATEVER THE INPUT: true; the input reads as it did. -/
def fnExactJournalMendSpec : ChangeSpec := { name := "fnExactJournalMend", fn := fun _ => fun
  | [d1, d2] => { results := [.lit (.bool true)], args := [d1, d2] }
  | _ => none }
def fnExactJournalMendRow : OpenClaim := { program := "ytnjpfllmcmomoaa", sum := "9d49c21aa179da70c632fd130a37d4719350d8f344a3f2b7259c218bf26623c4", func := "loop.example/g00106/laws.FnExactJournalMend", spec := "fnExactJournalMend", unfollowed := true, recurses := true, apart := false }
def FnExactJournalMendSaid : Prop := fnExactJournalMendRow.holds Try.pinned (OpenSpec.ofChange fnExactJournalMendSpec)

/-- ITS FALSE NEIGHBOUR: 'it returns false'. Refute it at one input. -/
def fnExactJournalMendWrong : ChangeSpec := { name := "fnExactJournalMend", fn := fun _ => fun
  | [d1, d2] => { results := [.lit (.bool false)], args := [d1, d2] }
  | _ => none }
def FnExactJournalMendWrongFalsely : Prop := fnExactJournalMendRow.holds Try.pinned (OpenSpec.ofChange fnExactJournalMendWrong)

/-- 'laws.FnExactJournalLate': WHATEVER THE INPUT: true; the input reads as it did. -/
def fnExactJournalLateSpec : ChangeSpec := { name := "fnExactJournalLate", fn := fun _ => fun
  | [d1, d2, d3] => { results := [.lit (.bool true)], args := [d1, d2, d3] }
  | _ => none }
def fnExactJournalLateRow : OpenClaim := { program := "ytnjpfllmcmomoaa", sum := "9d49c21aa179da70c632fd130a37d4719350d8f344a3f2b7259c218bf26623c4", func := "loop.example/g00106/laws.FnExactJournalLate", spec := "fnExactJournalLate", inPlace := ["slices.overlaps[loop.example/g00106/impl.File]"], unfollowed := true, recurses := true, apart := false }
def FnExactJournalLateSaid : Prop := fnExactJournalLateRow.holds Try.pinned (OpenSpec.ofChange fnExactJournalLateSpec)

/-- ITS FALSE NEIGHBOUR: 'it returns false'. Refute it at one input. -/
def fnExactJournalLateWrong : ChangeSpec := { name := "fnExactJournalLate", fn := fun _ => fun
  | [d1, d2, d3] => { results := [.lit (.bool false)], args := [d1, d2, d3] }
  | _ => none }
def FnExactJournalLateWrongFalsely : Prop := fnExactJournalLateRow.holds Try.pinned (OpenSpec.ofChange fnExactJournalLateWrong)

/-- 'laws.FnExactJournalAdd': WHATEVER THE INPUT: true; the input reads as it did. -/
def fnExactJournalAddSpec : ChangeSpec := { name := "fnExactJournalAdd", fn := fun _ => fun
  | [d1, d2, d3] => { results := [.lit (.bool true)], args := [d1, d2, d3] }
  | _ => none }
def fnExactJournalAddRow : OpenClaim := { program := "ytnjpfllmcmomoaa", sum := "9d49c21aa179da70c632fd130a37d4719350d8f344a3f2b7259c218bf26623c4", func := "loop.example/g00106/laws.FnExactJournalAdd", spec := "fnExactJournalAdd", inPlace := ["slices.overlaps[loop.example/g00106/impl.File]"], unfollowed := true, recurses := true, apart := false }
def FnExactJournalAddSaid : Prop := fnExactJournalAddRow.holds Try.pinned (OpenSpec.ofChange fnExactJournalAddSpec)

/-- ITS FALSE NEIGHBOUR: 'it returns false'. Refute it at one input. -/
def fnExactJournalAddWrong : ChangeSpec := { name := "fnExactJournalAdd", fn := fun _ => fun
  | [d1, d2, d3] => { results := [.lit (.bool false)], args := [d1, d2, d3] }
  | _ => none }
def FnExactJournalAddWrongFalsely : Prop := fnExactJournalAddRow.holds Try.pinned (OpenSpec.ofChange fnExactJournalAddWrong)

/-- 'laws.FnRec': WHATEVER THE INPUT: true; the input reads as it did. -/
def fnRecSpec : ChangeSpec := { name := "fnRec", fn := fun _ => fun
  | [d] => { results := [.lit (.bool true)], args := [d] }
  | _ => none }
def fnRecRow : OpenClaim := { program := "ytnjpfllmcmomoaa", sum := "9d49c21aa179da70c632fd130a37d4719350d8f344a3f2b7259c218bf26623c4", func := "loop.example/g00106/laws.FnRec", spec := "fnRec", apart := false }
def FnRecSaid : Prop := fnRecRow.holds Try.pinned (OpenSpec.ofChange fnRecSpec)

/-- ITS FALSE NEIGHBOUR: 'it returns false'. Refute it at one input. -/
def fnRecWrong : ChangeSpec := { name := "fnRec", fn := fun _ => fun
  | [d] => { results := [.lit (.bool false)], args := [d] }
  | _ => none }
def FnRecWrongFalsely : Prop := fnRecRow.holds Try.pinned (OpenSpec.ofChange fnRecWrong)

/-- 'laws.FnExactHardLoad': WHATEVER THE INPUT: true; the input reads as it did. -/
def fnExactHardLoadSpec : ChangeSpec := { name := "fnExactHardLoad", fn := fun _ => fun
  | [d1, d2] => { results := [.lit (.bool true)], args := [d1, d2] }
  | _ => none }
def fnExactHardLoadRow : OpenClaim := { program := "ytnjpfllmcmomoaa", sum := "9d49c21aa179da70c632fd130a37d4719350d8f344a3f2b7259c218bf26623c4", func := "loop.example/g00106/laws.FnExactHardLoad", spec := "fnExactHardLoad", unfollowed := true, recurses := true, apart := false }
def FnExactHardLoadSaid : Prop := fnExactHardLoadRow.holds Try.pinned (OpenSpec.ofChange fnExactHardLoadSpec)

/-- ITS FALSE NEIGHBOUR: 'it returns false'. Refute it at one input. -/
def fnExactHardLoadWrong : ChangeSpec := { name := "fnExactHardLoad", fn := fun _ => fun
  | [d1, d2] => { results := [.lit (.bool false)], args := [d1, d2] }
  | _ => none }
def FnExactHardLoadWrongFalsely : Prop := fnExactHardLoadRow.holds Try.pinned (OpenSpec.ofChange fnExactHardLoadWrong)

/- THE SECOND FORM. 'bulk': how many values and letters a reading holds, each counted each time it is reached (what is shared counts as often as it is met; a slice's spare places count too). A statement '..UptoSaid' is the law's where the arguments, and the package variables that the reading takes, are together of bulk at most 1048576: NARROWER than '..Said'. Prove '..Said' where nothing that the law and all that it calls make is longer than what came in: it says more and counts as full. Else prove '..UptoSaid'. A law counts once. -/
mutual
def uptoBulk {H : Type} : DataW H → Nat
  | .lit (.string bytes) => bytes.length + 1
  | .lit _ => 1
  | .nil => 1
  | .ptr d => uptoBulk d + 1
  | .slice elems spare => uptoBulkAll elems + uptoBulkAll spare + 1
  | .agg parts => uptoBulkAll parts + 1
  | .iface _ d => uptoBulk d + 1
  | .map entries => uptoBulkEntries entries + 1
  | .held _ => 1
def uptoBulkAll {H : Type} : List (DataW H) → Nat
  | [] => 0
  | d :: r => uptoBulk d + uptoBulkAll r
def uptoBulkEntries {H : Type} : List (Lit × DataW H) → Nat
  | [] => 0
  | x :: r => uptoBulkEntry x + uptoBulkEntries r
def uptoBulkEntry {H : Type} : Lit × DataW H → Nat
  | (.string bytes, d) => bytes.length + uptoBulk d + 1
  | (_, d) => uptoBulk d + 1
 end
def uptoSmall : (H : Type) → List (DataW H) → Bool := fun _ ds => decide (uptoBulkAll ds ≤ 1048576)
def OpenSpec.upto (s : _root_.Go.ChangeSpec) : _root_.Go.OpenSpec := { _root_.Go.OpenSpec.ofChange s with cond := some uptoSmall }

/-- 'laws.FnHardRun', WHERE WHAT IT READS IS OF BULK AT MOST 1048576: true; the input reads as it did. -/
def fnHardRunUptoRow : OpenClaim := { program := "ytnjpfllmcmomoaa", sum := "9d49c21aa179da70c632fd130a37d4719350d8f344a3f2b7259c218bf26623c4", func := "loop.example/g00106/laws.FnHardRun", spec := "fnHardRun", apart := false, narrowed := true }
def FnHardRunUptoSaid : Prop := fnHardRunUptoRow.holds Try.pinned (OpenSpec.upto fnHardRunSpec)

/-- 'laws.FnCmd', WHERE WHAT IT READS IS OF BULK AT MOST 1048576: true; the input reads as it did. -/
def fnCmdUptoRow : OpenClaim := { program := "ytnjpfllmcmomoaa", sum := "9d49c21aa179da70c632fd130a37d4719350d8f344a3f2b7259c218bf26623c4", func := "loop.example/g00106/laws.FnCmd", spec := "fnCmd", apart := false, narrowed := true }
def FnCmdUptoSaid : Prop := fnCmdUptoRow.holds Try.pinned (OpenSpec.upto fnCmdSpec)

/-- 'laws.FnExactHardApply', WHERE WHAT IT READS IS OF BULK AT MOST 1048576: true; the input reads as it did. -/
def fnExactHardApplyUptoRow : OpenClaim := { program := "ytnjpfllmcmomoaa", sum := "9d49c21aa179da70c632fd130a37d4719350d8f344a3f2b7259c218bf26623c4", func := "loop.example/g00106/laws.FnExactHardApply", spec := "fnExactHardApply", apart := false, narrowed := true }
def FnExactHardApplyUptoSaid : Prop := fnExactHardApplyUptoRow.holds Try.pinned (OpenSpec.upto fnExactHardApplySpec)

/-- 'laws.FnExactDiskAppend', WHERE WHAT IT READS IS OF BULK AT MOST 1048576: true; the input reads as it did. -/
def fnExactDiskAppendUptoRow : OpenClaim := { program := "ytnjpfllmcmomoaa", sum := "9d49c21aa179da70c632fd130a37d4719350d8f344a3f2b7259c218bf26623c4", func := "loop.example/g00106/laws.FnExactDiskAppend", spec := "fnExactDiskAppend", inPlace := ["slices.overlaps[loop.example/g00106/impl.File]"], unfollowed := true, recurses := true, apart := false, narrowed := true }
def FnExactDiskAppendUptoSaid : Prop := fnExactDiskAppendUptoRow.holds Try.pinned (OpenSpec.upto fnExactDiskAppendSpec)

/-- 'laws.FnExactDiskMove', WHERE WHAT IT READS IS OF BULK AT MOST 1048576: true; the input reads as it did. -/
def fnExactDiskMoveUptoRow : OpenClaim := { program := "ytnjpfllmcmomoaa", sum := "9d49c21aa179da70c632fd130a37d4719350d8f344a3f2b7259c218bf26623c4", func := "loop.example/g00106/laws.FnExactDiskMove", spec := "fnExactDiskMove", inPlace := ["slices.overlaps[loop.example/g00106/impl.File]"], unfollowed := true, recurses := true, apart := false, narrowed := true }
def FnExactDiskMoveUptoSaid : Prop := fnExactDiskMoveUptoRow.holds Try.pinned (OpenSpec.upto fnExactDiskMoveSpec)

/-- 'laws.FnFiles', WHERE WHAT IT READS IS OF BULK AT MOST 1048576: true; the input reads as it did. -/
def fnFilesUptoRow : OpenClaim := { program := "ytnjpfllmcmomoaa", sum := "9d49c21aa179da70c632fd130a37d4719350d8f344a3f2b7259c218bf26623c4", func := "loop.example/g00106/laws.FnFiles", spec := "fnFiles", inPlace := ["slices.overlaps[loop.example/g00106/impl.File]"], unfollowed := true, recurses := true, apart := false, narrowed := true }
def FnFilesUptoSaid : Prop := fnFilesUptoRow.holds Try.pinned (OpenSpec.upto fnFilesSpec)

/-- 'laws.FnExactHardOf', WHERE WHAT IT READS IS OF BULK AT MOST 1048576: true; the input reads as it did. -/
def fnExactHardOfUptoRow : OpenClaim := { program := "ytnjpfllmcmomoaa", sum := "9d49c21aa179da70c632fd130a37d4719350d8f344a3f2b7259c218bf26623c4", func := "loop.example/g00106/laws.FnExactHardOf", spec := "fnExactHardOf", apart := false, narrowed := true }
def FnExactHardOfUptoSaid : Prop := fnExactHardOfUptoRow.holds Try.pinned (OpenSpec.upto fnExactHardOfSpec)

/-- 'laws.FnExactJournalMend', WHERE WHAT IT READS IS OF BULK AT MOST 1048576: true; the input reads as it did. -/
def fnExactJournalMendUptoRow : OpenClaim := { program := "ytnjpfllmcmomoaa", sum := "9d49c21aa179da70c632fd130a37d4719350d8f344a3f2b7259c218bf26623c4", func := "loop.example/g00106/laws.FnExactJournalMend", spec := "fnExactJournalMend", unfollowed := true, recurses := true, apart := false, narrowed := true }
def FnExactJournalMendUptoSaid : Prop := fnExactJournalMendUptoRow.holds Try.pinned (OpenSpec.upto fnExactJournalMendSpec)

/-- 'laws.FnExactJournalLate', WHERE WHAT IT READS IS OF BULK AT MOST 1048576: true; the input reads as it did. -/
def fnExactJournalLateUptoRow : OpenClaim := { program := "ytnjpfllmcmomoaa", sum := "9d49c21aa179da70c632fd130a37d4719350d8f344a3f2b7259c218bf26623c4", func := "loop.example/g00106/laws.FnExactJournalLate", spec := "fnExactJournalLate", inPlace := ["slices.overlaps[loop.example/g00106/impl.File]"], unfollowed := true, recurses := true, apart := false, narrowed := true }
def FnExactJournalLateUptoSaid : Prop := fnExactJournalLateUptoRow.holds Try.pinned (OpenSpec.upto fnExactJournalLateSpec)

/-- 'laws.FnExactJournalAdd', WHERE WHAT IT READS IS OF BULK AT MOST 1048576: true; the input reads as it did. -/
def fnExactJournalAddUptoRow : OpenClaim := { program := "ytnjpfllmcmomoaa", sum := "9d49c21aa179da70c632fd130a37d4719350d8f344a3f2b7259c218bf26623c4", func := "loop.example/g00106/laws.FnExactJournalAdd", spec := "fnExactJournalAdd", inPlace := ["slices.overlaps[loop.example/g00106/impl.File]"], unfollowed := true, recurses := true, apart := false, narrowed := true }
def FnExactJournalAddUptoSaid : Prop := fnExactJournalAddUptoRow.holds Try.pinned (OpenSpec.upto fnExactJournalAddSpec)

/-- 'laws.FnRec', WHERE WHAT IT READS IS OF BULK AT MOST 1048576: true; the input reads as it did. -/
def fnRecUptoRow : OpenClaim := { program := "ytnjpfllmcmomoaa", sum := "9d49c21aa179da70c632fd130a37d4719350d8f344a3f2b7259c218bf26623c4", func := "loop.example/g00106/laws.FnRec", spec := "fnRec", apart := false, narrowed := true }
def FnRecUptoSaid : Prop := fnRecUptoRow.holds Try.pinned (OpenSpec.upto fnRecSpec)

/-- 'laws.FnExactHardLoad', WHERE WHAT IT READS IS OF BULK AT MOST 1048576: true; the input reads as it did. -/
def fnExactHardLoadUptoRow : OpenClaim := { program := "ytnjpfllmcmomoaa", sum := "9d49c21aa179da70c632fd130a37d4719350d8f344a3f2b7259c218bf26623c4", func := "loop.example/g00106/laws.FnExactHardLoad", spec := "fnExactHardLoad", unfollowed := true, recurses := true, apart := false, narrowed := true }
def FnExactHardLoadUptoSaid : Prop := fnExactHardLoadUptoRow.holds Try.pinned (OpenSpec.upto fnExactHardLoadSpec)

end Rows
end Go.Proofs.Ytnjpfllmcmomoaa
