/-
  No cell of these rows narrows 'for every input' (looked for: loops, veiled, ifaces, maps, wideKeys, modest, calm, conditions, laid).
  DERIVED. THE GIVEN ROWS OF THIS SEAT. 12 by the template 'for every input the law returns true; each argument reads behind the call as it read before'; 0 by the template 'total and deterministic' (their statements: YthllconiffponaaTotals.lean).
  GIVEN WITH THE SEED: the statements are not yours to turn. If you find one false, say at which input.
  Laid BY PROGRAM, IN A SANDBOX (cutbox-rows.mjs): the forced cells as the released guide's own fill.sh prints them over the translation 37771900e8ab64a0… (all of the seat's roots in one cut). By AI agents, Wed Nov 11 2026. No macro, syntax, notation, axiom, sorry.
-/
import Derived.Test.YthllconiffponaaChecked
import GoSem.Claim
import GoSem.ClaimJoined
import GoSem.ClaimMapViews
import Derived.JoinedTies
import Derived.KernelRfl
namespace Go.Proofs.Ythllconiffponaa
/- THE CELL 'sum', in the pinned program and in every row, IS THE sha256 OF THE DUMP (.gsa) THAT YthllconiffponaaProg.lean LOADS. Nothing in Lean hashes anything: it is a label: what it is worth is what the hold of that sum in a sandbox is worth. -/
noncomputable def Try.pinned : Pinned := { name := "ythllconiffponaa", sum := "37771900e8ab64a0a0c7c9a2f9465e9c2ccbf1128bbcbc567f99de730b5eae0a", checked := Try.checked }
namespace Rows
def none {H : Type} : Left H := { results := [], args := [] }

/-- 'laws.FnExactConstants': WHATEVER THE INPUT: true; the input reads as it did. -/
def fnExactConstantsSpec : ChangeSpec := { name := "fnExactConstants", fn := fun _ => fun
  | [] => { results := [.lit (.bool true)], args := [] }
  | _ => none }
def fnExactConstantsRow : OpenClaim := { program := "ythllconiffponaa", sum := "37771900e8ab64a0a0c7c9a2f9465e9c2ccbf1128bbcbc567f99de730b5eae0a", func := "loop.example/g00106/laws.FnExactConstants", spec := "fnExactConstants", apart := false }
def FnExactConstantsSaid : Prop := fnExactConstantsRow.holds Try.pinned (OpenSpec.ofChange fnExactConstantsSpec)

/-- ITS FALSE NEIGHBOUR: 'it returns false'. Refute it at one input. -/
def fnExactConstantsWrong : ChangeSpec := { name := "fnExactConstants", fn := fun _ => fun
  | [] => { results := [.lit (.bool false)], args := [] }
  | _ => none }
def FnExactConstantsWrongFalsely : Prop := fnExactConstantsRow.holds Try.pinned (OpenSpec.ofChange fnExactConstantsWrong)

/-- 'laws.FnExactSum': WHATEVER THE INPUT: true; the input reads as it did. -/
def fnExactSumSpec : ChangeSpec := { name := "fnExactSum", fn := fun _ => fun
  | [d] => { results := [.lit (.bool true)], args := [d] }
  | _ => none }
def fnExactSumRow : OpenClaim := { program := "ythllconiffponaa", sum := "37771900e8ab64a0a0c7c9a2f9465e9c2ccbf1128bbcbc567f99de730b5eae0a", func := "loop.example/g00106/laws.FnExactSum", spec := "fnExactSum", apart := false }
def FnExactSumSaid : Prop := fnExactSumRow.holds Try.pinned (OpenSpec.ofChange fnExactSumSpec)

/-- ITS FALSE NEIGHBOUR: 'it returns false'. Refute it at one input. -/
def fnExactSumWrong : ChangeSpec := { name := "fnExactSum", fn := fun _ => fun
  | [d] => { results := [.lit (.bool false)], args := [d] }
  | _ => none }
def FnExactSumWrongFalsely : Prop := fnExactSumRow.holds Try.pinned (OpenSpec.ofChange fnExactSumWrong)

/-- 'laws.FnExactHexOf': WHATEVER THE INPUT: true; the input reads as it did. -/
def fnExactHexOfSpec : ChangeSpec := { name := "fnExactHexOf", fn := fun _ => fun
  | [d] => { results := [.lit (.bool true)], args := [d] }
  | _ => none }
def fnExactHexOfRow : OpenClaim := { program := "ythllconiffponaa", sum := "37771900e8ab64a0a0c7c9a2f9465e9c2ccbf1128bbcbc567f99de730b5eae0a", func := "loop.example/g00106/laws.FnExactHexOf", spec := "fnExactHexOf", apart := false }
def FnExactHexOfSaid : Prop := fnExactHexOfRow.holds Try.pinned (OpenSpec.ofChange fnExactHexOfSpec)

/-- ITS FALSE NEIGHBOUR: 'it returns false'. Refute it at one input. -/
def fnExactHexOfWrong : ChangeSpec := { name := "fnExactHexOf", fn := fun _ => fun
  | [d] => { results := [.lit (.bool false)], args := [d] }
  | _ => none }
def FnExactHexOfWrongFalsely : Prop := fnExactHexOfRow.holds Try.pinned (OpenSpec.ofChange fnExactHexOfWrong)

/-- 'laws.FnExactPutNum': WHATEVER THE INPUT: true; the input reads as it did. -/
def fnExactPutNumSpec : ChangeSpec := { name := "fnExactPutNum", fn := fun _ => fun
  | [d] => { results := [.lit (.bool true)], args := [d] }
  | _ => none }
def fnExactPutNumRow : OpenClaim := { program := "ythllconiffponaa", sum := "37771900e8ab64a0a0c7c9a2f9465e9c2ccbf1128bbcbc567f99de730b5eae0a", func := "loop.example/g00106/laws.FnExactPutNum", spec := "fnExactPutNum", apart := false }
def FnExactPutNumSaid : Prop := fnExactPutNumRow.holds Try.pinned (OpenSpec.ofChange fnExactPutNumSpec)

/-- ITS FALSE NEIGHBOUR: 'it returns false'. Refute it at one input. -/
def fnExactPutNumWrong : ChangeSpec := { name := "fnExactPutNum", fn := fun _ => fun
  | [d] => { results := [.lit (.bool false)], args := [d] }
  | _ => none }
def FnExactPutNumWrongFalsely : Prop := fnExactPutNumRow.holds Try.pinned (OpenSpec.ofChange fnExactPutNumWrong)

/-- 'laws.FnExactGetNum': WHATEVER THE INPUT: true; the input reads as it did. -/
def fnExactGetNumSpec : ChangeSpec := { name := "fnExactGetNum", fn := fun _ => fun
  | [d1, d2] => { results := [.lit (.bool true)], args := [d1, d2] }
  | _ => none }
def fnExactGetNumRow : OpenClaim := { program := "ythllconiffponaa", sum := "37771900e8ab64a0a0c7c9a2f9465e9c2ccbf1128bbcbc567f99de730b5eae0a", func := "loop.example/g00106/laws.FnExactGetNum", spec := "fnExactGetNum", apart := false }
def FnExactGetNumSaid : Prop := fnExactGetNumRow.holds Try.pinned (OpenSpec.ofChange fnExactGetNumSpec)

/-- ITS FALSE NEIGHBOUR: 'it returns false'. Refute it at one input. -/
def fnExactGetNumWrong : ChangeSpec := { name := "fnExactGetNum", fn := fun _ => fun
  | [d1, d2] => { results := [.lit (.bool false)], args := [d1, d2] }
  | _ => none }
def FnExactGetNumWrongFalsely : Prop := fnExactGetNumRow.holds Try.pinned (OpenSpec.ofChange fnExactGetNumWrong)

/-- 'laws.FnExactCmdOk': WHATEVER THE INPUT: true; the input reads as it did. -/
def fnExactCmdOkSpec : ChangeSpec := { name := "fnExactCmdOk", fn := fun _ => fun
  | [d] => { results := [.lit (.bool true)], args := [d] }
  | _ => none }
def fnExactCmdOkRow : OpenClaim := { program := "ythllconiffponaa", sum := "37771900e8ab64a0a0c7c9a2f9465e9c2ccbf1128bbcbc567f99de730b5eae0a", func := "loop.example/g00106/laws.FnExactCmdOk", spec := "fnExactCmdOk", apart := false }
def FnExactCmdOkSaid : Prop := fnExactCmdOkRow.holds Try.pinned (OpenSpec.ofChange fnExactCmdOkSpec)

/-- ITS FALSE NEIGHBOUR: 'it returns false'. Refute it at one input. -/
def fnExactCmdOkWrong : ChangeSpec := { name := "fnExactCmdOk", fn := fun _ => fun
  | [d] => { results := [.lit (.bool false)], args := [d] }
  | _ => none }
def FnExactCmdOkWrongFalsely : Prop := fnExactCmdOkRow.holds Try.pinned (OpenSpec.ofChange fnExactCmdOkWrong)

/-- 'laws.FnJournal': WHATEVER THE INPUT: true; the input reads as it did. -/
def fnJournalSpec : ChangeSpec := { name := "fnJournal", fn := fun _ => fun
  | [d] => { results := [.lit (.bool true)], args := [d] }
  | _ => none }
def fnJournalRow : OpenClaim := { program := "ythllconiffponaa", sum := "37771900e8ab64a0a0c7c9a2f9465e9c2ccbf1128bbcbc567f99de730b5eae0a", func := "loop.example/g00106/laws.FnJournal", spec := "fnJournal", inPlace := ["slices.overlaps[loop.example/g00106/impl.File]"], unfollowed := true, recurses := true, apart := false }
def FnJournalSaid : Prop := fnJournalRow.holds Try.pinned (OpenSpec.ofChange fnJournalSpec)

/-- ITS FALSE NEIGHBOUR: 'it returns false'. Refute it at one input. -/
def fnJournalWrong : ChangeSpec := { name := "fnJournal", fn := fun _ => fun
  | [d] => { results := [.lit (.bool false)], args := [d] }
  | _ => none }
def FnJournalWrongFalsely : Prop := fnJournalRow.holds Try.pinned (OpenSpec.ofChange fnJournalWrong)

/-- 'laws.FnExactPutText': WHATEVER THE INPUT: true; the input reads as it did. -/
def fnExactPutTextSpec : ChangeSpec := { name := "fnExactPutText", fn := fun _ => fun
  | [d] => { results := [.lit (.bool true)], args := [d] }
  | _ => none }
def fnExactPutTextRow : OpenClaim := { program := "ythllconiffponaa", sum := "37771900e8ab64a0a0c7c9a2f9465e9c2ccbf1128bbcbc567f99de730b5eae0a", func := "loop.example/g00106/laws.FnExactPutText", spec := "fnExactPutText", apart := false }
def FnExactPutTextSaid : Prop := fnExactPutTextRow.holds Try.pinned (OpenSpec.ofChange fnExactPutTextSpec)

/-- ITS FALSE NEIGHBOUR: 'it returns false'. Refute it at one input. -/
def fnExactPutTextWrong : ChangeSpec := { name := "fnExactPutText", fn := fun _ => fun
  | [d] => { results := [.lit (.bool false)], args := [d] }
  | _ => none }
def FnExactPutTextWrongFalsely : Prop := fnExactPutTextRow.holds Try.pinned (OpenSpec.ofChange fnExactPutTextWrong)

/-- 'laws.FnExactFromHex': WHATEVER THE INPUT: true; the input reads as it did. -/
def fnExactFromHexSpec : ChangeSpec := { name := "fnExactFromHex", fn := fun _ => fun
  | [d] => { results := [.lit (.bool true)], args := [d] }
  | _ => none }
def fnExactFromHexRow : OpenClaim := { program := "ythllconiffponaa", sum := "37771900e8ab64a0a0c7c9a2f9465e9c2ccbf1128bbcbc567f99de730b5eae0a", func := "loop.example/g00106/laws.FnExactFromHex", spec := "fnExactFromHex", apart := false }
def FnExactFromHexSaid : Prop := fnExactFromHexRow.holds Try.pinned (OpenSpec.ofChange fnExactFromHexSpec)

/-- ITS FALSE NEIGHBOUR: 'it returns false'. Refute it at one input. -/
def fnExactFromHexWrong : ChangeSpec := { name := "fnExactFromHex", fn := fun _ => fun
  | [d] => { results := [.lit (.bool false)], args := [d] }
  | _ => none }
def FnExactFromHexWrongFalsely : Prop := fnExactFromHexRow.holds Try.pinned (OpenSpec.ofChange fnExactFromHexWrong)

/-- 'laws.FnExactSeal': WHATEVER THE INPUT: true; the input reads as it did. -/
def fnExactSealSpec : ChangeSpec := { name := "fnExactSeal", fn := fun _ => fun
  | [d] => { results := [.lit (.bool true)], args := [d] }
  | _ => none }
def fnExactSealRow : OpenClaim := { program := "ythllconiffponaa", sum := "37771900e8ab64a0a0c7c9a2f9465e9c2ccbf1128bbcbc567f99de730b5eae0a", func := "loop.example/g00106/laws.FnExactSeal", spec := "fnExactSeal", apart := false }
def FnExactSealSaid : Prop := fnExactSealRow.holds Try.pinned (OpenSpec.ofChange fnExactSealSpec)

/-- ITS FALSE NEIGHBOUR: 'it returns false'. Refute it at one input. -/
def fnExactSealWrong : ChangeSpec := { name := "fnExactSeal", fn := fun _ => fun
  | [d] => { results := [.lit (.bool false)], args := [d] }
  | _ => none }
def FnExactSealWrongFalsely : Prop := fnExactSealRow.holds Try.pinned (OpenSpec.ofChange fnExactSealWrong)

/-- 'laws.FnExactGetText': WHATEVER THE INPUT: true; the input reads as it did. -/
def fnExactGetTextSpec : ChangeSpec := { name := "fnExactGetText", fn := fun _ => fun
  | [d1, d2] => { results := [.lit (.bool true)], args := [d1, d2] }
  | _ => none }
def fnExactGetTextRow : OpenClaim := { program := "ythllconiffponaa", sum := "37771900e8ab64a0a0c7c9a2f9465e9c2ccbf1128bbcbc567f99de730b5eae0a", func := "loop.example/g00106/laws.FnExactGetText", spec := "fnExactGetText", apart := false }
def FnExactGetTextSaid : Prop := fnExactGetTextRow.holds Try.pinned (OpenSpec.ofChange fnExactGetTextSpec)

/-- ITS FALSE NEIGHBOUR: 'it returns false'. Refute it at one input. -/
def fnExactGetTextWrong : ChangeSpec := { name := "fnExactGetText", fn := fun _ => fun
  | [d1, d2] => { results := [.lit (.bool false)], args := [d1, d2] }
  | _ => none }
def FnExactGetTextWrongFalsely : Prop := fnExactGetTextRow.holds Try.pinned (OpenSpec.ofChange fnExactGetTextWrong)

/-- 'laws.FnExactRecOk': WHATEVER THE INPUT: true; the input reads as it did. -/
def fnExactRecOkSpec : ChangeSpec := { name := "fnExactRecOk", fn := fun _ => fun
  | [d] => { results := [.lit (.bool true)], args := [d] }
  | _ => none }
def fnExactRecOkRow : OpenClaim := { program := "ythllconiffponaa", sum := "37771900e8ab64a0a0c7c9a2f9465e9c2ccbf1128bbcbc567f99de730b5eae0a", func := "loop.example/g00106/laws.FnExactRecOk", spec := "fnExactRecOk", apart := false }
def FnExactRecOkSaid : Prop := fnExactRecOkRow.holds Try.pinned (OpenSpec.ofChange fnExactRecOkSpec)

/-- ITS FALSE NEIGHBOUR: 'it returns false'. Refute it at one input. -/
def fnExactRecOkWrong : ChangeSpec := { name := "fnExactRecOk", fn := fun _ => fun
  | [d] => { results := [.lit (.bool false)], args := [d] }
  | _ => none }
def FnExactRecOkWrongFalsely : Prop := fnExactRecOkRow.holds Try.pinned (OpenSpec.ofChange fnExactRecOkWrong)

/- THE SECOND FORM. 'bulk': how many values and letters a reading holds, each counted each time it is reached (what is shared counts as often as it is met; a slice's spare places count too). A statement '..UptoSaid' is the law's where the arguments, and the package variables that the reading takes, are together of bulk at most 1048576: NARROWER than '..Said'. Prove '..Said' where nothing that the law and all that it calls make is longer than what came in: it says more and counts as full. Else prove '..UptoSaid'. A law counts once. -/
mutual
def uptoBulk {H : Type} : DataW H → Nat
  | .lit (.string bytes) => bytes.length + 1
  | .lit _ => 1
  | .nil => 1
  | .ptr d => uptoBulk d + 1
  | .slice elems spare => uptoBulkAll elems + uptoBulkAll spare + 1
  | .agg parts => uptoBulkAll parts + 1
  | .iface _ d => uptoBulk d + 1
  | .map entries => uptoBulkEntries entries + 1
  | .held _ => 1
def uptoBulkAll {H : Type} : List (DataW H) → Nat
  | [] => 0
  | d :: r => uptoBulk d + uptoBulkAll r
def uptoBulkEntries {H : Type} : List (Lit × DataW H) → Nat
  | [] => 0
  | x :: r => uptoBulkEntry x + uptoBulkEntries r
def uptoBulkEntry {H : Type} : Lit × DataW H → Nat
  | (.string bytes, d) => bytes.length + uptoBulk d + 1
  | (_, d) => uptoBulk d + 1
 end
def uptoSmall : (H : Type) → List (DataW H) → Bool := fun _ ds => decide (uptoBulkAll ds ≤ 1048576)
def OpenSpec.upto (s : _root_.Go.ChangeSpec) : _root_.Go.OpenSpec := { _root_.Go.OpenSpec.ofChange s with cond := some uptoSmall }

/-- 'laws.FnExactConstants', WHERE WHAT IT READS IS OF BULK AT MOST 1048576: true; the input reads as it did. -/
def fnExactConstantsUptoRow : OpenClaim := { program := "ythllconiffponaa", sum := "37771900e8ab64a0a0c7c9a2f9465e9c2ccbf1128bbcbc567f99de730b5eae0a", func := "loop.example/g00106/laws.FnExactConstants", spec := "fnExactConstants", apart := false, narrowed := true }
def FnExactConstantsUptoSaid : Prop := fnExactConstantsUptoRow.holds Try.pinned (OpenSpec.upto fnExactConstantsSpec)

/-- 'laws.FnExactSum', WHERE WHAT IT READS IS OF BULK AT MOST 1048576: true; the input reads as it did. -/
def fnExactSumUptoRow : OpenClaim := { program := "ythllconiffponaa", sum := "37771900e8ab64a0a0c7c9a2f9465e9c2ccbf1128bbcbc567f99de730b5eae0a", func := "loop.example/g00106/laws.FnExactSum", spec := "fnExactSum", apart := false, narrowed := true }
def FnExactSumUptoSaid : Prop := fnExactSumUptoRow.holds Try.pinned (OpenSpec.upto fnExactSumSpec)

/-- 'laws.FnExactHexOf', WHERE WHAT IT READS IS OF BULK AT MOST 1048576: true; the input reads as it did. -/
def fnExactHexOfUptoRow : OpenClaim := { program := "ythllconiffponaa", sum := "37771900e8ab64a0a0c7c9a2f9465e9c2ccbf1128bbcbc567f99de730b5eae0a", func := "loop.example/g00106/laws.FnExactHexOf", spec := "fnExactHexOf", apart := false, narrowed := true }
def FnExactHexOfUptoSaid : Prop := fnExactHexOfUptoRow.holds Try.pinned (OpenSpec.upto fnExactHexOfSpec)

/-- 'laws.FnExactPutNum', WHERE WHAT IT READS IS OF BULK AT MOST 1048576: true; the input reads as it did. -/
def fnExactPutNumUptoRow : OpenClaim := { program := "ythllconiffponaa", sum := "37771900e8ab64a0a0c7c9a2f9465e9c2ccbf1128bbcbc567f99de730b5eae0a", func := "loop.example/g00106/laws.FnExactPutNum", spec := "fnExactPutNum", apart := false, narrowed := true }
def FnExactPutNumUptoSaid : Prop := fnExactPutNumUptoRow.holds Try.pinned (OpenSpec.upto fnExactPutNumSpec)

/-- 'laws.FnExactGetNum', WHERE WHAT IT READS IS OF BULK AT MOST 1048576: true; the input reads as it did. -/
def fnExactGetNumUptoRow : OpenClaim := { program := "ythllconiffponaa", sum := "37771900e8ab64a0a0c7c9a2f9465e9c2ccbf1128bbcbc567f99de730b5eae0a", func := "loop.example/g00106/laws.FnExactGetNum", spec := "fnExactGetNum", apart := false, narrowed := true }
def FnExactGetNumUptoSaid : Prop := fnExactGetNumUptoRow.holds Try.pinned (OpenSpec.upto fnExactGetNumSpec)

/-- 'laws.FnExactCmdOk', WHERE WHAT IT READS IS OF BULK AT MOST 1048576: true; the input reads as it did. -/
def fnExactCmdOkUptoRow : OpenClaim := { program := "ythllconiffponaa", sum := "37771900e8ab64a0a0c7c9a2f9465e9c2ccbf1128bbcbc567f99de730b5eae0a", func := "loop.example/g00106/laws.FnExactCmdOk", spec := "fnExactCmdOk", apart := false, narrowed := true }
def FnExactCmdOkUptoSaid : Prop := fnExactCmdOkUptoRow.holds Try.pinned (OpenSpec.upto fnExactCmdOkSpec)

/-- 'laws.FnJournal', WHERE WHAT IT READS IS OF BULK AT MOST 1048576: true; the input reads as it did. -/
def fnJournalUptoRow : OpenClaim := { program := "ythllconiffponaa", sum := "37771900e8ab64a0a0c7c9a2f9465e9c2ccbf1128bbcbc567f99de730b5eae0a", func := "loop.example/g00106/laws.FnJournal", spec := "fnJournal", inPlace := ["slices.overlaps[loop.example/g00106/impl.File]"], unfollowed := true, recurses := true, apart := false, narrowed := true }
def FnJournalUptoSaid : Prop := fnJournalUptoRow.holds Try.pinned (OpenSpec.upto fnJournalSpec)

/-- 'laws.FnExactPutText', WHERE WHAT IT READS IS OF BULK AT MOST 1048576: true; the input reads as it did. -/
def fnExactPutTextUptoRow : OpenClaim := { program := "ythllconiffponaa", sum := "37771900e8ab64a0a0c7c9a2f9465e9c2ccbf1128bbcbc567f99de730b5eae0a", func := "loop.example/g00106/laws.FnExactPutText", spec := "fnExactPutText", apart := false, narrowed := true }
def FnExactPutTextUptoSaid : Prop := fnExactPutTextUptoRow.holds Try.pinned (OpenSpec.upto fnExactPutTextSpec)

/-- 'laws.FnExactFromHex', WHERE WHAT IT READS IS OF BULK AT MOST 1048576: true; the input reads as it did. -/
def fnExactFromHexUptoRow : OpenClaim := { program := "ythllconiffponaa", sum := "37771900e8ab64a0a0c7c9a2f9465e9c2ccbf1128bbcbc567f99de730b5eae0a", func := "loop.example/g00106/laws.FnExactFromHex", spec := "fnExactFromHex", apart := false, narrowed := true }
def FnExactFromHexUptoSaid : Prop := fnExactFromHexUptoRow.holds Try.pinned (OpenSpec.upto fnExactFromHexSpec)

/-- 'laws.FnExactSeal', WHERE WHAT IT READS IS OF BULK AT MOST 1048576: true; the input reads as it did. -/
def fnExactSealUptoRow : OpenClaim := { program := "ythllconiffponaa", sum := "37771900e8ab64a0a0c7c9a2f9465e9c2ccbf1128bbcbc567f99de730b5eae0a", func := "loop.example/g00106/laws.FnExactSeal", spec := "fnExactSeal", apart := false, narrowed := true }
def FnExactSealUptoSaid : Prop := fnExactSealUptoRow.holds Try.pinned (OpenSpec.upto fnExactSealSpec)

/-- 'laws.FnExactGetText', WHERE WHAT IT READS IS OF BULK AT MOST 1048576: true; the input reads as it did. -/
def fnExactGetTextUptoRow : OpenClaim := { program := "ythllconiffponaa", sum := "37771900e8ab64a0a0c7c9a2f9465e9c2ccbf1128bbcbc567f99de730b5eae0a", func := "loop.example/g00106/laws.FnExactGetText", spec := "fnExactGetText", apart := false, narrowed := true }
def FnExactGetTextUptoSaid : Prop := fnExactGetTextUptoRow.holds Try.pinned (OpenSpec.upto fnExactGetTextSpec)

/-- 'laws.FnExactRecOk', WHERE WHAT IT READS IS OF BULK AT MOST 1048576: true; the input reads as it did. -/
def fnExactRecOkUptoRow : OpenClaim := { program := "ythllconiffponaa", sum := "37771900e8ab64a0a0c7c9a2f9465e9c2ccbf1128bbcbc567f99de730b5eae0a", func := "loop.example/g00106/laws.FnExactRecOk", spec := "fnExactRecOk", apart := false, narrowed := true }
def FnExactRecOkUptoSaid : Prop := fnExactRecOkUptoRow.holds Try.pinned (OpenSpec.upto fnExactRecOkSpec)

end Rows
end Go.Proofs.Ythllconiffponaa
