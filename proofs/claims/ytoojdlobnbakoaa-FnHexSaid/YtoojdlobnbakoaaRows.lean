/-
  No cell of these rows narrows 'for every input' (looked for: loops, veiled, ifaces, maps, wideKeys, modest, calm, conditions, laid).
  DERIVED. THE GIVEN ROWS OF THIS SEAT. 9 by the template 'for every input the law returns true; each argument reads behind the call as it read before'; 0 by the template 'total and deterministic' (their statements: YtoojdlobnbakoaaTotals.lean).
  GIVEN WITH THE SEED: the statements are not yours to turn. If you find one false, say at which input.
  Laid BY PROGRAM, IN A SANDBOX (cutbox-rows.mjs): the forced cells as the released guide's own fill.sh prints them over the translation db8a5a02ef88e59d… (all of the seat's roots in one cut). By AI agents, Wed Nov 11 2026. No macro, syntax, notation, axiom, sorry.
-/
import Derived.Test.YtoojdlobnbakoaaChecked
import GoSem.Claim
import GoSem.ClaimJoined
import GoSem.ClaimMapViews
import Derived.JoinedTies
import Derived.KernelRfl
namespace Go.Proofs.Ytoojdlobnbakoaa
/- THE CELL 'sum', in the pinned program and in every row, IS THE sha256 OF THE DUMP (.gsa) THAT YtoojdlobnbakoaaProg.lean LOADS. Nothing in Lean hashes anything: it is a label: what it is worth is what the hold of that sum in a sandbox is worth. -/
noncomputable def Try.pinned : Pinned := { name := "ytoojdlobnbakoaa", sum := "db8a5a02ef88e59dfbab00b2d984d1cf19e9f17c17a9cf33a29166575b85b375", checked := Try.checked }
namespace Rows
def none {H : Type} : Left H := { results := [], args := [] }

/-- 'laws.FnJournal': WHATEVER THE INPUT: true; the input reads as it did. -/
def fnJournalSpec : ChangeSpec := { name := "fnJournal", fn := fun _ => fun
  | [d] => { results := [.lit (.bool true)], args := [d] }
  | _ => none }
def fnJournalRow : OpenClaim := { program := "ytoojdlobnbakoaa", sum := "db8a5a02ef88e59dfbab00b2d984d1cf19e9f17c17a9cf33a29166575b85b375", func := "loop.example/g00106/laws.FnJournal", spec := "fnJournal", inPlace := ["slices.overlaps[loop.example/g00106/impl.File]"], unfollowed := true, recurses := true, apart := false }
def FnJournalSaid : Prop := fnJournalRow.holds Try.pinned (OpenSpec.ofChange fnJournalSpec)

/-- ITS FALSE NEIGHBOUR: 'it returns false'. Refute it at one input. -/
def fnJournalWrong : ChangeSpec := { name := "fnJournal", fn := fun _ => fun
  | [d] => { results := [.lit (.bool false)], args := [d] }
  | _ => none }
def FnJournalWrongFalsely : Prop := fnJournalRow.holds Try.pinned (OpenSpec.ofChange fnJournalWrong)

/-- 'laws.FnExactShaText': WHATEVER THE INPUT: true; the input reads as it did. -/
def fnExactShaTextSpec : ChangeSpec := { name := "fnExactShaText", fn := fun _ => fun
  | [d] => { results := [.lit (.bool true)], args := [d] }
  | _ => none }
def fnExactShaTextRow : OpenClaim := { program := "ytoojdlobnbakoaa", sum := "db8a5a02ef88e59dfbab00b2d984d1cf19e9f17c17a9cf33a29166575b85b375", func := "loop.example/g00106/laws.FnExactShaText", spec := "fnExactShaText", apart := false }
def FnExactShaTextSaid : Prop := fnExactShaTextRow.holds Try.pinned (OpenSpec.ofChange fnExactShaTextSpec)

/-- ITS FALSE NEIGHBOUR: 'it returns false'. Refute it at one input. -/
def fnExactShaTextWrong : ChangeSpec := { name := "fnExactShaText", fn := fun _ => fun
  | [d] => { results := [.lit (.bool false)], args := [d] }
  | _ => none }
def FnExactShaTextWrongFalsely : Prop := fnExactShaTextRow.holds Try.pinned (OpenSpec.ofChange fnExactShaTextWrong)

/-- 'laws.FnExactRollNew': WHATEVER THE INPUT: true; the input reads as it did. -/
def fnExactRollNewSpec : ChangeSpec := { name := "fnExactRollNew", fn := fun _ => fun
  | [d] => { results := [.lit (.bool true)], args := [d] }
  | _ => none }
def fnExactRollNewRow : OpenClaim := { program := "ytoojdlobnbakoaa", sum := "db8a5a02ef88e59dfbab00b2d984d1cf19e9f17c17a9cf33a29166575b85b375", func := "loop.example/g00106/laws.FnExactRollNew", spec := "fnExactRollNew", apart := false }
def FnExactRollNewSaid : Prop := fnExactRollNewRow.holds Try.pinned (OpenSpec.ofChange fnExactRollNewSpec)

/-- ITS FALSE NEIGHBOUR: 'it returns false'. Refute it at one input. -/
def fnExactRollNewWrong : ChangeSpec := { name := "fnExactRollNew", fn := fun _ => fun
  | [d] => { results := [.lit (.bool false)], args := [d] }
  | _ => none }
def FnExactRollNewWrongFalsely : Prop := fnExactRollNewRow.holds Try.pinned (OpenSpec.ofChange fnExactRollNewWrong)

/-- 'laws.FnExactSha': WHATEVER THE INPUT: true; the input reads as it did. -/
def fnExactShaSpec : ChangeSpec := { name := "fnExactSha", fn := fun _ => fun
  | [d] => { results := [.lit (.bool true)], args := [d] }
  | _ => none }
def fnExactShaRow : OpenClaim := { program := "ytoojdlobnbakoaa", sum := "db8a5a02ef88e59dfbab00b2d984d1cf19e9f17c17a9cf33a29166575b85b375", func := "loop.example/g00106/laws.FnExactSha", spec := "fnExactSha", apart := false }
def FnExactShaSaid : Prop := fnExactShaRow.holds Try.pinned (OpenSpec.ofChange fnExactShaSpec)

/-- ITS FALSE NEIGHBOUR: 'it returns false'. Refute it at one input. -/
def fnExactShaWrong : ChangeSpec := { name := "fnExactSha", fn := fun _ => fun
  | [d] => { results := [.lit (.bool false)], args := [d] }
  | _ => none }
def FnExactShaWrongFalsely : Prop := fnExactShaRow.holds Try.pinned (OpenSpec.ofChange fnExactShaWrong)

/-- 'laws.FnExactRollOk': WHATEVER THE INPUT: true; the input reads as it did. -/
def fnExactRollOkSpec : ChangeSpec := { name := "fnExactRollOk", fn := fun _ => fun
  | [d] => { results := [.lit (.bool true)], args := [d] }
  | _ => none }
def fnExactRollOkRow : OpenClaim := { program := "ytoojdlobnbakoaa", sum := "db8a5a02ef88e59dfbab00b2d984d1cf19e9f17c17a9cf33a29166575b85b375", func := "loop.example/g00106/laws.FnExactRollOk", spec := "fnExactRollOk", apart := false }
def FnExactRollOkSaid : Prop := fnExactRollOkRow.holds Try.pinned (OpenSpec.ofChange fnExactRollOkSpec)

/-- ITS FALSE NEIGHBOUR: 'it returns false'. Refute it at one input. -/
def fnExactRollOkWrong : ChangeSpec := { name := "fnExactRollOk", fn := fun _ => fun
  | [d] => { results := [.lit (.bool false)], args := [d] }
  | _ => none }
def FnExactRollOkWrongFalsely : Prop := fnExactRollOkRow.holds Try.pinned (OpenSpec.ofChange fnExactRollOkWrong)

/-- 'laws.FnHex': WHATEVER THE INPUT: true; the input reads as it did. -/
def fnHexSpec : ChangeSpec := { name := "fnHex", fn := fun _ => fun
  | [d] => { results := [.lit (.bool true)], args := [d] }
  | _ => none }
def fnHexRow : OpenClaim := { program := "ytoojdlobnbakoaa", sum := "db8a5a02ef88e59dfbab00b2d984d1cf19e9f17c17a9cf33a29166575b85b375", func := "loop.example/g00106/laws.FnHex", spec := "fnHex", apart := false }
def FnHexSaid : Prop := fnHexRow.holds Try.pinned (OpenSpec.ofChange fnHexSpec)

/-- ITS FALSE NEIGHBOUR: 'it returns false'. Refute it at one input. -/
def fnHexWrong : ChangeSpec := { name := "fnHex", fn := fun _ => fun
  | [d] => { results := [.lit (.bool false)], args := [d] }
  | _ => none }
def FnHexWrongFalsely : Prop := fnHexRow.holds Try.pinned (OpenSpec.ofChange fnHexWrong)

/-- 'laws.FnExactRollLacks': WHATEVER THE INPUT: true; the input reads as it did. -/
def fnExactRollLacksSpec : ChangeSpec := { name := "fnExactRollLacks", fn := fun _ => fun
  | [d1, d2] => { results := [.lit (.bool true)], args := [d1, d2] }
  | _ => none }
def fnExactRollLacksRow : OpenClaim := { program := "ytoojdlobnbakoaa", sum := "db8a5a02ef88e59dfbab00b2d984d1cf19e9f17c17a9cf33a29166575b85b375", func := "loop.example/g00106/laws.FnExactRollLacks", spec := "fnExactRollLacks", apart := false }
def FnExactRollLacksSaid : Prop := fnExactRollLacksRow.holds Try.pinned (OpenSpec.ofChange fnExactRollLacksSpec)

/-- ITS FALSE NEIGHBOUR: 'it returns false'. Refute it at one input. -/
def fnExactRollLacksWrong : ChangeSpec := { name := "fnExactRollLacks", fn := fun _ => fun
  | [d1, d2] => { results := [.lit (.bool false)], args := [d1, d2] }
  | _ => none }
def FnExactRollLacksWrongFalsely : Prop := fnExactRollLacksRow.holds Try.pinned (OpenSpec.ofChange fnExactRollLacksWrong)

/-- 'laws.FnExactRollFind': WHATEVER THE INPUT: true; the input reads as it did. -/
def fnExactRollFindSpec : ChangeSpec := { name := "fnExactRollFind", fn := fun _ => fun
  | [d1, d2] => { results := [.lit (.bool true)], args := [d1, d2] }
  | _ => none }
def fnExactRollFindRow : OpenClaim := { program := "ytoojdlobnbakoaa", sum := "db8a5a02ef88e59dfbab00b2d984d1cf19e9f17c17a9cf33a29166575b85b375", func := "loop.example/g00106/laws.FnExactRollFind", spec := "fnExactRollFind", unfollowed := true, recurses := true, apart := false }
def FnExactRollFindSaid : Prop := fnExactRollFindRow.holds Try.pinned (OpenSpec.ofChange fnExactRollFindSpec)

/-- ITS FALSE NEIGHBOUR: 'it returns false'. Refute it at one input. -/
def fnExactRollFindWrong : ChangeSpec := { name := "fnExactRollFind", fn := fun _ => fun
  | [d1, d2] => { results := [.lit (.bool false)], args := [d1, d2] }
  | _ => none }
def FnExactRollFindWrongFalsely : Prop := fnExactRollFindRow.holds Try.pinned (OpenSpec.ofChange fnExactRollFindWrong)

/-- 'laws.FnExactHardSave': WHATEVER THE INPUT: true; the input reads as it did. -/
def fnExactHardSaveSpec : ChangeSpec := { name := "fnExactHardSave", fn := fun _ => fun
  | [d1, d2, d3] => { results := [.lit (.bool true)], args := [d1, d2, d3] }
  | _ => none }
def fnExactHardSaveRow : OpenClaim := { program := "ytoojdlobnbakoaa", sum := "db8a5a02ef88e59dfbab00b2d984d1cf19e9f17c17a9cf33a29166575b85b375", func := "loop.example/g00106/laws.FnExactHardSave", spec := "fnExactHardSave", inPlace := ["slices.overlaps[loop.example/g00106/impl.File]"], unfollowed := true, recurses := true, apart := false }
def FnExactHardSaveSaid : Prop := fnExactHardSaveRow.holds Try.pinned (OpenSpec.ofChange fnExactHardSaveSpec)

/-- ITS FALSE NEIGHBOUR: 'it returns false'. Refute it at one input. -/
def fnExactHardSaveWrong : ChangeSpec := { name := "fnExactHardSave", fn := fun _ => fun
  | [d1, d2, d3] => { results := [.lit (.bool false)], args := [d1, d2, d3] }
  | _ => none }
def FnExactHardSaveWrongFalsely : Prop := fnExactHardSaveRow.holds Try.pinned (OpenSpec.ofChange fnExactHardSaveWrong)

/- THE SECOND FORM. 'bulk': how many values and letters a reading holds, each counted each time it is reached (what is shared counts as often as it is met; a slice's spare places count too). A statement '..UptoSaid' is the law's where the arguments, and the package variables that the reading takes, are together of bulk at most 1048576: NARROWER than '..Said'. Prove '..Said' where nothing that the law and all that it calls make is longer than what came in: it says more and counts as full. Else prove '..UptoSaid'. A law counts once. -/
mutual
def uptoBulk {H : Type} : DataW H → Nat
  | .lit (.string bytes) => bytes.length + 1
  | .lit _ => 1
  | .nil => 1
  | .ptr d => uptoBulk d + 1
  | .slice elems spare => uptoBulkAll elems + uptoBulkAll spare + 1
  | .agg parts => uptoBulkAll parts + 1
  | .iface _ d => uptoBulk d + 1
  | .map entries => uptoBulkEntries entries + 1
  | .held _ => 1
def uptoBulkAll {H : Type} : List (DataW H) → Nat
  | [] => 0
  | d :: r => uptoBulk d + uptoBulkAll r
def uptoBulkEntries {H : Type} : List (Lit × DataW H) → Nat
  | [] => 0
  | x :: r => uptoBulkEntry x + uptoBulkEntries r
def uptoBulkEntry {H : Type} : Lit × DataW H → Nat
  | (.string bytes, d) => bytes.length + uptoBulk d + 1
  | (_, d) => uptoBulk d + 1
 end
def uptoSmall : (H : Type) → List (DataW H) → Bool := fun _ ds => decide (uptoBulkAll ds ≤ 1048576)
def OpenSpec.upto (s : _root_.Go.ChangeSpec) : _root_.Go.OpenSpec := { _root_.Go.OpenSpec.ofChange s with cond := some uptoSmall }

/-- 'laws.FnJournal', WHERE WHAT IT READS IS OF BULK AT MOST 1048576: true; the input reads as it did. -/
def fnJournalUptoRow : OpenClaim := { program := "ytoojdlobnbakoaa", sum := "db8a5a02ef88e59dfbab00b2d984d1cf19e9f17c17a9cf33a29166575b85b375", func := "loop.example/g00106/laws.FnJournal", spec := "fnJournal", inPlace := ["slices.overlaps[loop.example/g00106/impl.File]"], unfollowed := true, recurses := true, apart := false, narrowed := true }
def FnJournalUptoSaid : Prop := fnJournalUptoRow.holds Try.pinned (OpenSpec.upto fnJournalSpec)

/-- 'laws.FnExactShaText', WHERE WHAT IT READS IS OF BULK AT MOST 1048576: true; the input reads as it did. -/
def fnExactShaTextUptoRow : OpenClaim := { program := "ytoojdlobnbakoaa", sum := "db8a5a02ef88e59dfbab00b2d984d1cf19e9f17c17a9cf33a29166575b85b375", func := "loop.example/g00106/laws.FnExactShaText", spec := "fnExactShaText", apart := false, narrowed := true }
def FnExactShaTextUptoSaid : Prop := fnExactShaTextUptoRow.holds Try.pinned (OpenSpec.upto fnExactShaTextSpec)

/-- 'laws.FnExactRollNew', WHERE WHAT IT READS IS OF BULK AT MOST 1048576: true; the input reads as it did. -/
def fnExactRollNewUptoRow : OpenClaim := { program := "ytoojdlobnbakoaa", sum := "db8a5a02ef88e59dfbab00b2d984d1cf19e9f17c17a9cf33a29166575b85b375", func := "loop.example/g00106/laws.FnExactRollNew", spec := "fnExactRollNew", apart := false, narrowed := true }
def FnExactRollNewUptoSaid : Prop := fnExactRollNewUptoRow.holds Try.pinned (OpenSpec.upto fnExactRollNewSpec)

/-- 'laws.FnExactSha', WHERE WHAT IT READS IS OF BULK AT MOST 1048576: true; the input reads as it did. -/
def fnExactShaUptoRow : OpenClaim := { program := "ytoojdlobnbakoaa", sum := "db8a5a02ef88e59dfbab00b2d984d1cf19e9f17c17a9cf33a29166575b85b375", func := "loop.example/g00106/laws.FnExactSha", spec := "fnExactSha", apart := false, narrowed := true }
def FnExactShaUptoSaid : Prop := fnExactShaUptoRow.holds Try.pinned (OpenSpec.upto fnExactShaSpec)

/-- 'laws.FnExactRollOk', WHERE WHAT IT READS IS OF BULK AT MOST 1048576: true; the input reads as it did. -/
def fnExactRollOkUptoRow : OpenClaim := { program := "ytoojdlobnbakoaa", sum := "db8a5a02ef88e59dfbab00b2d984d1cf19e9f17c17a9cf33a29166575b85b375", func := "loop.example/g00106/laws.FnExactRollOk", spec := "fnExactRollOk", apart := false, narrowed := true }
def FnExactRollOkUptoSaid : Prop := fnExactRollOkUptoRow.holds Try.pinned (OpenSpec.upto fnExactRollOkSpec)

/-- 'laws.FnHex', WHERE WHAT IT READS IS OF BULK AT MOST 1048576: true; the input reads as it did. -/
def fnHexUptoRow : OpenClaim := { program := "ytoojdlobnbakoaa", sum := "db8a5a02ef88e59dfbab00b2d984d1cf19e9f17c17a9cf33a29166575b85b375", func := "loop.example/g00106/laws.FnHex", spec := "fnHex", apart := false, narrowed := true }
def FnHexUptoSaid : Prop := fnHexUptoRow.holds Try.pinned (OpenSpec.upto fnHexSpec)

/-- 'laws.FnExactRollLacks', WHERE WHAT IT READS IS OF BULK AT MOST 1048576: true; the input reads as it did. -/
def fnExactRollLacksUptoRow : OpenClaim := { program := "ytoojdlobnbakoaa", sum := "db8a5a02ef88e59dfbab00b2d984d1cf19e9f17c17a9cf33a29166575b85b375", func := "loop.example/g00106/laws.FnExactRollLacks", spec := "fnExactRollLacks", apart := false, narrowed := true }
def FnExactRollLacksUptoSaid : Prop := fnExactRollLacksUptoRow.holds Try.pinned (OpenSpec.upto fnExactRollLacksSpec)

/-- 'laws.FnExactRollFind', WHERE WHAT IT READS IS OF BULK AT MOST 1048576: true; the input reads as it did. -/
def fnExactRollFindUptoRow : OpenClaim := { program := "ytoojdlobnbakoaa", sum := "db8a5a02ef88e59dfbab00b2d984d1cf19e9f17c17a9cf33a29166575b85b375", func := "loop.example/g00106/laws.FnExactRollFind", spec := "fnExactRollFind", unfollowed := true, recurses := true, apart := false, narrowed := true }
def FnExactRollFindUptoSaid : Prop := fnExactRollFindUptoRow.holds Try.pinned (OpenSpec.upto fnExactRollFindSpec)

/-- 'laws.FnExactHardSave', WHERE WHAT IT READS IS OF BULK AT MOST 1048576: true; the input reads as it did. -/
def fnExactHardSaveUptoRow : OpenClaim := { program := "ytoojdlobnbakoaa", sum := "db8a5a02ef88e59dfbab00b2d984d1cf19e9f17c17a9cf33a29166575b85b375", func := "loop.example/g00106/laws.FnExactHardSave", spec := "fnExactHardSave", inPlace := ["slices.overlaps[loop.example/g00106/impl.File]"], unfollowed := true, recurses := true, apart := false, narrowed := true }
def FnExactHardSaveUptoSaid : Prop := fnExactHardSaveUptoRow.holds Try.pinned (OpenSpec.upto fnExactHardSaveSpec)

end Rows
end Go.Proofs.Ytoojdlobnbakoaa
