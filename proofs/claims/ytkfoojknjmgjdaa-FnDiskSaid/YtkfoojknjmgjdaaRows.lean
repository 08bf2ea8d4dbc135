/-
  No cell of these rows narrows 'for every input' (looked for: loops, veiled, ifaces, maps, wideKeys, modest, calm, conditions, laid).
  DERIVED. THE GIVEN ROWS OF THIS SEAT. 12 by the template 'for every input the law returns true; each argument reads behind the call as it read before'; 0 by the template 'total and deterministic' (their statements: YtkfoojknjmgjdaaTotals.lean).
  GIVEN WITH THE SEED: the statements are not yours to turn. If you find one false, say at which input.
  Laid BY PROGRAM, IN A SANDBOX (cutbox-rows.mjs): the forced cells as the released guide's own fill.sh prints them over the translation fb7ce35b2c70c87b… (all of the seat's roots in one cut). By AI agents, Wed Nov 11 2026. No macro, syntax, notation, axiom, sorry.
-/
import Derived.Test.YtkfoojknjmgjdaaChecked
import GoSem.Claim
import GoSem.ClaimJoined
import GoSem.ClaimMapViews
import Derived.JoinedTies
import Derived.KernelRfl
namespace Go.Proofs.Ytkfoojknjmgjdaa
/- THE CELL 'sum', in the pinned program and in every row, IS THE sha256 OF THE DUMP (.gsa) THAT YtkfoojknjmgjdaaProg.lean LOADS. Nothing in Lean hashes anything: it is a label: what it is worth is what the hold of that sum in a sandbox is worth. -/
noncomputable def Try.pinned : Pinned := { name := "ytkfoojknjmgjdaa", sum := "fb7ce35b2c70c87be9b6f3cec61158598583ba1b6e16b188d2ad06ea261df7b8", checked := Try.checked }
namespace Rows
def none {H : Type} : Left H := { results := [], args := [] }

/-- 'laws.FnExactRollOk': WHATEVER THE INPUT: true; the input reads as it did. -/
def fnExactRollOkSpec : ChangeSpec := { name := "fnExactRollOk", fn := fun _ => fun
  | [d] => { results := [.lit (.bool true)], args := [d] }
  | _ => none }
def fnExactRollOkRow : OpenClaim := { program := "ytkfoojknjmgjdaa", sum := "fb7ce35b2c70c87be9b6f3cec61158598583ba1b6e16b188d2ad06ea261df7b8", func := "loop.example/g00106/laws.FnExactRollOk", spec := "fnExactRollOk", apart := false }
def FnExactRollOkSaid : Prop := fnExactRollOkRow.holds Try.pinned (OpenSpec.ofChange fnExactRollOkSpec)

/-- ITS FALSE NEIGHBOUR: 'it returns false'. Refute it at one input. -/
def fnExactRollOkWrong : ChangeSpec := { name := "fnExactRollOk", fn := fun _ => fun
  | [d] => { results := [.lit (.bool false)], args := [d] }
  | _ => none }
def FnExactRollOkWrongFalsely : Prop := fnExactRollOkRow.holds Try.pinned (OpenSpec.ofChange fnExactRollOkWrong)

/-- 'laws.FnHex': WHATEVER THE INPUT: true; the input reads as it did. -/
def fnHexSpec : ChangeSpec := { name := "fnHex", fn := fun _ => fun
  | [d] => { results := [.lit (.bool true)], args := [d] }
  | _ => none }
def fnHexRow : OpenClaim := { program := "ytkfoojknjmgjdaa", sum := "fb7ce35b2c70c87be9b6f3cec61158598583ba1b6e16b188d2ad06ea261df7b8", func := "loop.example/g00106/laws.FnHex", spec := "fnHex", apart := false }
def FnHexSaid : Prop := fnHexRow.holds Try.pinned (OpenSpec.ofChange fnHexSpec)

/-- ITS FALSE NEIGHBOUR: 'it returns false'. Refute it at one input. -/
def fnHexWrong : ChangeSpec := { name := "fnHex", fn := fun _ => fun
  | [d] => { results := [.lit (.bool false)], args := [d] }
  | _ => none }
def FnHexWrongFalsely : Prop := fnHexRow.holds Try.pinned (OpenSpec.ofChange fnHexWrong)

/-- 'laws.FnExactRecPack': WHATEVER THE INPUT: true; the input reads as it did. -/
def fnExactRecPackSpec : ChangeSpec := { name := "fnExactRecPack", fn := fun _ => fun
  | [d] => { results := [.lit (.bool true)], args := [d] }
  | _ => none }
def fnExactRecPackRow : OpenClaim := { program := "ytkfoojknjmgjdaa", sum := "fb7ce35b2c70c87be9b6f3cec61158598583ba1b6e16b188d2ad06ea261df7b8", func := "loop.example/g00106/laws.FnExactRecPack", spec := "fnExactRecPack", apart := false }
def FnExactRecPackSaid : Prop := fnExactRecPackRow.holds Try.pinned (OpenSpec.ofChange fnExactRecPackSpec)

/-- ITS FALSE NEIGHBOUR: 'it returns false'. Refute it at one input. -/
def fnExactRecPackWrong : ChangeSpec := { name := "fnExactRecPack", fn := fun _ => fun
  | [d] => { results := [.lit (.bool false)], args := [d] }
  | _ => none }
def FnExactRecPackWrongFalsely : Prop := fnExactRecPackRow.holds Try.pinned (OpenSpec.ofChange fnExactRecPackWrong)

/-- 'laws.FnExactDiskSync': WHATEVER THE INPUT: true; the input reads as it did. -/
def fnExactDiskSyncSpec : ChangeSpec := { name := "fnExactDiskSync", fn := fun _ => fun
  | [d1, d2] => { results := [.lit (.bool true)], args := [d1, d2] }
  | _ => none }
def fnExactDiskSyncRow : OpenClaim := { program := "ytkfoojknjmgjdaa", sum := "fb7ce35b2c70c87be9b6f3cec61158598583ba1b6e16b188d2ad06ea261df7b8", func := "loop.example/g00106/laws.FnExactDiskSync", spec := "fnExactDiskSync", unfollowed := true, recurses := true, apart := false }
def FnExactDiskSyncSaid : Prop := fnExactDiskSyncRow.holds Try.pinned (OpenSpec.ofChange fnExactDiskSyncSpec)

/-- ITS FALSE NEIGHBOUR: 'it returns false'. Refute it at one input. -/
def fnExactDiskSyncWrong : ChangeSpec := { name := "fnExactDiskSync", fn := fun _ => fun
  | [d1, d2] => { results := [.lit (.bool false)], args := [d1, d2] }
  | _ => none }
def FnExactDiskSyncWrongFalsely : Prop := fnExactDiskSyncRow.holds Try.pinned (OpenSpec.ofChange fnExactDiskSyncWrong)

/-- 'laws.FnExactDiskCrash': WHATEVER THE INPUT: true; the input reads as it did. -/
def fnExactDiskCrashSpec : ChangeSpec := { name := "fnExactDiskCrash", fn := fun _ => fun
  | [d1, d2] => { results := [.lit (.bool true)], args := [d1, d2] }
  | _ => none }
def fnExactDiskCrashRow : OpenClaim := { program := "ytkfoojknjmgjdaa", sum := "fb7ce35b2c70c87be9b6f3cec61158598583ba1b6e16b188d2ad06ea261df7b8", func := "loop.example/g00106/laws.FnExactDiskCrash", spec := "fnExactDiskCrash", apart := false }
def FnExactDiskCrashSaid : Prop := fnExactDiskCrashRow.holds Try.pinned (OpenSpec.ofChange fnExactDiskCrashSpec)

/-- ITS FALSE NEIGHBOUR: 'it returns false'. Refute it at one input. -/
def fnExactDiskCrashWrong : ChangeSpec := { name := "fnExactDiskCrash", fn := fun _ => fun
  | [d1, d2] => { results := [.lit (.bool false)], args := [d1, d2] }
  | _ => none }
def FnExactDiskCrashWrongFalsely : Prop := fnExactDiskCrashRow.holds Try.pinned (OpenSpec.ofChange fnExactDiskCrashWrong)

/-- 'laws.FnExactDiskCut': WHATEVER THE INPUT: true; the input reads as it did. -/
def fnExactDiskCutSpec : ChangeSpec := { name := "fnExactDiskCut", fn := fun _ => fun
  | [d1, d2, d3] => { results := [.lit (.bool true)], args := [d1, d2, d3] }
  | _ => none }
def fnExactDiskCutRow : OpenClaim := { program := "ytkfoojknjmgjdaa", sum := "fb7ce35b2c70c87be9b6f3cec61158598583ba1b6e16b188d2ad06ea261df7b8", func := "loop.example/g00106/laws.FnExactDiskCut", spec := "fnExactDiskCut", unfollowed := true, recurses := true, apart := false }
def FnExactDiskCutSaid : Prop := fnExactDiskCutRow.holds Try.pinned (OpenSpec.ofChange fnExactDiskCutSpec)

/-- ITS FALSE NEIGHBOUR: 'it returns false'. Refute it at one input. -/
def fnExactDiskCutWrong : ChangeSpec := { name := "fnExactDiskCut", fn := fun _ => fun
  | [d1, d2, d3] => { results := [.lit (.bool false)], args := [d1, d2, d3] }
  | _ => none }
def FnExactDiskCutWrongFalsely : Prop := fnExactDiskCutRow.holds Try.pinned (OpenSpec.ofChange fnExactDiskCutWrong)

/-- 'laws.FnDisk': WHATEVER THE INPUT: true; the input reads as it did. -/
def fnDiskSpec : ChangeSpec := { name := "fnDisk", fn := fun _ => fun
  | [d] => { results := [.lit (.bool true)], args := [d] }
  | _ => none }
def fnDiskRow : OpenClaim := { program := "ytkfoojknjmgjdaa", sum := "fb7ce35b2c70c87be9b6f3cec61158598583ba1b6e16b188d2ad06ea261df7b8", func := "loop.example/g00106/laws.FnDisk", spec := "fnDisk", unfollowed := true, recurses := true, apart := false }
def FnDiskSaid : Prop := fnDiskRow.holds Try.pinned (OpenSpec.ofChange fnDiskSpec)

/-- ITS FALSE NEIGHBOUR: 'it returns false'. Refute it at one input. -/
def fnDiskWrong : ChangeSpec := { name := "fnDisk", fn := fun _ => fun
  | [d] => { results := [.lit (.bool false)], args := [d] }
  | _ => none }
def FnDiskWrongFalsely : Prop := fnDiskRow.holds Try.pinned (OpenSpec.ofChange fnDiskWrong)

/-- 'laws.FnSyncs': WHATEVER THE INPUT: true; the input reads as it did. -/
def fnSyncsSpec : ChangeSpec := { name := "fnSyncs", fn := fun _ => fun
  | [d] => { results := [.lit (.bool true)], args := [d] }
  | _ => none }
def fnSyncsRow : OpenClaim := { program := "ytkfoojknjmgjdaa", sum := "fb7ce35b2c70c87be9b6f3cec61158598583ba1b6e16b188d2ad06ea261df7b8", func := "loop.example/g00106/laws.FnSyncs", spec := "fnSyncs", unfollowed := true, recurses := true, apart := false }
def FnSyncsSaid : Prop := fnSyncsRow.holds Try.pinned (OpenSpec.ofChange fnSyncsSpec)

/-- ITS FALSE NEIGHBOUR: 'it returns false'. Refute it at one input. -/
def fnSyncsWrong : ChangeSpec := { name := "fnSyncs", fn := fun _ => fun
  | [d] => { results := [.lit (.bool false)], args := [d] }
  | _ => none }
def FnSyncsWrongFalsely : Prop := fnSyncsRow.holds Try.pinned (OpenSpec.ofChange fnSyncsWrong)

/-- 'laws.FnExactRecRead': WHATEVER THE INPUT: true; the input reads as it did. -/
def fnExactRecReadSpec : ChangeSpec := { name := "fnExactRecRead", fn := fun _ => fun
  | [d] => { results := [.lit (.bool true)], args := [d] }
  | _ => none }
def fnExactRecReadRow : OpenClaim := { program := "ytkfoojknjmgjdaa", sum := "fb7ce35b2c70c87be9b6f3cec61158598583ba1b6e16b188d2ad06ea261df7b8", func := "loop.example/g00106/laws.FnExactRecRead", spec := "fnExactRecRead", apart := false }
def FnExactRecReadSaid : Prop := fnExactRecReadRow.holds Try.pinned (OpenSpec.ofChange fnExactRecReadSpec)

/-- ITS FALSE NEIGHBOUR: 'it returns false'. Refute it at one input. -/
def fnExactRecReadWrong : ChangeSpec := { name := "fnExactRecRead", fn := fun _ => fun
  | [d] => { results := [.lit (.bool false)], args := [d] }
  | _ => none }
def FnExactRecReadWrongFalsely : Prop := fnExactRecReadRow.holds Try.pinned (OpenSpec.ofChange fnExactRecReadWrong)

/-- 'laws.FnExactRollLacks': WHATEVER THE INPUT: true; the input reads as it did. -/
def fnExactRollLacksSpec : ChangeSpec := { name := "fnExactRollLacks", fn := fun _ => fun
  | [d1, d2] => { results := [.lit (.bool true)], args := [d1, d2] }
  | _ => none }
def fnExactRollLacksRow : OpenClaim := { program := "ytkfoojknjmgjdaa", sum := "fb7ce35b2c70c87be9b6f3cec61158598583ba1b6e16b188d2ad06ea261df7b8", func := "loop.example/g00106/laws.FnExactRollLacks", spec := "fnExactRollLacks", apart := false }
def FnExactRollLacksSaid : Prop := fnExactRollLacksRow.holds Try.pinned (OpenSpec.ofChange fnExactRollLacksSpec)

/-- ITS FALSE NEIGHBOUR: 'it returns false'. Refute it at one input. -/
def fnExactRollLacksWrong : ChangeSpec := { name := "fnExactRollLacks", fn := fun _ => fun
  | [d1, d2] => { results := [.lit (.bool false)], args := [d1, d2] }
  | _ => none }
def FnExactRollLacksWrongFalsely : Prop := fnExactRollLacksRow.holds Try.pinned (OpenSpec.ofChange fnExactRollLacksWrong)

/-- 'laws.FnExactRollFind': WHATEVER THE INPUT: true; the input reads as it did. -/
def fnExactRollFindSpec : ChangeSpec := { name := "fnExactRollFind", fn := fun _ => fun
  | [d1, d2] => { results := [.lit (.bool true)], args := [d1, d2] }
  | _ => none }
def fnExactRollFindRow : OpenClaim := { program := "ytkfoojknjmgjdaa", sum := "fb7ce35b2c70c87be9b6f3cec61158598583ba1b6e16b188d2ad06ea261df7b8", func := "loop.example/g00106/laws.FnExactRollFind", spec := "fnExactRollFind", unfollowed := true, recurses := true, apart := false }
def FnExactRollFindSaid : Prop := fnExactRollFindRow.holds Try.pinned (OpenSpec.ofChange fnExactRollFindSpec)

/-- ITS FALSE NEIGHBOUR: 'it returns false'. Refute it at one input. -/
def fnExactRollFindWrong : ChangeSpec := { name := "fnExactRollFind", fn := fun _ => fun
  | [d1, d2] => { results := [.lit (.bool false)], args := [d1, d2] }
  | _ => none }
def FnExactRollFindWrongFalsely : Prop := fnExactRollFindRow.holds Try.pinned (OpenSpec.ofChange fnExactRollFindWrong)

/-- 'laws.FnExactJournalRead': WHATEVER THE INPUT: true; the input reads as it did. -/
def fnExactJournalReadSpec : ChangeSpec := { name := "fnExactJournalRead", fn := fun _ => fun
  | [d1, d2] => { results := [.lit (.bool true)], args := [d1, d2] }
  | _ => none }
def fnExactJournalReadRow : OpenClaim := { program := "ytkfoojknjmgjdaa", sum := "fb7ce35b2c70c87be9b6f3cec61158598583ba1b6e16b188d2ad06ea261df7b8", func := "loop.example/g00106/laws.FnExactJournalRead", spec := "fnExactJournalRead", unfollowed := true, recurses := true, apart := false }
def FnExactJournalReadSaid : Prop := fnExactJournalReadRow.holds Try.pinned (OpenSpec.ofChange fnExactJournalReadSpec)

/-- ITS FALSE NEIGHBOUR: 'it returns false'. Refute it at one input. -/
def fnExactJournalReadWrong : ChangeSpec := { name := "fnExactJournalRead", fn := fun _ => fun
  | [d1, d2] => { results := [.lit (.bool false)], args := [d1, d2] }
  | _ => none }
def FnExactJournalReadWrongFalsely : Prop := fnExactJournalReadRow.holds Try.pinned (OpenSpec.ofChange fnExactJournalReadWrong)

/- THE SECOND FORM. 'bulk': how many values and letters a reading holds, each counted each time it is reached (what is shared counts as often as it is met; a slice's spare places count too). A statement '..UptoSaid' is the law's where the arguments, and the package variables that the reading takes, are together of bulk at most 1048576: NARROWER than '..Said'. Prove '..Said' where nothing that the law and all that it calls make is longer than what came in: it says more and counts as full. Else prove '..UptoSaid'. A law counts once. -/
mutual
def uptoBulk {H : Type} : DataW H → Nat
  | .lit (.string bytes) => bytes.length + 1
  | .lit _ => 1
  | .nil => 1
  | .ptr d => uptoBulk d + 1
  | .slice elems spare => uptoBulkAll elems + uptoBulkAll spare + 1
  | .agg parts => uptoBulkAll parts + 1
  | .iface _ d => uptoBulk d + 1
  | .map entries => uptoBulkEntries entries + 1
  | .held _ => 1
def uptoBulkAll {H : Type} : List (DataW H) → Nat
  | [] => 0
  | d :: r => uptoBulk d + uptoBulkAll r
def uptoBulkEntries {H : Type} : List (Lit × DataW H) → Nat
  | [] => 0
  | x :: r => uptoBulkEntry x + uptoBulkEntries r
def uptoBulkEntry {H : Type} : Lit × DataW H → Nat
  | (.string bytes, d) => bytes.length + uptoBulk d + 1
  | (_, d) => uptoBulk d + 1
 end
def uptoSmall : (H : Type) → List (DataW H) → Bool := fun _ ds => decide (uptoBulkAll ds ≤ 1048576)
def OpenSpec.upto (s : _root_.Go.ChangeSpec) : _root_.Go.OpenSpec := { _root_.Go.OpenSpec.ofChange s with cond := some uptoSmall }

/-- 'laws.FnExactRollOk', WHERE WHAT IT READS IS OF BULK AT MOST 1048576: true; the input reads as it did. -/
def fnExactRollOkUptoRow : OpenClaim := { program := "ytkfoojknjmgjdaa", sum := "fb7ce35b2c70c87be9b6f3cec61158598583ba1b6e16b188d2ad06ea261df7b8", func := "loop.example/g00106/laws.FnExactRollOk", spec := "fnExactRollOk", apart := false, narrowed := true }
def FnExactRollOkUptoSaid : Prop := fnExactRollOkUptoRow.holds Try.pinned (OpenSpec.upto fnExactRollOkSpec)

/-- 'laws.FnHex', WHERE WHAT IT READS IS OF BULK AT MOST 1048576: true; the input reads as it did. -/
def fnHexUptoRow : OpenClaim := { program := "ytkfoojknjmgjdaa", sum := "fb7ce35b2c70c87be9b6f3cec61158598583ba1b6e16b188d2ad06ea261df7b8", func := "loop.example/g00106/laws.FnHex", spec := "fnHex", apart := false, narrowed := true }
def FnHexUptoSaid : Prop := fnHexUptoRow.holds Try.pinned (OpenSpec.upto fnHexSpec)

/-- 'laws.FnExactRecPack', WHERE WHAT IT READS IS OF BULK AT MOST 1048576: true; the input reads as it did. -/
def fnExactRecPackUptoRow : OpenClaim := { program := "ytkfoojknjmgjdaa", sum := "fb7ce35b2c70c87be9b6f3cec61158598583ba1b6e16b188d2ad06ea261df7b8", func := "loop.example/g00106/laws.FnExactRecPack", spec := "fnExactRecPack", apart := false, narrowed := true }
def FnExactRecPackUptoSaid : Prop := fnExactRecPackUptoRow.holds Try.pinned (OpenSpec.upto fnExactRecPackSpec)

/-- 'laws.FnExactDiskSync', WHERE WHAT IT READS IS OF BULK AT MOST 1048576: true; the input reads as it did. -/
def fnExactDiskSyncUptoRow : OpenClaim := { program := "ytkfoojknjmgjdaa", sum := "fb7ce35b2c70c87be9b6f3cec61158598583ba1b6e16b188d2ad06ea261df7b8", func := "loop.example/g00106/laws.FnExactDiskSync", spec := "fnExactDiskSync", unfollowed := true, recurses := true, apart := false, narrowed := true }
def FnExactDiskSyncUptoSaid : Prop := fnExactDiskSyncUptoRow.holds Try.pinned (OpenSpec.upto fnExactDiskSyncSpec)

/-- 'laws.FnExactDiskCrash', WHERE WHAT IT READS IS OF BULK AT MOST 1048576: true; the input reads as it did. -/
def fnExactDiskCrashUptoRow : OpenClaim := { program := "ytkfoojknjmgjdaa", sum := "fb7ce35b2c70c87be9b6f3cec61158598583ba1b6e16b188d2ad06ea261df7b8", func := "loop.example/g00106/laws.FnExactDiskCrash", spec := "fnExactDiskCrash", apart := false, narrowed := true }
def FnExactDiskCrashUptoSaid : Prop := fnExactDiskCrashUptoRow.holds Try.pinned (OpenSpec.upto fnExactDiskCrashSpec)

/-- 'laws.FnExactDiskCut', WHERE WHAT IT READS IS OF BULK AT MOST 1048576: true; the input reads as it did. -/
def fnExactDiskCutUptoRow : OpenClaim := { program := "ytkfoojknjmgjdaa", sum := "fb7ce35b2c70c87be9b6f3cec61158598583ba1b6e16b188d2ad06ea261df7b8", func := "loop.example/g00106/laws.FnExactDiskCut", spec := "fnExactDiskCut", unfollowed := true, recurses := true, apart := false, narrowed := true }
def FnExactDiskCutUptoSaid : Prop := fnExactDiskCutUptoRow.holds Try.pinned (OpenSpec.upto fnExactDiskCutSpec)

/-- 'laws.FnDisk', WHERE WHAT IT READS IS OF BULK AT MOST 1048576: true; the input reads as it did. -/
def fnDiskUptoRow : OpenClaim := { program := "ytkfoojknjmgjdaa", sum := "fb7ce35b2c70c87be9b6f3cec61158598583ba1b6e16b188d2ad06ea261df7b8", func := "loop.example/g00106/laws.FnDisk", spec := "fnDisk", unfollowed := true, recurses := true, apart := false, narrowed := true }
def FnDiskUptoSaid : Prop := fnDiskUptoRow.holds Try.pinned (OpenSpec.upto fnDiskSpec)

/-- 'laws.FnSyncs', WHERE WHAT IT READS IS OF BULK AT MOST 1048576: true; the input reads as it did. -/
def fnSyncsUptoRow : OpenClaim := { program := "ytkfoojknjmgjdaa", sum := "fb7ce35b2c70c87be9b6f3cec61158598583ba1b6e16b188d2ad06ea261df7b8", func := "loop.example/g00106/laws.FnSyncs", spec := "fnSyncs", unfollowed := true, recurses := true, apart := false, narrowed := true }
def FnSyncsUptoSaid : Prop := fnSyncsUptoRow.holds Try.pinned (OpenSpec.upto fnSyncsSpec)

/-- 'laws.FnExactRecRead', WHERE WHAT IT READS IS OF BULK AT MOST 1048576: true; the input reads as it did. -/
def fnExactRecReadUptoRow : OpenClaim := { program := "ytkfoojknjmgjdaa", sum := "fb7ce35b2c70c87be9b6f3cec61158598583ba1b6e16b188d2ad06ea261df7b8", func := "loop.example/g00106/laws.FnExactRecRead", spec := "fnExactRecRead", apart := false, narrowed := true }
def FnExactRecReadUptoSaid : Prop := fnExactRecReadUptoRow.holds Try.pinned (OpenSpec.upto fnExactRecReadSpec)

/-- 'laws.FnExactRollLacks', WHERE WHAT IT READS IS OF BULK AT MOST 1048576: true; the input reads as it did. -/
def fnExactRollLacksUptoRow : OpenClaim := { program := "ytkfoojknjmgjdaa", sum := "fb7ce35b2c70c87be9b6f3cec61158598583ba1b6e16b188d2ad06ea261df7b8", func := "loop.example/g00106/laws.FnExactRollLacks", spec := "fnExactRollLacks", apart := false, narrowed := true }
def FnExactRollLacksUptoSaid : Prop := fnExactRollLacksUptoRow.holds Try.pinned (OpenSpec.upto fnExactRollLacksSpec)

/-- 'laws.FnExactRollFind', WHERE WHAT IT READS IS OF BULK AT MOST 1048576: true; the input reads as it did. -/
def fnExactRollFindUptoRow : OpenClaim := { program := "ytkfoojknjmgjdaa", sum := "fb7ce35b2c70c87be9b6f3cec61158598583ba1b6e16b188d2ad06ea261df7b8", func := "loop.example/g00106/laws.FnExactRollFind", spec := "fnExactRollFind", unfollowed := true, recurses := true, apart := false, narrowed := true }
def FnExactRollFindUptoSaid : Prop := fnExactRollFindUptoRow.holds Try.pinned (OpenSpec.upto fnExactRollFindSpec)

/-- 'laws.FnExactJournalRead', WHERE WHAT IT READS IS OF BULK AT MOST 1048576: true; the input reads as it did. -/
def fnExactJournalReadUptoRow : OpenClaim := { program := "ytkfoojknjmgjdaa", sum := "fb7ce35b2c70c87be9b6f3cec61158598583ba1b6e16b188d2ad06ea261df7b8", func := "loop.example/g00106/laws.FnExactJournalRead", spec := "fnExactJournalRead", unfollowed := true, recurses := true, apart := false, narrowed := true }
def FnExactJournalReadUptoSaid : Prop := fnExactJournalReadUptoRow.holds Try.pinned (OpenSpec.upto fnExactJournalReadSpec)

end Rows
end Go.Proofs.Ytkfoojknjmgjdaa
