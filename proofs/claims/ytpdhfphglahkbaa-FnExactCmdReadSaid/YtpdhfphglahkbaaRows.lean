/-
  No cell of these rows narrows 'for every input' (looked for: loops, veiled, ifaces, maps, wideKeys, modest, calm, conditions, laid).
  DERIVED. THE GIVEN ROWS OF THIS SEAT. 12 by the template 'for every input the law returns true; each argument reads behind the call as it read before'; 0 by the template 'total and deterministic' (their statements: YtpdhfphglahkbaaTotals.lean).
  GIVEN WITH THE SEED: the statements are not yours to turn. If you find one false, say at which input.
  Laid BY PROGRAM, IN A SANDBOX (cutbox-rows.mjs): the forced cells as the released guide's own fill.sh prints them over the translation d3e297e52d38724d… (all of the seat's roots in one cut). By AI agents, Wed Nov 11 2026. No macro, syntax, notation, axiom, sorry.
-/
import Derived.Test.YtpdhfphglahkbaaChecked
import GoSem.Claim
import GoSem.ClaimJoined
import GoSem.ClaimMapViews
import Derived.JoinedTies
import Derived.KernelRfl
namespace Go.Proofs.Ytpdhfphglahkbaa
/- THE CELL 'sum', in the pinned program and in every row, IS THE sha256 OF THE DUMP (.gsa) THAT YtpdhfphglahkbaaProg.lean LOADS. Nothing in Lean hashes anything: it is a label: what it is worth is what the hold of that sum in a sandbox is worth. -/
noncomputable def Try.pinned : Pinned := { name := "ytpdhfphglahkbaa", sum := "d3e297e52d38724d970ea876297c730c4d1d7c6e11900870d41086770f59289c", checked := Try.checked }
namespace Rows
def none {H : Type} : Left H := { results := [], args := [] }

/-- 'laws.FnExactDiskOk': WHATEVER THE INPUT: true; the input reads as it did. -/
def fnExactDiskOkSpec : ChangeSpec := { name := "fnExactDiskOk", fn := fun _ => fun
  | [d] => { results := [.lit (.bool true)], args := [d] }
  | _ => none }
def fnExactDiskOkRow : OpenClaim := { program := "ytpdhfphglahkbaa", sum := "d3e297e52d38724d970ea876297c730c4d1d7c6e11900870d41086770f59289c", func := "loop.example/g00106/laws.FnExactDiskOk", spec := "fnExactDiskOk", apart := false }
def FnExactDiskOkSaid : Prop := fnExactDiskOkRow.holds Try.pinned (OpenSpec.ofChange fnExactDiskOkSpec)

/-- ITS FALSE NEIGHBOUR: 'it returns false'. Refute it at one input. -/
def fnExactDiskOkWrong : ChangeSpec := { name := "fnExactDiskOk", fn := fun _ => fun
  | [d] => { results := [.lit (.bool false)], args := [d] }
  | _ => none }
def FnExactDiskOkWrongFalsely : Prop := fnExactDiskOkRow.holds Try.pinned (OpenSpec.ofChange fnExactDiskOkWrong)

/-- 'laws.FnExactUnseal': WHATEVER THE INPUT: true; the input reads as it did. -/
def fnExactUnsealSpec : ChangeSpec := { name := "fnExactUnseal", fn := fun _ => fun
  | [d1, d2] => { results := [.lit (.bool true)], args := [d1, d2] }
  | _ => none }
def fnExactUnsealRow : OpenClaim := { program := "ytpdhfphglahkbaa", sum := "d3e297e52d38724d970ea876297c730c4d1d7c6e11900870d41086770f59289c", func := "loop.example/g00106/laws.FnExactUnseal", spec := "fnExactUnseal", apart := false }
def FnExactUnsealSaid : Prop := fnExactUnsealRow.holds Try.pinned (OpenSpec.ofChange fnExactUnsealSpec)

/-- ITS FALSE NEIGHBOUR: 'it returns false'. Refute it at one input. -/
def fnExactUnsealWrong : ChangeSpec := { name := "fnExactUnseal", fn := fun _ => fun
  | [d1, d2] => { results := [.lit (.bool false)], args := [d1, d2] }
  | _ => none }
def FnExactUnsealWrongFalsely : Prop := fnExactUnsealRow.holds Try.pinned (OpenSpec.ofChange fnExactUnsealWrong)

/-- 'laws.FnSeal': WHATEVER THE INPUT: true; the input reads as it did. -/
def fnSealSpec : ChangeSpec := { name := "fnSeal", fn := fun _ => fun
  | [d] => { results := [.lit (.bool true)], args := [d] }
  | _ => none }
def fnSealRow : OpenClaim := { program := "ytpdhfphglahkbaa", sum := "d3e297e52d38724d970ea876297c730c4d1d7c6e11900870d41086770f59289c", func := "loop.example/g00106/laws.FnSeal", spec := "fnSeal", apart := false }
def FnSealSaid : Prop := fnSealRow.holds Try.pinned (OpenSpec.ofChange fnSealSpec)

/-- ITS FALSE NEIGHBOUR: 'it returns false'. Refute it at one input. -/
def fnSealWrong : ChangeSpec := { name := "fnSeal", fn := fun _ => fun
  | [d] => { results := [.lit (.bool false)], args := [d] }
  | _ => none }
def FnSealWrongFalsely : Prop := fnSealRow.holds Try.pinned (OpenSpec.ofChange fnSealWrong)

/-- 'laws.FnExactDiskSize': WHATEVER THE INPUT: true; the input reads as it did. -/
def fnExactDiskSizeSpec : ChangeSpec := { name := "fnExactDiskSize", fn := fun _ => fun
  | [d] => { results := [.lit (.bool true)], args := [d] }
  | _ => none }
def fnExactDiskSizeRow : OpenClaim := { program := "ytpdhfphglahkbaa", sum := "d3e297e52d38724d970ea876297c730c4d1d7c6e11900870d41086770f59289c", func := "loop.example/g00106/laws.FnExactDiskSize", spec := "fnExactDiskSize", apart := false }
def FnExactDiskSizeSaid : Prop := fnExactDiskSizeRow.holds Try.pinned (OpenSpec.ofChange fnExactDiskSizeSpec)

/-- ITS FALSE NEIGHBOUR: 'it returns false'. Refute it at one input. -/
def fnExactDiskSizeWrong : ChangeSpec := { name := "fnExactDiskSize", fn := fun _ => fun
  | [d] => { results := [.lit (.bool false)], args := [d] }
  | _ => none }
def FnExactDiskSizeWrongFalsely : Prop := fnExactDiskSizeRow.holds Try.pinned (OpenSpec.ofChange fnExactDiskSizeWrong)

/-- 'laws.FnNums': WHATEVER THE INPUT: true; the input reads as it did. -/
def fnNumsSpec : ChangeSpec := { name := "fnNums", fn := fun _ => fun
  | [d] => { results := [.lit (.bool true)], args := [d] }
  | _ => none }
def fnNumsRow : OpenClaim := { program := "ytpdhfphglahkbaa", sum := "d3e297e52d38724d970ea876297c730c4d1d7c6e11900870d41086770f59289c", func := "loop.example/g00106/laws.FnNums", spec := "fnNums", apart := false }
def FnNumsSaid : Prop := fnNumsRow.holds Try.pinned (OpenSpec.ofChange fnNumsSpec)

/-- ITS FALSE NEIGHBOUR: 'it returns false'. Refute it at one input. -/
def fnNumsWrong : ChangeSpec := { name := "fnNums", fn := fun _ => fun
  | [d] => { results := [.lit (.bool false)], args := [d] }
  | _ => none }
def FnNumsWrongFalsely : Prop := fnNumsRow.holds Try.pinned (OpenSpec.ofChange fnNumsWrong)

/-- 'laws.FnExactCmdPack': WHATEVER THE INPUT: true; the input reads as it did. -/
def fnExactCmdPackSpec : ChangeSpec := { name := "fnExactCmdPack", fn := fun _ => fun
  | [d] => { results := [.lit (.bool true)], args := [d] }
  | _ => none }
def fnExactCmdPackRow : OpenClaim := { program := "ytpdhfphglahkbaa", sum := "d3e297e52d38724d970ea876297c730c4d1d7c6e11900870d41086770f59289c", func := "loop.example/g00106/laws.FnExactCmdPack", spec := "fnExactCmdPack", apart := false }
def FnExactCmdPackSaid : Prop := fnExactCmdPackRow.holds Try.pinned (OpenSpec.ofChange fnExactCmdPackSpec)

/-- ITS FALSE NEIGHBOUR: 'it returns false'. Refute it at one input. -/
def fnExactCmdPackWrong : ChangeSpec := { name := "fnExactCmdPack", fn := fun _ => fun
  | [d] => { results := [.lit (.bool false)], args := [d] }
  | _ => none }
def FnExactCmdPackWrongFalsely : Prop := fnExactCmdPackRow.holds Try.pinned (OpenSpec.ofChange fnExactCmdPackWrong)

/-- 'laws.FnExactShaText': WHATEVER THE INPUT: true; the input reads as it did. -/
def fnExactShaTextSpec : ChangeSpec := { name := "fnExactShaText", fn := fun _ => fun
  | [d] => { results := [.lit (.bool true)], args := [d] }
  | _ => none }
def fnExactShaTextRow : OpenClaim := { program := "ytpdhfphglahkbaa", sum := "d3e297e52d38724d970ea876297c730c4d1d7c6e11900870d41086770f59289c", func := "loop.example/g00106/laws.FnExactShaText", spec := "fnExactShaText", apart := false }
def FnExactShaTextSaid : Prop := fnExactShaTextRow.holds Try.pinned (OpenSpec.ofChange fnExactShaTextSpec)

/-- ITS FALSE NEIGHBOUR: 'it returns false'. Refute it at one input. -/
def fnExactShaTextWrong : ChangeSpec := { name := "fnExactShaText", fn := fun _ => fun
  | [d] => { results := [.lit (.bool false)], args := [d] }
  | _ => none }
def FnExactShaTextWrongFalsely : Prop := fnExactShaTextRow.holds Try.pinned (OpenSpec.ofChange fnExactShaTextWrong)

/-- 'laws.FnExactRollNew': WHATEVER THE INPUT: true; the input reads as it did. -/
def fnExactRollNewSpec : ChangeSpec := { name := "fnExactRollNew", fn := fun _ => fun
  | [d] => { results := [.lit (.bool true)], args := [d] }
  | _ => none }
def fnExactRollNewRow : OpenClaim := { program := "ytpdhfphglahkbaa", sum := "d3e297e52d38724d970ea876297c730c4d1d7c6e11900870d41086770f59289c", func := "loop.example/g00106/laws.FnExactRollNew", spec := "fnExactRollNew", apart := false }
def FnExactRollNewSaid : Prop := fnExactRollNewRow.holds Try.pinned (OpenSpec.ofChange fnExactRollNewSpec)

/-- ITS FALSE NEIGHBOUR: 'it returns false'. Refute it at one input. -/
def fnExactRollNewWrong : ChangeSpec := { name := "fnExactRollNew", fn := fun _ => fun
  | [d] => { results := [.lit (.bool false)], args := [d] }
  | _ => none }
def FnExactRollNewWrongFalsely : Prop := fnExactRollNewRow.holds Try.pinned (OpenSpec.ofChange fnExactRollNewWrong)

/-- 'laws.FnExactDiskRead': WHATEVER THE INPUT: true; the input reads as it did. -/
def fnExactDiskReadSpec : ChangeSpec := { name := "fnExactDiskRead", fn := fun _ => fun
  | [d1, d2] => { results := [.lit (.bool true)], args := [d1, d2] }
  | _ => none }
def fnExactDiskReadRow : OpenClaim := { program := "ytpdhfphglahkbaa", sum := "d3e297e52d38724d970ea876297c730c4d1d7c6e11900870d41086770f59289c", func := "loop.example/g00106/laws.FnExactDiskRead", spec := "fnExactDiskRead", unfollowed := true, recurses := true, apart := false }
def FnExactDiskReadSaid : Prop := fnExactDiskReadRow.holds Try.pinned (OpenSpec.ofChange fnExactDiskReadSpec)

/-- ITS FALSE NEIGHBOUR: 'it returns false'. Refute it at one input. -/
def fnExactDiskReadWrong : ChangeSpec := { name := "fnExactDiskRead", fn := fun _ => fun
  | [d1, d2] => { results := [.lit (.bool false)], args := [d1, d2] }
  | _ => none }
def FnExactDiskReadWrongFalsely : Prop := fnExactDiskReadRow.holds Try.pinned (OpenSpec.ofChange fnExactDiskReadWrong)

/-- 'laws.FnExactSha': WHATEVER THE INPUT: true; the input reads as it did. -/
def fnExactShaSpec : ChangeSpec := { name := "fnExactSha", fn := fun _ => fun
  | [d] => { results := [.lit (.bool true)], args := [d] }
  | _ => none }
def fnExactShaRow : OpenClaim := { program := "ytpdhfphglahkbaa", sum := "d3e297e52d38724d970ea876297c730c4d1d7c6e11900870d41086770f59289c", func := "loop.example/g00106/laws.FnExactSha", spec := "fnExactSha", apart := false }
def FnExactShaSaid : Prop := fnExactShaRow.holds Try.pinned (OpenSpec.ofChange fnExactShaSpec)

/-- ITS FALSE NEIGHBOUR: 'it returns false'. Refute it at one input. -/
def fnExactShaWrong : ChangeSpec := { name := "fnExactSha", fn := fun _ => fun
  | [d] => { results := [.lit (.bool false)], args := [d] }
  | _ => none }
def FnExactShaWrongFalsely : Prop := fnExactShaRow.holds Try.pinned (OpenSpec.ofChange fnExactShaWrong)

/-- 'laws.FnExactHardOk': WHATEVER THE INPUT: true; the input reads as it did. -/
def fnExactHardOkSpec : ChangeSpec := { name := "fnExactHardOk", fn := fun _ => fun
  | [d] => { results := [.lit (.bool true)], args := [d] }
  | _ => none }
def fnExactHardOkRow : OpenClaim := { program := "ytpdhfphglahkbaa", sum := "d3e297e52d38724d970ea876297c730c4d1d7c6e11900870d41086770f59289c", func := "loop.example/g00106/laws.FnExactHardOk", spec := "fnExactHardOk", apart := false }
def FnExactHardOkSaid : Prop := fnExactHardOkRow.holds Try.pinned (OpenSpec.ofChange fnExactHardOkSpec)

/-- ITS FALSE NEIGHBOUR: 'it returns false'. Refute it at one input. -/
def fnExactHardOkWrong : ChangeSpec := { name := "fnExactHardOk", fn := fun _ => fun
  | [d] => { results := [.lit (.bool false)], args := [d] }
  | _ => none }
def FnExactHardOkWrongFalsely : Prop := fnExactHardOkRow.holds Try.pinned (OpenSpec.ofChange fnExactHardOkWrong)

/-- 'laws.FnExactCmdRead': WHATEVER THE INPUT: true; the input reads as it did. -/
def fnExactCmdReadSpec : ChangeSpec := { name := "fnExactCmdRead", fn := fun _ => fun
  | [d1, d2] => { results := [.lit (.bool true)], args := [d1, d2] }
  | _ => none }
def fnExactCmdReadRow : OpenClaim := { program := "ytpdhfphglahkbaa", sum := "d3e297e52d38724d970ea876297c730c4d1d7c6e11900870d41086770f59289c", func := "loop.example/g00106/laws.FnExactCmdRead", spec := "fnExactCmdRead", apart := false }
def FnExactCmdReadSaid : Prop := fnExactCmdReadRow.holds Try.pinned (OpenSpec.ofChange fnExactCmdReadSpec)

/-- ITS FALSE NEIGHBOUR: 'it returns false'. Refute it at one input. -/
def fnExactCmdReadWrong : ChangeSpec := { name := "fnExactCmdRead", fn := fun _ => fun
  | [d1, d2] => { results := [.lit (.bool false)], args := [d1, d2] }
  | _ => none }
def FnExactCmdReadWrongFalsely : Prop := fnExactCmdReadRow.holds Try.pinned (OpenSpec.ofChange fnExactCmdReadWrong)

/- THE SECOND FORM. 'bulk': how many values and letters a reading holds, each counted each time it is reached (what is shared counts as often as it is met; a slice's spare places count too). A statement '..UptoSaid' is the law's where the arguments, and the package variables that the reading takes, are together of bulk at most 1048576: NARROWER than '..Said'. Prove '..Said' where nothing that the law and all that it calls make is longer than what came in: it says more and counts as full. Else prove '..UptoSaid'. A law counts once. -/
mutual
def uptoBulk {H : Type} : DataW H → Nat
  | .lit (.string bytes) => bytes.length + 1
  | .lit _ => 1
  | .nil => 1
  | .ptr d => uptoBulk d + 1
  | .slice elems spare => uptoBulkAll elems + uptoBulkAll spare + 1
  | .agg parts => uptoBulkAll parts + 1
  | .iface _ d => uptoBulk d + 1
  | .map entries => uptoBulkEntries entries + 1
  | .held _ => 1
def uptoBulkAll {H : Type} : List (DataW H) → Nat
  | [] => 0
  | d :: r => uptoBulk d + uptoBulkAll r
def uptoBulkEntries {H : Type} : List (Lit × DataW H) → Nat
  | [] => 0
  | x :: r => uptoBulkEntry x + uptoBulkEntries r
def uptoBulkEntry {H : Type} : Lit × DataW H → Nat
  | (.string bytes, d) => bytes.length + uptoBulk d + 1
  | (_, d) => uptoBulk d + 1
 end
def uptoSmall : (H : Type) → List (DataW H) → Bool := fun _ ds => decide (uptoBulkAll ds ≤ 1048576)
def OpenSpec.upto (s : _root_.Go.ChangeSpec) : _root_.Go.OpenSpec := { _root_.Go.OpenSpec.ofChange s with cond := some uptoSmall }

/-- 'laws.FnExactDiskOk', WHERE WHAT IT READS IS OF BULK AT MOST 1048576: true; the input reads as it did. -/
def fnExactDiskOkUptoRow : OpenClaim := { program := "ytpdhfphglahkbaa", sum := "d3e297e52d38724d970ea876297c730c4d1d7c6e11900870d41086770f59289c", func := "loop.example/g00106/laws.FnExactDiskOk", spec := "fnExactDiskOk", apart := false, narrowed := true }
def FnExactDiskOkUptoSaid : Prop := fnExactDiskOkUptoRow.holds Try.pinned (OpenSpec.upto fnExactDiskOkSpec)

/-- 'laws.FnExactUnseal', WHERE WHAT IT READS IS OF BULK AT MOST 1048576: true; the input reads as it did. -/
def fnExactUnsealUptoRow : OpenClaim := { program := "ytpdhfphglahkbaa", sum := "d3e297e52d38724d970ea876297c730c4d1d7c6e11900870d41086770f59289c", func := "loop.example/g00106/laws.FnExactUnseal", spec := "fnExactUnseal", apart := false, narrowed := true }
def FnExactUnsealUptoSaid : Prop := fnExactUnsealUptoRow.holds Try.pinned (OpenSpec.upto fnExactUnsealSpec)

/-- 'laws.FnSeal', WHERE WHAT IT READS IS OF BULK AT MOST 1048576: true; the input reads as it did. -/
def fnSealUptoRow : OpenClaim := { program := "ytpdhfphglahkbaa", sum := "d3e297e52d38724d970ea876297c730c4d1d7c6e11900870d41086770f59289c", func := "loop.example/g00106/laws.FnSeal", spec := "fnSeal", apart := false, narrowed := true }
def FnSealUptoSaid : Prop := fnSealUptoRow.holds Try.pinned (OpenSpec.upto fnSealSpec)

/-- 'laws.FnExactDiskSize', WHERE WHAT IT READS IS OF BULK AT MOST 1048576: true; the input reads as it did. -/
def fnExactDiskSizeUptoRow : OpenClaim := { program := "ytpdhfphglahkbaa", sum := "d3e297e52d38724d970ea876297c730c4d1d7c6e11900870d41086770f59289c", func := "loop.example/g00106/laws.FnExactDiskSize", spec := "fnExactDiskSize", apart := false, narrowed := true }
def FnExactDiskSizeUptoSaid : Prop := fnExactDiskSizeUptoRow.holds Try.pinned (OpenSpec.upto fnExactDiskSizeSpec)

/-- 'laws.FnNums', WHERE WHAT IT READS IS OF BULK AT MOST 1048576: true; the input reads as it did. -/
def fnNumsUptoRow : OpenClaim := { program := "ytpdhfphglahkbaa", sum := "d3e297e52d38724d970ea876297c730c4d1d7c6e11900870d41086770f59289c", func := "loop.example/g00106/laws.FnNums", spec := "fnNums", apart := false, narrowed := true }
def FnNumsUptoSaid : Prop := fnNumsUptoRow.holds Try.pinned (OpenSpec.upto fnNumsSpec)

/-- 'laws.FnExactCmdPack', WHERE WHAT IT READS IS OF BULK AT MOST 1048576: true; the input reads as it did. -/
def fnExactCmdPackUptoRow : OpenClaim := { program := "ytpdhfphglahkbaa", sum := "d3e297e52d38724d970ea876297c730c4d1d7c6e11900870d41086770f59289c", func := "loop.example/g00106/laws.FnExactCmdPack", spec := "fnExactCmdPack", apart := false, narrowed := true }
def FnExactCmdPackUptoSaid : Prop := fnExactCmdPackUptoRow.holds Try.pinned (OpenSpec.upto fnExactCmdPackSpec)

/-- 'laws.FnExactShaText', WHERE WHAT IT READS IS OF BULK AT MOST 1048576: true; the input reads as it did. -/
def fnExactShaTextUptoRow : OpenClaim := { program := "ytpdhfphglahkbaa", sum := "d3e297e52d38724d970ea876297c730c4d1d7c6e11900870d41086770f59289c", func := "loop.example/g00106/laws.FnExactShaText", spec := "fnExactShaText", apart := false, narrowed := true }
def FnExactShaTextUptoSaid : Prop := fnExactShaTextUptoRow.holds Try.pinned (OpenSpec.upto fnExactShaTextSpec)

/-- 'laws.FnExactRollNew', WHERE WHAT IT READS IS OF BULK AT MOST 1048576: true; the input reads as it did. -/
def fnExactRollNewUptoRow : OpenClaim := { program := "ytpdhfphglahkbaa", sum := "d3e297e52d38724d970ea876297c730c4d1d7c6e11900870d41086770f59289c", func := "loop.example/g00106/laws.FnExactRollNew", spec := "fnExactRollNew", apart := false, narrowed := true }
def FnExactRollNewUptoSaid : Prop := fnExactRollNewUptoRow.holds Try.pinned (OpenSpec.upto fnExactRollNewSpec)

/-- 'laws.FnExactDiskRead', WHERE WHAT IT READS IS OF BULK AT MOST 1048576: true; the input reads as it did. -/
def fnExactDiskReadUptoRow : OpenClaim := { program := "ytpdhfphglahkbaa", sum := "d3e297e52d38724d970ea876297c730c4d1d7c6e11900870d41086770f59289c", func := "loop.example/g00106/laws.FnExactDiskRead", spec := "fnExactDiskRead", unfollowed := true, recurses := true, apart := false, narrowed := true }
def FnExactDiskReadUptoSaid : Prop := fnExactDiskReadUptoRow.holds Try.pinned (OpenSpec.upto fnExactDiskReadSpec)

/-- 'laws.FnExactSha', WHERE WHAT IT READS IS OF BULK AT MOST 1048576: true; the input reads as it did. -/
def fnExactShaUptoRow : OpenClaim := { program := "ytpdhfphglahkbaa", sum := "d3e297e52d38724d970ea876297c730c4d1d7c6e11900870d41086770f59289c", func := "loop.example/g00106/laws.FnExactSha", spec := "fnExactSha", apart := false, narrowed := true }
def FnExactShaUptoSaid : Prop := fnExactShaUptoRow.holds Try.pinned (OpenSpec.upto fnExactShaSpec)

/-- 'laws.FnExactHardOk', WHERE WHAT IT READS IS OF BULK AT MOST 1048576: true; the input reads as it did. -/
def fnExactHardOkUptoRow : OpenClaim := { program := "ytpdhfphglahkbaa", sum := "d3e297e52d38724d970ea876297c730c4d1d7c6e11900870d41086770f59289c", func := "loop.example/g00106/laws.FnExactHardOk", spec := "fnExactHardOk", apart := false, narrowed := true }
def FnExactHardOkUptoSaid : Prop := fnExactHardOkUptoRow.holds Try.pinned (OpenSpec.upto fnExactHardOkSpec)

/-- 'laws.FnExactCmdRead', WHERE WHAT IT READS IS OF BULK AT MOST 1048576: true; the input reads as it did. -/
def fnExactCmdReadUptoRow : OpenClaim := { program := "ytpdhfphglahkbaa", sum := "d3e297e52d38724d970ea876297c730c4d1d7c6e11900870d41086770f59289c", func := "loop.example/g00106/laws.FnExactCmdRead", spec := "fnExactCmdRead", apart := false, narrowed := true }
def FnExactCmdReadUptoSaid : Prop := fnExactCmdReadUptoRow.holds Try.pinned (OpenSpec.upto fnExactCmdReadSpec)

end Rows
end Go.Proofs.Ytpdhfphglahkbaa
