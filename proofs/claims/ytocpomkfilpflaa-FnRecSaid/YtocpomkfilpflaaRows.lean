/-
  No cell of these rows narrows 'for every input' (looked for: loops, veiled, ifaces, maps, wideKeys, modest, calm, conditions, laid).
  DERIVED. THE GIVEN ROWS OF THIS SEAT. 3 by the template 'for every input the law returns true; each argument reads behind the call as it read before'; 0 by the template 'total and deterministic' (their statements: YtocpomkfilpflaaTotals.lean).
  GIVEN WITH THE SEED: the statements are not yours to turn. If you find one false, say at which input.
  Laid BY PROGRAM, IN A SANDBOX (cutbox-rows.mjs): the forced cells as the released guide's own fill.sh prints them over the translation 5ccdb3f4dd22e0be… (all of the seat's roots in one cut). By AI agents, Wed Nov 11 2026. No macro, syntax, notation, axiom, sorry.
-/
import Derived.Test.YtocpomkfilpflaaChecked
import GoSem.Claim
import GoSem.ClaimJoined
import GoSem.ClaimMapViews
import Derived.JoinedTies
import Derived.KernelRfl
namespace Go.Proofs.Ytocpomkfilpflaa
/- THE CELL 'sum', in the pinned program and in every row, IS THE sha256 OF THE DUMP (.gsa) THAT YtocpomkfilpflaaProg.lean LOADS. Nothing in Lean hashes anything: it is a label: what it is worth is what the hold of that sum in a sandbox is worth. -/
noncomputable def Try.pinned : Pinned := { name := "ytocpomkfilpflaa", sum := "5ccdb3f4dd22e0bed99a0ecc32ec0914c0306c3deab49a4796ff79d1ce2019d4", checked := Try.checked }
namespace Rows
def none {H : Type} : Left H := { results := [], args := [] }

/-- 'laws.FnHardRun': WHATEVER THE INPUT: true; the input reads as it did. -/
def fnHardRunSpec : ChangeSpec := { name := "fnHardRun", fn := fun _ => fun
  | [d] => { results := [.lit (.bool true)], args := [d] }
  | _ => none }
def fnHardRunRow : OpenClaim := { program := "ytocpomkfilpflaa", sum := "5ccdb3f4dd22e0bed99a0ecc32ec0914c0306c3deab49a4796ff79d1ce2019d4", func := "loop.example/g00106/laws.FnHardRun", spec := "fnHardRun", apart := false }
def FnHardRunSaid : Prop := fnHardRunRow.holds Try.pinned (OpenSpec.ofChange fnHardRunSpec)

/-- ITS FALSE NEIGHBOUR: 'it returns false'. Refute it at one input. -/
def fnHardRunWrong : ChangeSpec := { name := "fnHardRun", fn := fun _ => fun
  | [d] => { results := [.lit (.bool false)], args := [d] }
  | _ => none }
def FnHardRunWrongFalsely : Prop := fnHardRunRow.holds Try.pinned (OpenSpec.ofChange fnHardRunWrong)

/-- 'laws.FnRec': WHATEVER THE INPUT: true; the input reads as it did. -/
def fnRecSpec : ChangeSpec := { name := "fnRec", fn := fun _ => fun
  | [d] => { results := [.lit (.bool true)], args := [d] }
  | _ => none }
def fnRecRow : OpenClaim := { program := "ytocpomkfilpflaa", sum := "5ccdb3f4dd22e0bed99a0ecc32ec0914c0306c3deab49a4796ff79d1ce2019d4", func := "loop.example/g00106/laws.FnRec", spec := "fnRec", apart := false }
def FnRecSaid : Prop := fnRecRow.holds Try.pinned (OpenSpec.ofChange fnRecSpec)

/-- ITS FALSE NEIGHBOUR: 'it returns false'. Refute it at one input. -/
def fnRecWrong : ChangeSpec := { name := "fnRec", fn := fun _ => fun
  | [d] => { results := [.lit (.bool false)], args := [d] }
  | _ => none }
def FnRecWrongFalsely : Prop := fnRecRow.holds Try.pinned (OpenSpec.ofChange fnRecWrong)

/-- 'laws.FnExactHardLoad': WHATEVER THE INPUT: true; the input reads as it did. -/
def fnExactHardLoadSpec : ChangeSpec := { name := "fnExactHardLoad", fn := fun _ => fun
  | [d1, d2] => { results := [.lit (.bool true)], args := [d1, d2] }
  | _ => none }
def fnExactHardLoadRow : OpenClaim := { program := "ytocpomkfilpflaa", sum := "5ccdb3f4dd22e0bed99a0ecc32ec0914c0306c3deab49a4796ff79d1ce2019d4", func := "loop.example/g00106/laws.FnExactHardLoad", spec := "fnExactHardLoad", unfollowed := true, recurses := true, apart := false }
def FnExactHardLoadSaid : Prop := fnExactHardLoadRow.holds Try.pinned (OpenSpec.ofChange fnExactHardLoadSpec)

/-- ITS FALSE NEIGHBOUR: 'it returns false'. Refute it at one input. -/
def fnExactHardLoadWrong : ChangeSpec := { name := "fnExactHardLoad", fn := fun _ => fun
  | [d1, d2] => { results := [.lit (.bool false)], args := [d1, d2] }
  | _ => none }
def FnExactHardLoadWrongFalsely : Prop := fnExactHardLoadRow.holds Try.pinned (OpenSpec.ofChange fnExactHardLoadWrong)

/- THE SECOND FORM. 'bulk': how many values and letters a reading holds, each counted each time it is reached (what is shared counts as often as it is met; a slice's spare places count too). A statement '..UptoSaid' is the law's where the arguments, and the package variables that the reading takes, are together of bulk at most 1048576: NARROWER than '..Said'. Prove '..Said' where nothing that the law and all that it calls make is longer than what came in: it says more and counts as full. Else prove '..UptoSaid'. A law counts once. -/
mutual
def uptoBulk {H : Type} : DataW H → Nat
  | .lit (.string bytes) => bytes.length + 1
  | .lit _ => 1
  | .nil => 1
  | .ptr d => uptoBulk d + 1
  | .slice elems spare => uptoBulkAll elems + uptoBulkAll spare + 1
  | .agg parts => uptoBulkAll parts + 1
  | .iface _ d => uptoBulk d + 1
  | .map entries => uptoBulkEntries entries + 1
  | .held _ => 1
def uptoBulkAll {H : Type} : List (DataW H) → Nat
  | [] => 0
  | d :: r => uptoBulk d + uptoBulkAll r
def uptoBulkEntries {H : Type} : List (Lit × DataW H) → Nat
  | [] => 0
  | x :: r => uptoBulkEntry x + uptoBulkEntries r
def uptoBulkEntry {H : Type} : Lit × DataW H → Nat
  | (.string bytes, d) => bytes.length + uptoBulk d + 1
  | (_, d) => uptoBulk d + 1
 end
def uptoSmall : (H : Type) → List (DataW H) → Bool := fun _ ds => decide (uptoBulkAll ds ≤ 1048576)
def OpenSpec.upto (s : _root_.Go.ChangeSpec) : _root_.Go.OpenSpec := { _root_.Go.OpenSpec.ofChange s with cond := some uptoSmall }

/-- 'laws.FnHardRun', WHERE WHAT IT READS IS OF BULK AT MOST 1048576: true; the input reads as it did. -/
def fnHardRunUptoRow : OpenClaim := { program := "ytocpomkfilpflaa", sum := "5ccdb3f4dd22e0bed99a0ecc32ec0914c0306c3deab49a4796ff79d1ce2019d4", func := "loop.example/g00106/laws.FnHardRun", spec := "fnHardRun", apart := false, narrowed := true }
def FnHardRunUptoSaid : Prop := fnHardRunUptoRow.holds Try.pinned (OpenSpec.upto fnHardRunSpec)

/-- 'laws.FnRec', WHERE WHAT IT READS IS OF BULK AT MOST 1048576: true; the input reads as it did. -/
def fnRecUptoRow : OpenClaim := { program := "ytocpomkfilpflaa", sum := "5ccdb3f4dd22e0bed99a0ecc32ec0914c0306c3deab49a4796ff79d1ce2019d4", func := "loop.example/g00106/laws.FnRec", spec := "fnRec", apart := false, narrowed := true }
def FnRecUptoSaid : Prop := fnRecUptoRow.holds Try.pinned (OpenSpec.upto fnRecSpec)

/-- 'laws.FnExactHardLoad', WHERE WHAT IT READS IS OF BULK AT MOST 1048576: true; the input reads as it did. -/
def fnExactHardLoadUptoRow : OpenClaim := { program := "ytocpomkfilpflaa", sum := "5ccdb3f4dd22e0bed99a0ecc32ec0914c0306c3deab49a4796ff79d1ce2019d4", func := "loop.example/g00106/laws.FnExactHardLoad", spec := "fnExactHardLoad", unfollowed := true, recurses := true, apart := false, narrowed := true }
def FnExactHardLoadUptoSaid : Prop := fnExactHardLoadUptoRow.holds Try.pinned (OpenSpec.upto fnExactHardLoadSpec)

end Rows
end Go.Proofs.Ytocpomkfilpflaa
