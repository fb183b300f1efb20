/-
  No cell of these rows narrows 'for every input' (looked for: loops, veiled, ifaces, maps, wideKeys, modest, calm, conditions, laid).
  DERIVED. THE GIVEN ROWS OF THIS SEAT. 4 by the template 'for every input the law returns true; each argument reads behind the call as it read before'; 0 by the template 'total and deterministic' (their statements: YtpfcdhjknmijjaaGreatTotals.lean).
  GIVEN WITH THE SEED: the statements are not yours to turn. If you find one false, say at which input.
  Laid BY PROGRAM, IN A SANDBOX (cutbox-rows.mjs): the forced cells as the released guide's own fill.sh prints them over the translation 9576a0c24dc5add0… (all of the seat's roots in one cut). By AI agents, Wed Nov 11 2026. No macro, syntax, notation, axiom, sorry.
-/
import Derived.Test.YtpfcdhjknmijjaaGreatChecked
import GoSem.Claim
import GoSem.ClaimJoined
import GoSem.ClaimMapViews
import Derived.JoinedTies
import Derived.KernelRfl
namespace Go.Proofs.YtpfcdhjknmijjaaGreat
/- THE CELL 'sum', in the pinned program and in every row, IS THE sha256 OF THE DUMP (.gsa) THAT YtpfcdhjknmijjaaGreatProg.lean LOADS. Nothing in Lean hashes anything: it is a label: what it is worth is what the hold of that sum in a sandbox is worth. -/
noncomputable def Tryz.pinned : Pinned := { name := "ytpfcdhjknmijjaagreat", sum := "9576a0c24dc5add0fd7506027b8516434e1f4052659c5686c2c857e90d680deb", checked := Tryz.checked }
namespace Rows
def none {H : Type} : Left H := { results := [], args := [] }

/-- 'burinlaw30.EmitTells': WHATEVER THE INPUT: true; the input reads as it did. -/
def emitTellsSpec : ChangeSpec := { name := "emitTells", fn := fun _ => fun
  | [d1, d2] => { results := [.lit (.bool true)], args := [d1, d2] }
  | _ => none }
def emitTellsRow : OpenClaim := { program := "ytpfcdhjknmijjaagreat", sum := "9576a0c24dc5add0fd7506027b8516434e1f4052659c5686c2c857e90d680deb", func := "burin/burinlaw30.EmitTells", spec := "emitTells", inPlace := ["internal/bytealg.IndexByteString"], unfollowed := true, recurses := true, apart := false }
def EmitTellsSaid : Prop := emitTellsRow.holds Tryz.pinned (OpenSpec.ofChange emitTellsSpec)

/-- ITS FALSE NEIGHBOUR: 'it returns false'. Refute it at one input. -/
def emitTellsWrong : ChangeSpec := { name := "emitTells", fn := fun _ => fun
  | [d1, d2] => { results := [.lit (.bool false)], args := [d1, d2] }
  | _ => none }
def EmitTellsWrongFalsely : Prop := emitTellsRow.holds Tryz.pinned (OpenSpec.ofChange emitTellsWrong)

/-- 'burinlaw30.EmitFinds': WHATEVER THE INPUT: true; the input reads as it did. -/
def emitFindsSpec : ChangeSpec := { name := "emitFinds", fn := fun _ => fun
  | [d1, d2] => { results := [.lit (.bool true)], args := [d1, d2] }
  | _ => none }
def emitFindsRow : OpenClaim := { program := "ytpfcdhjknmijjaagreat", sum := "9576a0c24dc5add0fd7506027b8516434e1f4052659c5686c2c857e90d680deb", func := "burin/burinlaw30.EmitFinds", spec := "emitFinds", inPlace := ["internal/bytealg.IndexByteString"], unfollowed := true, recurses := true, apart := false }
def EmitFindsSaid : Prop := emitFindsRow.holds Tryz.pinned (OpenSpec.ofChange emitFindsSpec)

/-- ITS FALSE NEIGHBOUR: 'it returns false'. Refute it at one input. -/
def emitFindsWrong : ChangeSpec := { name := "emitFinds", fn := fun _ => fun
  | [d1, d2] => { results := [.lit (.bool false)], args := [d1, d2] }
  | _ => none }
def EmitFindsWrongFalsely : Prop := emitFindsRow.holds Tryz.pinned (OpenSpec.ofChange emitFindsWrong)

/-- 'burinlaw31.JitFinds': WHATEVER THE INPUT: true; the input reads as it did. -/
def jitFindsSpec : ChangeSpec := { name := "jitFinds", fn := fun _ => fun
  | [d1, d2, d3] => { results := [.lit (.bool true)], args := [d1, d2, d3] }
  | _ => none }
def jitFindsRow : OpenClaim := { program := "ytpfcdhjknmijjaagreat", sum := "9576a0c24dc5add0fd7506027b8516434e1f4052659c5686c2c857e90d680deb", func := "burin/burinlaw31.JitFinds", spec := "jitFinds", inPlace := ["internal/bytealg.IndexByteString", "internal/abi.NoEscape", "internal/bytealg.MakeNoZero"], unfollowed := true, recurses := true, apart := false }
def JitFindsSaid : Prop := jitFindsRow.holds Tryz.pinned (OpenSpec.ofChange jitFindsSpec)

/-- ITS FALSE NEIGHBOUR: 'it returns false'. Refute it at one input. -/
def jitFindsWrong : ChangeSpec := { name := "jitFinds", fn := fun _ => fun
  | [d1, d2, d3] => { results := [.lit (.bool false)], args := [d1, d2, d3] }
  | _ => none }
def JitFindsWrongFalsely : Prop := jitFindsRow.holds Tryz.pinned (OpenSpec.ofChange jitFindsWrong)

/-- 'burinlaw31.JitCode': WHATEVER THE INPUT: true; the input reads as it did. -/
def jitCodeSpec : ChangeSpec := { name := "jitCode", fn := fun _ => fun
  | [d] => { results := [.lit (.bool true)], args := [d] }
  | _ => none }
def jitCodeRow : OpenClaim := { program := "ytpfcdhjknmijjaagreat", sum := "9576a0c24dc5add0fd7506027b8516434e1f4052659c5686c2c857e90d680deb", func := "burin/burinlaw31.JitCode", spec := "jitCode", inPlace := ["internal/bytealg.IndexByteString", "internal/abi.NoEscape", "internal/bytealg.MakeNoZero"], unfollowed := true, recurses := true, apart := false }
def JitCodeSaid : Prop := jitCodeRow.holds Tryz.pinned (OpenSpec.ofChange jitCodeSpec)

/-- ITS FALSE NEIGHBOUR: 'it returns false'. Refute it at one input. -/
def jitCodeWrong : ChangeSpec := { name := "jitCode", fn := fun _ => fun
  | [d] => { results := [.lit (.bool false)], args := [d] }
  | _ => none }
def JitCodeWrongFalsely : Prop := jitCodeRow.holds Tryz.pinned (OpenSpec.ofChange jitCodeWrong)

/- THE SECOND FORM. 'bulk': how many values and letters a reading holds, each counted each time it is reached (what is shared counts as often as it is met; a slice's spare places count too). A statement '..UptoSaid' is the law's where the arguments, and the package variables that the reading takes, are together of bulk at most 1048576: NARROWER than '..Said'. Prove '..Said' where nothing that the law and all that it calls make is longer than what came in: it says more and counts as full. Else prove '..UptoSaid'. A law counts once. -/
mutual
def uptoBulk {H : Type} : DataW H → Nat
  | .lit (.string bytes) => bytes.length + 1
  | .lit _ => 1
  | .nil => 1
  | .ptr d => uptoBulk d + 1
  | .slice elems spare => uptoBulkAll elems + uptoBulkAll spare + 1
  | .agg parts => uptoBulkAll parts + 1
  | .iface _ d => uptoBulk d + 1
  | .map entries => uptoBulkEntries entries + 1
  | .held _ => 1
def uptoBulkAll {H : Type} : List (DataW H) → Nat
  | [] => 0
  | d :: r => uptoBulk d + uptoBulkAll r
def uptoBulkEntries {H : Type} : List (Lit × DataW H) → Nat
  | [] => 0
  | x :: r => uptoBulkEntry x + uptoBulkEntries r
def uptoBulkEntry {H : Type} : Lit × DataW H → Nat
  | (.string bytes, d) => bytes.length + uptoBulk d + 1
  | (_, d) => uptoBulk d + 1
 end
def uptoSmall : (H : Type) → List (DataW H) → Bool := fun _ ds => decide (uptoBulkAll ds ≤ 1048576)
def OpenSpec.upto (s : _root_.Go.ChangeSpec) : _root_.Go.OpenSpec := { _root_.Go.OpenSpec.ofChange s with cond := some uptoSmall }

/-- 'burinlaw30.EmitTells', WHERE WHAT IT READS IS OF BULK AT MOST 1048576: true; the input reads as it did. -/
def emitTellsUptoRow : OpenClaim := { program := "ytpfcdhjknmijjaagreat", sum := "9576a0c24dc5add0fd7506027b8516434e1f4052659c5686c2c857e90d680deb", func := "burin/burinlaw30.EmitTells", spec := "emitTells", inPlace := ["internal/bytealg.IndexByteString"], unfollowed := true, recurses := true, apart := false, narrowed := true }
def EmitTellsUptoSaid : Prop := emitTellsUptoRow.holds Tryz.pinned (OpenSpec.upto emitTellsSpec)

/-- 'burinlaw30.EmitFinds', WHERE WHAT IT READS IS OF BULK AT MOST 1048576: true; the input reads as it did. -/
def emitFindsUptoRow : OpenClaim := { program := "ytpfcdhjknmijjaagreat", sum := "9576a0c24dc5add0fd7506027b8516434e1f4052659c5686c2c857e90d680deb", func := "burin/burinlaw30.EmitFinds", spec := "emitFinds", inPlace := ["internal/bytealg.IndexByteString"], unfollowed := true, recurses := true, apart := false, narrowed := true }
def EmitFindsUptoSaid : Prop := emitFindsUptoRow.holds Tryz.pinned (OpenSpec.upto emitFindsSpec)

/-- 'burinlaw31.JitFinds', WHERE WHAT IT READS IS OF BULK AT MOST 1048576: true; the input reads as it did. -/
def jitFindsUptoRow : OpenClaim := { program := "ytpfcdhjknmijjaagreat", sum := "9576a0c24dc5add0fd7506027b8516434e1f4052659c5686c2c857e90d680deb", func := "burin/burinlaw31.JitFinds", spec := "jitFinds", inPlace := ["internal/bytealg.IndexByteString", "internal/abi.NoEscape", "internal/bytealg.MakeNoZero"], unfollowed := true, recurses := true, apart := false, narrowed := true }
def JitFindsUptoSaid : Prop := jitFindsUptoRow.holds Tryz.pinned (OpenSpec.upto jitFindsSpec)

/-- 'burinlaw31.JitCode', WHERE WHAT IT READS IS OF BULK AT MOST 1048576: true; the input reads as it did. -/
def jitCodeUptoRow : OpenClaim := { program := "ytpfcdhjknmijjaagreat", sum := "9576a0c24dc5add0fd7506027b8516434e1f4052659c5686c2c857e90d680deb", func := "burin/burinlaw31.JitCode", spec := "jitCode", inPlace := ["internal/bytealg.IndexByteString", "internal/abi.NoEscape", "internal/bytealg.MakeNoZero"], unfollowed := true, recurses := true, apart := false, narrowed := true }
def JitCodeUptoSaid : Prop := jitCodeUptoRow.holds Tryz.pinned (OpenSpec.upto jitCodeSpec)

end Rows
end Go.Proofs.YtpfcdhjknmijjaaGreat
