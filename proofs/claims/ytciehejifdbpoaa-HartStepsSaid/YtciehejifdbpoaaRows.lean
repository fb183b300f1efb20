/-
  No cell of these rows narrows 'for every input' (looked for: loops, veiled, ifaces, maps, wideKeys, modest, calm, conditions, laid).
  DERIVED. THE GIVEN ROWS OF THIS SEAT. 12 by the template 'for every input the law returns true; each argument reads behind the call as it read before'; 0 by the template 'total and deterministic' (their statements: YtciehejifdbpoaaTotals.lean).
  GIVEN WITH THE SEED: the statements are not yours to turn. If you find one false, say at which input.
  Laid BY PROGRAM, IN A SANDBOX (cutbox-rows.mjs): the forced cells as the released guide's own fill.sh prints them over the translation a5afb1a44dccac30… (all of the seat's roots in one cut). By AI agents, Wed Nov 11 2026. No macro, syntax, notation, axiom, sorry.
-/
import Derived.Test.YtciehejifdbpoaaChecked
import GoSem.Claim
import GoSem.ClaimJoined
import GoSem.ClaimMapViews
import Derived.JoinedTies
import Derived.KernelRfl
namespace Go.Proofs.Ytciehejifdbpoaa
/- THE CELL 'sum', in the pinned program and in every row, IS THE sha256 OF THE DUMP (.gsa) THAT YtciehejifdbpoaaProg.lean LOADS. Nothing in Lean hashes anything: it is a label: what it is worth is what the hold of that sum in a sandbox is worth. -/
noncomputable def Try.pinned : Pinned := { name := "ytciehejifdbpoaa", sum := "a5afb1a44dccac30753664b0a9b6971f34d5c828e14165385cf6a80b5986d175", checked := Try.checked }
namespace Rows
def none {H : Type} : Left H := { results := [], args := [] }

/-- 'burinlaw26.RvcodeDecodes': WHATEVER THE INPUT: true; the input reads as it did. -/
def rvcodeDecodesSpec : ChangeSpec := { name := "rvcodeDecodes", fn := fun _ => fun
  | [d] => { results := [.lit (.bool true)], args := [d] }
  | _ => none }
def rvcodeDecodesRow : OpenClaim := { program := "ytciehejifdbpoaa", sum := "a5afb1a44dccac30753664b0a9b6971f34d5c828e14165385cf6a80b5986d175", func := "burin/burinlaw26.RvcodeDecodes", spec := "rvcodeDecodes", apart := false }
def RvcodeDecodesSaid : Prop := rvcodeDecodesRow.holds Try.pinned (OpenSpec.ofChange rvcodeDecodesSpec)

/-- ITS FALSE NEIGHBOUR: 'it returns false'. Refute it at one input. -/
def rvcodeDecodesWrong : ChangeSpec := { name := "rvcodeDecodes", fn := fun _ => fun
  | [d] => { results := [.lit (.bool false)], args := [d] }
  | _ => none }
def RvcodeDecodesWrongFalsely : Prop := rvcodeDecodesRow.holds Try.pinned (OpenSpec.ofChange rvcodeDecodesWrong)

/-- 'burinlaw26.RvcodeEncodes': WHATEVER THE INPUT: true; the input reads as it did. -/
def rvcodeEncodesSpec : ChangeSpec := { name := "rvcodeEncodes", fn := fun _ => fun
  | [d] => { results := [.lit (.bool true)], args := [d] }
  | _ => none }
def rvcodeEncodesRow : OpenClaim := { program := "ytciehejifdbpoaa", sum := "a5afb1a44dccac30753664b0a9b6971f34d5c828e14165385cf6a80b5986d175", func := "burin/burinlaw26.RvcodeEncodes", spec := "rvcodeEncodes", apart := false }
def RvcodeEncodesSaid : Prop := rvcodeEncodesRow.holds Try.pinned (OpenSpec.ofChange rvcodeEncodesSpec)

/-- ITS FALSE NEIGHBOUR: 'it returns false'. Refute it at one input. -/
def rvcodeEncodesWrong : ChangeSpec := { name := "rvcodeEncodes", fn := fun _ => fun
  | [d] => { results := [.lit (.bool false)], args := [d] }
  | _ => none }
def RvcodeEncodesWrongFalsely : Prop := rvcodeEncodesRow.holds Try.pinned (OpenSpec.ofChange rvcodeEncodesWrong)

/-- 'burinlaw26.RvcodeBack': WHATEVER THE INPUT: true; the input reads as it did. -/
def rvcodeBackSpec : ChangeSpec := { name := "rvcodeBack", fn := fun _ => fun
  | [d1, d2] => { results := [.lit (.bool true)], args := [d1, d2] }
  | _ => none }
def rvcodeBackRow : OpenClaim := { program := "ytciehejifdbpoaa", sum := "a5afb1a44dccac30753664b0a9b6971f34d5c828e14165385cf6a80b5986d175", func := "burin/burinlaw26.RvcodeBack", spec := "rvcodeBack", apart := false }
def RvcodeBackSaid : Prop := rvcodeBackRow.holds Try.pinned (OpenSpec.ofChange rvcodeBackSpec)

/-- ITS FALSE NEIGHBOUR: 'it returns false'. Refute it at one input. -/
def rvcodeBackWrong : ChangeSpec := { name := "rvcodeBack", fn := fun _ => fun
  | [d1, d2] => { results := [.lit (.bool false)], args := [d1, d2] }
  | _ => none }
def RvcodeBackWrongFalsely : Prop := rvcodeBackRow.holds Try.pinned (OpenSpec.ofChange rvcodeBackWrong)

/-- 'burinlaw26.RvcodeParts': WHATEVER THE INPUT: true; the input reads as it did. -/
def rvcodePartsSpec : ChangeSpec := { name := "rvcodeParts", fn := fun _ => fun
  | [d] => { results := [.lit (.bool true)], args := [d] }
  | _ => none }
def rvcodePartsRow : OpenClaim := { program := "ytciehejifdbpoaa", sum := "a5afb1a44dccac30753664b0a9b6971f34d5c828e14165385cf6a80b5986d175", func := "burin/burinlaw26.RvcodeParts", spec := "rvcodeParts", apart := false }
def RvcodePartsSaid : Prop := rvcodePartsRow.holds Try.pinned (OpenSpec.ofChange rvcodePartsSpec)

/-- ITS FALSE NEIGHBOUR: 'it returns false'. Refute it at one input. -/
def rvcodePartsWrong : ChangeSpec := { name := "rvcodeParts", fn := fun _ => fun
  | [d] => { results := [.lit (.bool false)], args := [d] }
  | _ => none }
def RvcodePartsWrongFalsely : Prop := rvcodePartsRow.holds Try.pinned (OpenSpec.ofChange rvcodePartsWrong)

/-- 'burinlaw29.AsmShort': WHATEVER THE INPUT: true; the input reads as it did. -/
def asmShortSpec : ChangeSpec := { name := "asmShort", fn := fun _ => fun
  | [d] => { results := [.lit (.bool true)], args := [d] }
  | _ => none }
def asmShortRow : OpenClaim := { program := "ytciehejifdbpoaa", sum := "a5afb1a44dccac30753664b0a9b6971f34d5c828e14165385cf6a80b5986d175", func := "burin/burinlaw29.AsmShort", spec := "asmShort", recurses := true, apart := false }
def AsmShortSaid : Prop := asmShortRow.holds Try.pinned (OpenSpec.ofChange asmShortSpec)

/-- ITS FALSE NEIGHBOUR: 'it returns false'. Refute it at one input. -/
def asmShortWrong : ChangeSpec := { name := "asmShort", fn := fun _ => fun
  | [d] => { results := [.lit (.bool false)], args := [d] }
  | _ => none }
def AsmShortWrongFalsely : Prop := asmShortRow.holds Try.pinned (OpenSpec.ofChange asmShortWrong)

/-- 'burinlaw29.AsmPlays': WHATEVER THE INPUT: true; the input reads as it did. -/
def asmPlaysSpec : ChangeSpec := { name := "asmPlays", fn := fun _ => fun
  | [d] => { results := [.lit (.bool true)], args := [d] }
  | _ => none }
def asmPlaysRow : OpenClaim := { program := "ytciehejifdbpoaa", sum := "a5afb1a44dccac30753664b0a9b6971f34d5c828e14165385cf6a80b5986d175", func := "burin/burinlaw29.AsmPlays", spec := "asmPlays", recurses := true, apart := false }
def AsmPlaysSaid : Prop := asmPlaysRow.holds Try.pinned (OpenSpec.ofChange asmPlaysSpec)

/-- ITS FALSE NEIGHBOUR: 'it returns false'. Refute it at one input. -/
def asmPlaysWrong : ChangeSpec := { name := "asmPlays", fn := fun _ => fun
  | [d] => { results := [.lit (.bool false)], args := [d] }
  | _ => none }
def AsmPlaysWrongFalsely : Prop := asmPlaysRow.holds Try.pinned (OpenSpec.ofChange asmPlaysWrong)

/-- 'burinlaw28.HartQuotients': WHATEVER THE INPUT: true; the input reads as it did. -/
def hartQuotientsSpec : ChangeSpec := { name := "hartQuotients", fn := fun _ => fun
  | [d1, d2] => { results := [.lit (.bool true)], args := [d1, d2] }
  | _ => none }
def hartQuotientsRow : OpenClaim := { program := "ytciehejifdbpoaa", sum := "a5afb1a44dccac30753664b0a9b6971f34d5c828e14165385cf6a80b5986d175", func := "burin/burinlaw28.HartQuotients", spec := "hartQuotients", unfollowed := true, recurses := true, apart := false }
def HartQuotientsSaid : Prop := hartQuotientsRow.holds Try.pinned (OpenSpec.ofChange hartQuotientsSpec)

/-- ITS FALSE NEIGHBOUR: 'it returns false'. Refute it at one input. -/
def hartQuotientsWrong : ChangeSpec := { name := "hartQuotients", fn := fun _ => fun
  | [d1, d2] => { results := [.lit (.bool false)], args := [d1, d2] }
  | _ => none }
def HartQuotientsWrongFalsely : Prop := hartQuotientsRow.holds Try.pinned (OpenSpec.ofChange hartQuotientsWrong)

/-- 'burinlaw28.HartHalves': WHATEVER THE INPUT: true; the input reads as it did. -/
def hartHalvesSpec : ChangeSpec := { name := "hartHalves", fn := fun _ => fun
  | [d1, d2] => { results := [.lit (.bool true)], args := [d1, d2] }
  | _ => none }
def hartHalvesRow : OpenClaim := { program := "ytciehejifdbpoaa", sum := "a5afb1a44dccac30753664b0a9b6971f34d5c828e14165385cf6a80b5986d175", func := "burin/burinlaw28.HartHalves", spec := "hartHalves", unfollowed := true, recurses := true, apart := false }
def HartHalvesSaid : Prop := hartHalvesRow.holds Try.pinned (OpenSpec.ofChange hartHalvesSpec)

/-- ITS FALSE NEIGHBOUR: 'it returns false'. Refute it at one input. -/
def hartHalvesWrong : ChangeSpec := { name := "hartHalves", fn := fun _ => fun
  | [d1, d2] => { results := [.lit (.bool false)], args := [d1, d2] }
  | _ => none }
def HartHalvesWrongFalsely : Prop := hartHalvesRow.holds Try.pinned (OpenSpec.ofChange hartHalvesWrong)

/-- 'burinlaw28.HartGoesOn': WHATEVER THE INPUT: true; the input reads as it did. -/
def hartGoesOnSpec : ChangeSpec := { name := "hartGoesOn", fn := fun _ => fun
  | [d1, d2, d3] => { results := [.lit (.bool true)], args := [d1, d2, d3] }
  | _ => none }
def hartGoesOnRow : OpenClaim := { program := "ytciehejifdbpoaa", sum := "a5afb1a44dccac30753664b0a9b6971f34d5c828e14165385cf6a80b5986d175", func := "burin/burinlaw28.HartGoesOn", spec := "hartGoesOn", unfollowed := true, recurses := true, apart := false }
def HartGoesOnSaid : Prop := hartGoesOnRow.holds Try.pinned (OpenSpec.ofChange hartGoesOnSpec)

/-- ITS FALSE NEIGHBOUR: 'it returns false'. Refute it at one input. -/
def hartGoesOnWrong : ChangeSpec := { name := "hartGoesOn", fn := fun _ => fun
  | [d1, d2, d3] => { results := [.lit (.bool false)], args := [d1, d2, d3] }
  | _ => none }
def HartGoesOnWrongFalsely : Prop := hartGoesOnRow.holds Try.pinned (OpenSpec.ofChange hartGoesOnWrong)

/-- 'burinlaw28.HartSteps': WHATEVER THE INPUT: true; the input reads as it did. -/
def hartStepsSpec : ChangeSpec := { name := "hartSteps", fn := fun _ => fun
  | [d] => { results := [.lit (.bool true)], args := [d] }
  | _ => none }
def hartStepsRow : OpenClaim := { program := "ytciehejifdbpoaa", sum := "a5afb1a44dccac30753664b0a9b6971f34d5c828e14165385cf6a80b5986d175", func := "burin/burinlaw28.HartSteps", spec := "hartSteps", unfollowed := true, recurses := true, apart := false }
def HartStepsSaid : Prop := hartStepsRow.holds Try.pinned (OpenSpec.ofChange hartStepsSpec)

/-- ITS FALSE NEIGHBOUR: 'it returns false'. Refute it at one input. -/
def hartStepsWrong : ChangeSpec := { name := "hartSteps", fn := fun _ => fun
  | [d] => { results := [.lit (.bool false)], args := [d] }
  | _ => none }
def HartStepsWrongFalsely : Prop := hartStepsRow.holds Try.pinned (OpenSpec.ofChange hartStepsWrong)

/-- 'burinlaw29.AsmNumbers': WHATEVER THE INPUT: true; the input reads as it did. -/
def asmNumbersSpec : ChangeSpec := { name := "asmNumbers", fn := fun _ => fun
  | [d1, d2] => { results := [.lit (.bool true)], args := [d1, d2] }
  | _ => none }
def asmNumbersRow : OpenClaim := { program := "ytciehejifdbpoaa", sum := "a5afb1a44dccac30753664b0a9b6971f34d5c828e14165385cf6a80b5986d175", func := "burin/burinlaw29.AsmNumbers", spec := "asmNumbers", unfollowed := true, recurses := true, apart := false }
def AsmNumbersSaid : Prop := asmNumbersRow.holds Try.pinned (OpenSpec.ofChange asmNumbersSpec)

/-- ITS FALSE NEIGHBOUR: 'it returns false'. Refute it at one input. -/
def asmNumbersWrong : ChangeSpec := { name := "asmNumbers", fn := fun _ => fun
  | [d1, d2] => { results := [.lit (.bool false)], args := [d1, d2] }
  | _ => none }
def AsmNumbersWrongFalsely : Prop := asmNumbersRow.holds Try.pinned (OpenSpec.ofChange asmNumbersWrong)

/-- 'burinlaw29.AsmBranches': WHATEVER THE INPUT: true; the input reads as it did. -/
def asmBranchesSpec : ChangeSpec := { name := "asmBranches", fn := fun _ => fun
  | [d1, d2, d3] => { results := [.lit (.bool true)], args := [d1, d2, d3] }
  | _ => none }
def asmBranchesRow : OpenClaim := { program := "ytciehejifdbpoaa", sum := "a5afb1a44dccac30753664b0a9b6971f34d5c828e14165385cf6a80b5986d175", func := "burin/burinlaw29.AsmBranches", spec := "asmBranches", unfollowed := true, recurses := true, apart := false }
def AsmBranchesSaid : Prop := asmBranchesRow.holds Try.pinned (OpenSpec.ofChange asmBranchesSpec)

/-- ITS FALSE NEIGHBOUR: 'it returns false'. Refute it at one input. -/
def asmBranchesWrong : ChangeSpec := { name := "asmBranches", fn := fun _ => fun
  | [d1, d2, d3] => { results := [.lit (.bool false)], args := [d1, d2, d3] }
  | _ => none }
def AsmBranchesWrongFalsely : Prop := asmBranchesRow.holds Try.pinned (OpenSpec.ofChange asmBranchesWrong)

/- THE SECOND FORM. 'bulk': how many values and letters a reading holds, each counted each time it is reached (what is shared counts as often as it is met; a slice's spare places count too). A statement '..UptoSaid' is the law's where the arguments, and the package variables that the reading takes, are together of bulk at most 1048576: NARROWER than '..Said'. Prove '..Said' where nothing that the law and all that it calls make is longer than what came in: it says more and counts as full. Else prove '..UptoSaid'. A law counts once. -/
mutual
def uptoBulk {H : Type} : DataW H → Nat
  | .lit (.string bytes) => bytes.length + 1
  | .lit _ => 1
  | .nil => 1
  | .ptr d => uptoBulk d + 1
  | .slice elems spare => uptoBulkAll elems + uptoBulkAll spare + 1
  | .agg parts => uptoBulkAll parts + 1
  | .iface _ d => uptoBulk d + 1
  | .map entries => uptoBulkEntries entries + 1
  | .held _ => 1
def uptoBulkAll {H : Type} : List (DataW H) → Nat
  | [] => 0
  | d :: r => uptoBulk d + uptoBulkAll r
def uptoBulkEntries {H : Type} : List (Lit × DataW H) → Nat
  | [] => 0
  | x :: r => uptoBulkEntry x + uptoBulkEntries r
def uptoBulkEntry {H : Type} : Lit × DataW H → Nat
  | (.string bytes, d) => bytes.length + uptoBulk d + 1
  | (_, d) => uptoBulk d + 1
 end
def uptoSmall : (H : Type) → List (DataW H) → Bool := fun _ ds => decide (uptoBulkAll ds ≤ 1048576)
def OpenSpec.upto (s : _root_.Go.ChangeSpec) : _root_.Go.OpenSpec := { _root_.Go.OpenSpec.ofChange s with cond := some uptoSmall }

/-- 'burinlaw26.RvcodeDecodes', WHERE WHAT IT READS IS OF BULK AT MOST 1048576: true; the input reads as it did. -/
def rvcodeDecodesUptoRow : OpenClaim := { program := "ytciehejifdbpoaa", sum := "a5afb1a44dccac30753664b0a9b6971f34d5c828e14165385cf6a80b5986d175", func := "burin/burinlaw26.RvcodeDecodes", spec := "rvcodeDecodes", apart := false, narrowed := true }
def RvcodeDecodesUptoSaid : Prop := rvcodeDecodesUptoRow.holds Try.pinned (OpenSpec.upto rvcodeDecodesSpec)

/-- 'burinlaw26.RvcodeEncodes', WHERE WHAT IT READS IS OF BULK AT MOST 1048576: true; the input reads as it did. -/
def rvcodeEncodesUptoRow : OpenClaim := { program := "ytciehejifdbpoaa", sum := "a5afb1a44dccac30753664b0a9b6971f34d5c828e14165385cf6a80b5986d175", func := "burin/burinlaw26.RvcodeEncodes", spec := "rvcodeEncodes", apart := false, narrowed := true }
def RvcodeEncodesUptoSaid : Prop := rvcodeEncodesUptoRow.holds Try.pinned (OpenSpec.upto rvcodeEncodesSpec)

/-- 'burinlaw26.RvcodeBack', WHERE WHAT IT READS IS OF BULK AT MOST 1048576: true; the input reads as it did. -/
def rvcodeBackUptoRow : OpenClaim := { program := "ytciehejifdbpoaa", sum := "a5afb1a44dccac30753664b0a9b6971f34d5c828e14165385cf6a80b5986d175", func := "burin/burinlaw26.RvcodeBack", spec := "rvcodeBack", apart := false, narrowed := true }
def RvcodeBackUptoSaid : Prop := rvcodeBackUptoRow.holds Try.pinned (OpenSpec.upto rvcodeBackSpec)

/-- 'burinlaw26.RvcodeParts', WHERE WHAT IT READS IS OF BULK AT MOST 1048576: true; the input reads as it did. -/
def rvcodePartsUptoRow : OpenClaim := { program := "ytciehejifdbpoaa", sum := "a5afb1a44dccac30753664b0a9b6971f34d5c828e14165385cf6a80b5986d175", func := "burin/burinlaw26.RvcodeParts", spec := "rvcodeParts", apart := false, narrowed := true }
def RvcodePartsUptoSaid : Prop := rvcodePartsUptoRow.holds Try.pinned (OpenSpec.upto rvcodePartsSpec)

/-- 'burinlaw29.AsmShort', WHERE WHAT IT READS IS OF BULK AT MOST 1048576: true; the input reads as it did. -/
def asmShortUptoRow : OpenClaim := { program := "ytciehejifdbpoaa", sum := "a5afb1a44dccac30753664b0a9b6971f34d5c828e14165385cf6a80b5986d175", func := "burin/burinlaw29.AsmShort", spec := "asmShort", recurses := true, apart := false, narrowed := true }
def AsmShortUptoSaid : Prop := asmShortUptoRow.holds Try.pinned (OpenSpec.upto asmShortSpec)

/-- 'burinlaw29.AsmPlays', WHERE WHAT IT READS IS OF BULK AT MOST 1048576: true; the input reads as it did. -/
def asmPlaysUptoRow : OpenClaim := { program := "ytciehejifdbpoaa", sum := "a5afb1a44dccac30753664b0a9b6971f34d5c828e14165385cf6a80b5986d175", func := "burin/burinlaw29.AsmPlays", spec := "asmPlays", recurses := true, apart := false, narrowed := true }
def AsmPlaysUptoSaid : Prop := asmPlaysUptoRow.holds Try.pinned (OpenSpec.upto asmPlaysSpec)

/-- 'burinlaw28.HartQuotients', WHERE WHAT IT READS IS OF BULK AT MOST 1048576: true; the input reads as it did. -/
def hartQuotientsUptoRow : OpenClaim := { program := "ytciehejifdbpoaa", sum := "a5afb1a44dccac30753664b0a9b6971f34d5c828e14165385cf6a80b5986d175", func := "burin/burinlaw28.HartQuotients", spec := "hartQuotients", unfollowed := true, recurses := true, apart := false, narrowed := true }
def HartQuotientsUptoSaid : Prop := hartQuotientsUptoRow.holds Try.pinned (OpenSpec.upto hartQuotientsSpec)

/-- 'burinlaw28.HartHalves', WHERE WHAT IT READS IS OF BULK AT MOST 1048576: true; the input reads as it did. -/
def hartHalvesUptoRow : OpenClaim := { program := "ytciehejifdbpoaa", sum := "a5afb1a44dccac30753664b0a9b6971f34d5c828e14165385cf6a80b5986d175", func := "burin/burinlaw28.HartHalves", spec := "hartHalves", unfollowed := true, recurses := true, apart := false, narrowed := true }
def HartHalvesUptoSaid : Prop := hartHalvesUptoRow.holds Try.pinned (OpenSpec.upto hartHalvesSpec)

/-- 'burinlaw28.HartGoesOn', WHERE WHAT IT READS IS OF BULK AT MOST 1048576: true; the input reads as it did. -/
def hartGoesOnUptoRow : OpenClaim := { program := "ytciehejifdbpoaa", sum := "a5afb1a44dccac30753664b0a9b6971f34d5c828e14165385cf6a80b5986d175", func := "burin/burinlaw28.HartGoesOn", spec := "hartGoesOn", unfollowed := true, recurses := true, apart := false, narrowed := true }
def HartGoesOnUptoSaid : Prop := hartGoesOnUptoRow.holds Try.pinned (OpenSpec.upto hartGoesOnSpec)

/-- 'burinlaw28.HartSteps', WHERE WHAT IT READS IS OF BULK AT MOST 1048576: true; the input reads as it did. -/
def hartStepsUptoRow : OpenClaim := { program := "ytciehejifdbpoaa", sum := "a5afb1a44dccac30753664b0a9b6971f34d5c828e14165385cf6a80b5986d175", func := "burin/burinlaw28.HartSteps", spec := "hartSteps", unfollowed := true, recurses := true, apart := false, narrowed := true }
def HartStepsUptoSaid : Prop := hartStepsUptoRow.holds Try.pinned (OpenSpec.upto hartStepsSpec)

/-- 'burinlaw29.AsmNumbers', WHERE WHAT IT READS IS OF BULK AT MOST 1048576: true; the input reads as it did. -/
def asmNumbersUptoRow : OpenClaim := { program := "ytciehejifdbpoaa", sum := "a5afb1a44dccac30753664b0a9b6971f34d5c828e14165385cf6a80b5986d175", func := "burin/burinlaw29.AsmNumbers", spec := "asmNumbers", unfollowed := true, recurses := true, apart := false, narrowed := true }
def AsmNumbersUptoSaid : Prop := asmNumbersUptoRow.holds Try.pinned (OpenSpec.upto asmNumbersSpec)

/-- 'burinlaw29.AsmBranches', WHERE WHAT IT READS IS OF BULK AT MOST 1048576: true; the input reads as it did. -/
def asmBranchesUptoRow : OpenClaim := { program := "ytciehejifdbpoaa", sum := "a5afb1a44dccac30753664b0a9b6971f34d5c828e14165385cf6a80b5986d175", func := "burin/burinlaw29.AsmBranches", spec := "asmBranches", unfollowed := true, recurses := true, apart := false, narrowed := true }
def AsmBranchesUptoSaid : Prop := asmBranchesUptoRow.holds Try.pinned (OpenSpec.upto asmBranchesSpec)

end Rows
end Go.Proofs.Ytciehejifdbpoaa
