/-
  No cell of these rows narrows 'for every input' (looked for: loops, veiled, ifaces, maps, wideKeys, modest, calm, conditions, laid).
  DERIVED. THE GIVEN ROWS OF THIS SEAT. 4 by the template 'for every input the law returns true; each argument reads behind the call as it read before'; 0 by the template 'total and deterministic' (their statements: YtfjmogpgccnccaaGreatTotals.lean).
  GIVEN WITH THE SEED: the statements are not yours to turn. If you find one false, say at which input.
  Laid BY PROGRAM, IN A SANDBOX (cutbox-rows.mjs): the forced cells as the released guide's own fill.sh prints them over the translation 75152f3701bb095b… (all of the seat's roots in one cut). By AI agents, Wed Nov 11 2026. No macro, syntax, notation, axiom, sorry.
-/
import Derived.Test.YtfjmogpgccnccaaGreatChecked
import GoSem.Claim
import GoSem.ClaimJoined
import GoSem.ClaimMapViews
import Derived.JoinedTies
import Derived.KernelRfl
namespace Go.Proofs.YtfjmogpgccnccaaGreat
/- THE CELL 'sum', in the pinned program and in every row, IS THE sha256 OF THE DUMP (.gsa) THAT YtfjmogpgccnccaaGreatProg.lean LOADS. Nothing in Lean hashes anything: it is a label: what it is worth is what the hold of that sum in a sandbox is worth. -/
noncomputable def Tryz.pinned : Pinned := { name := "ytfjmogpgccnccaagreat", sum := "75152f3701bb095b11134d746391f459d6574e0096a1e6f7894909a20302ef53", checked := Tryz.checked }
namespace Rows
def none {H : Type} : Left H := { results := [], args := [] }

/-- 'laws.FnExactWorkDone': WHATEVER THE INPUT: true; the input reads as it did. -/
def fnExactWorkDoneSpec : ChangeSpec := { name := "fnExactWorkDone", fn := fun _ => fun
  | [d1, d2, d3] => { results := [.lit (.bool true)], args := [d1, d2, d3] }
  | _ => none }
def fnExactWorkDoneRow : OpenClaim := { program := "ytfjmogpgccnccaagreat", sum := "75152f3701bb095b11134d746391f459d6574e0096a1e6f7894909a20302ef53", func := "loop.example/g00373/laws.FnExactWorkDone", spec := "fnExactWorkDone", unfollowed := true, recurses := true, apart := false }
def FnExactWorkDoneSaid : Prop := fnExactWorkDoneRow.holds Tryz.pinned (OpenSpec.ofChange fnExactWorkDoneSpec)

/-- ITS FALSE NEIGHBOUR: 'it returns false'. Refute it at one input. -/
def fnExactWorkDoneWrong : ChangeSpec := { name := "fnExactWorkDone", fn := fun _ => fun
  | [d1, d2, d3] => { results := [.lit (.bool false)], args := [d1, d2, d3] }
  | _ => none }
def FnExactWorkDoneWrongFalsely : Prop := fnExactWorkDoneRow.holds Tryz.pinned (OpenSpec.ofChange fnExactWorkDoneWrong)

/-- 'laws.FnExactTraceSsa': WHATEVER THE INPUT: true; the input reads as it did. -/
def fnExactTraceSsaSpec : ChangeSpec := { name := "fnExactTraceSsa", fn := fun _ => fun
  | [d1, d2, d3] => { results := [.lit (.bool true)], args := [d1, d2, d3] }
  | _ => none }
def fnExactTraceSsaRow : OpenClaim := { program := "ytfjmogpgccnccaagreat", sum := "75152f3701bb095b11134d746391f459d6574e0096a1e6f7894909a20302ef53", func := "loop.example/g00373/laws.FnExactTraceSsa", spec := "fnExactTraceSsa", unfollowed := true, recurses := true, apart := false }
def FnExactTraceSsaSaid : Prop := fnExactTraceSsaRow.holds Tryz.pinned (OpenSpec.ofChange fnExactTraceSsaSpec)

/-- ITS FALSE NEIGHBOUR: 'it returns false'. Refute it at one input. -/
def fnExactTraceSsaWrong : ChangeSpec := { name := "fnExactTraceSsa", fn := fun _ => fun
  | [d1, d2, d3] => { results := [.lit (.bool false)], args := [d1, d2, d3] }
  | _ => none }
def FnExactTraceSsaWrongFalsely : Prop := fnExactTraceSsaRow.holds Tryz.pinned (OpenSpec.ofChange fnExactTraceSsaWrong)

/-- 'laws.FnExactRunSsa': WHATEVER THE INPUT: true; the input reads as it did. -/
def fnExactRunSsaSpec : ChangeSpec := { name := "fnExactRunSsa", fn := fun _ => fun
  | [d1, d2, d3] => { results := [.lit (.bool true)], args := [d1, d2, d3] }
  | _ => none }
def fnExactRunSsaRow : OpenClaim := { program := "ytfjmogpgccnccaagreat", sum := "75152f3701bb095b11134d746391f459d6574e0096a1e6f7894909a20302ef53", func := "loop.example/g00373/laws.FnExactRunSsa", spec := "fnExactRunSsa", unfollowed := true, recurses := true, apart := false }
def FnExactRunSsaSaid : Prop := fnExactRunSsaRow.holds Tryz.pinned (OpenSpec.ofChange fnExactRunSsaSpec)

/-- ITS FALSE NEIGHBOUR: 'it returns false'. Refute it at one input. -/
def fnExactRunSsaWrong : ChangeSpec := { name := "fnExactRunSsa", fn := fun _ => fun
  | [d1, d2, d3] => { results := [.lit (.bool false)], args := [d1, d2, d3] }
  | _ => none }
def FnExactRunSsaWrongFalsely : Prop := fnExactRunSsaRow.holds Tryz.pinned (OpenSpec.ofChange fnExactRunSsaWrong)

/-- 'laws.FnFlows': WHATEVER THE INPUT: true; the input reads as it did. -/
def fnFlowsSpec : ChangeSpec := { name := "fnFlows", fn := fun _ => fun
  | [d1, d2] => { results := [.lit (.bool true)], args := [d1, d2] }
  | _ => none }
def fnFlowsRow : OpenClaim := { program := "ytfjmogpgccnccaagreat", sum := "75152f3701bb095b11134d746391f459d6574e0096a1e6f7894909a20302ef53", func := "loop.example/g00373/laws.FnFlows", spec := "fnFlows", unfollowed := true, recurses := true, apart := false }
def FnFlowsSaid : Prop := fnFlowsRow.holds Tryz.pinned (OpenSpec.ofChange fnFlowsSpec)

/-- ITS FALSE NEIGHBOUR: 'it returns false'. Refute it at one input. -/
def fnFlowsWrong : ChangeSpec := { name := "fnFlows", fn := fun _ => fun
  | [d1, d2] => { results := [.lit (.bool false)], args := [d1, d2] }
  | _ => none }
def FnFlowsWrongFalsely : Prop := fnFlowsRow.holds Tryz.pinned (OpenSpec.ofChange fnFlowsWrong)

/- THE SECOND FORM. 'bulk': how many values and letters a reading holds, each counted each time it is reached (what is shared counts as often as it is met; a slice's spare places count too). A statement '..UptoSaid' is the law's where the arguments, and the package variables that the reading takes, are together of bulk at most 1048576: NARROWER than '..Said'. Prove '..Said' where nothing that the law and all that it calls make is longer than what came in: it says more and counts as full. Else prove '..UptoSaid'. A law counts once. -/
mutual
def uptoBulk {H : Type} : DataW H → Nat
  | .lit (.string bytes) => bytes.length + 1
  | .lit _ => 1
  | .nil => 1
  | .ptr d => uptoBulk d + 1
  | .slice elems spare => uptoBulkAll elems + uptoBulkAll spare + 1
  | .agg parts => uptoBulkAll parts + 1
  | .iface _ d => uptoBulk d + 1
  | .map entries => uptoBulkEntries entries + 1
  | .held _ => 1
def uptoBulkAll {H : Type} : List (DataW H) → Nat
  | [] => 0
  | d :: r => uptoBulk d + uptoBulkAll r
def uptoBulkEntries {H : Type} : List (Lit × DataW H) → Nat
  | [] => 0
  | x :: r => uptoBulkEntry x + uptoBulkEntries r
def uptoBulkEntry {H : Type} : Lit × DataW H → Nat
  | (.string bytes, d) => bytes.length + uptoBulk d + 1
  | (_, d) => uptoBulk d + 1
 end
def uptoSmall : (H : Type) → List (DataW H) → Bool := fun _ ds => decide (uptoBulkAll ds ≤ 1048576)
def OpenSpec.upto (s : _root_.Go.ChangeSpec) : _root_.Go.OpenSpec := { _root_.Go.OpenSpec.ofChange s with cond := some uptoSmall }

/-- 'laws.FnExactWorkDone', WHERE WHAT IT READS IS OF BULK AT MOST 1048576: true; the input reads as it did. -/
def fnExactWorkDoneUptoRow : OpenClaim := { program := "ytfjmogpgccnccaagreat", sum := "75152f3701bb095b11134d746391f459d6574e0096a1e6f7894909a20302ef53", func := "loop.example/g00373/laws.FnExactWorkDone", spec := "fnExactWorkDone", unfollowed := true, recurses := true, apart := false, narrowed := true }
def FnExactWorkDoneUptoSaid : Prop := fnExactWorkDoneUptoRow.holds Tryz.pinned (OpenSpec.upto fnExactWorkDoneSpec)

/-- 'laws.FnExactTraceSsa', WHERE WHAT IT READS IS OF BULK AT MOST 1048576: true; the input reads as it did. -/
def fnExactTraceSsaUptoRow : OpenClaim := { program := "ytfjmogpgccnccaagreat", sum := "75152f3701bb095b11134d746391f459d6574e0096a1e6f7894909a20302ef53", func := "loop.example/g00373/laws.FnExactTraceSsa", spec := "fnExactTraceSsa", unfollowed := true, recurses := true, apart := false, narrowed := true }
def FnExactTraceSsaUptoSaid : Prop := fnExactTraceSsaUptoRow.holds Tryz.pinned (OpenSpec.upto fnExactTraceSsaSpec)

/-- 'laws.FnExactRunSsa', WHERE WHAT IT READS IS OF BULK AT MOST 1048576: true; the input reads as it did. -/
def fnExactRunSsaUptoRow : OpenClaim := { program := "ytfjmogpgccnccaagreat", sum := "75152f3701bb095b11134d746391f459d6574e0096a1e6f7894909a20302ef53", func := "loop.example/g00373/laws.FnExactRunSsa", spec := "fnExactRunSsa", unfollowed := true, recurses := true, apart := false, narrowed := true }
def FnExactRunSsaUptoSaid : Prop := fnExactRunSsaUptoRow.holds Tryz.pinned (OpenSpec.upto fnExactRunSsaSpec)

/-- 'laws.FnFlows', WHERE WHAT IT READS IS OF BULK AT MOST 1048576: true; the input reads as it did. -/
def fnFlowsUptoRow : OpenClaim := { program := "ytfjmogpgccnccaagreat", sum := "75152f3701bb095b11134d746391f459d6574e0096a1e6f7894909a20302ef53", func := "loop.example/g00373/laws.FnFlows", spec := "fnFlows", unfollowed := true, recurses := true, apart := false, narrowed := true }
def FnFlowsUptoSaid : Prop := fnFlowsUptoRow.holds Tryz.pinned (OpenSpec.upto fnFlowsSpec)

end Rows
end Go.Proofs.YtfjmogpgccnccaaGreat
