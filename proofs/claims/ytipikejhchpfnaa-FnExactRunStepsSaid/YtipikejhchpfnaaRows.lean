/-
  No cell of these rows narrows 'for every input' (looked for: loops, veiled, ifaces, maps, wideKeys, modest, calm, conditions, laid).
  DERIVED. THE GIVEN ROWS OF THIS SEAT. 11 by the template 'for every input the law returns true; each argument reads behind the call as it read before'; 0 by the template 'total and deterministic' (their statements: YtipikejhchpfnaaTotals.lean).
  GIVEN WITH THE SEED: the statements are not yours to turn. If you find one false, say at which input.
  Laid BY PROGRAM, IN A SANDBOX (cutbox-rows.mjs): the forced cells as the released guide's own fill.sh prints them over the translation 1ffb64734a7d344f… (all of the seat's roots in one cut). By AI agents, Wed Nov 11 2026. No macro, syntax, notation, axiom, sorry.
-/
import Derived.Test.YtipikejhchpfnaaChecked
import GoSem.Claim
import GoSem.ClaimJoined
import GoSem.ClaimMapViews
import Derived.JoinedTies
import Derived.KernelRfl
namespace Go.Proofs.Ytipikejhchpfnaa
/- THE CELL 'sum', in the pinned program and in every row, IS THE sha256 OF THE DUMP (.gsa) THAT YtipikejhchpfnaaProg.lean LOADS. Nothing in Lean hashes anything: it is a label: what it is worth is what the hold of that sum in a sandbox is worth. -/
noncomputable def Try.pinned : Pinned := { name := "ytipikejhchpfnaa", sum := "1ffb64734a7d344fb5c1b4318026093423d16295576bcfe1fe8848abb52981bf", checked := Try.checked }
namespace Rows
def none {H : Type} : Left H := { results := [], args := [] }

/-- 'laws.FnExactUsedOnce': WHATEVER THE INPUT: true; the input reads as it did. -/
def fnExactUsedOnceSpec : ChangeSpec := { name := "fnExactUsedOnce", fn := fun _ => fun
  | [d1, d2, d3] => { results := [.lit (.bool true)], args := [d1, d2, d3] }
  | _ => none }
def fnExactUsedOnceRow : OpenClaim := { program := "ytipikejhchpfnaa", sum := "1ffb64734a7d344fb5c1b4318026093423d16295576bcfe1fe8848abb52981bf", func := "loop.example/g00373/laws.FnExactUsedOnce", spec := "fnExactUsedOnce", unfollowed := true, recurses := true, apart := false }
def FnExactUsedOnceSaid : Prop := fnExactUsedOnceRow.holds Try.pinned (OpenSpec.ofChange fnExactUsedOnceSpec)

/-- ITS FALSE NEIGHBOUR: 'it returns false'. Refute it at one input. -/
def fnExactUsedOnceWrong : ChangeSpec := { name := "fnExactUsedOnce", fn := fun _ => fun
  | [d1, d2, d3] => { results := [.lit (.bool false)], args := [d1, d2, d3] }
  | _ => none }
def FnExactUsedOnceWrongFalsely : Prop := fnExactUsedOnceRow.holds Try.pinned (OpenSpec.ofChange fnExactUsedOnceWrong)

/-- 'laws.FnExactNeedsAhead': WHATEVER THE INPUT: true; the input reads as it did. -/
def fnExactNeedsAheadSpec : ChangeSpec := { name := "fnExactNeedsAhead", fn := fun _ => fun
  | [d1, d2] => { results := [.lit (.bool true)], args := [d1, d2] }
  | _ => none }
def fnExactNeedsAheadRow : OpenClaim := { program := "ytipikejhchpfnaa", sum := "1ffb64734a7d344fb5c1b4318026093423d16295576bcfe1fe8848abb52981bf", func := "loop.example/g00373/laws.FnExactNeedsAhead", spec := "fnExactNeedsAhead", unfollowed := true, recurses := true, apart := false }
def FnExactNeedsAheadSaid : Prop := fnExactNeedsAheadRow.holds Try.pinned (OpenSpec.ofChange fnExactNeedsAheadSpec)

/-- ITS FALSE NEIGHBOUR: 'it returns false'. Refute it at one input. -/
def fnExactNeedsAheadWrong : ChangeSpec := { name := "fnExactNeedsAhead", fn := fun _ => fun
  | [d1, d2] => { results := [.lit (.bool false)], args := [d1, d2] }
  | _ => none }
def FnExactNeedsAheadWrongFalsely : Prop := fnExactNeedsAheadRow.holds Try.pinned (OpenSpec.ofChange fnExactNeedsAheadWrong)

/-- 'laws.FnExactFlatSteps': WHATEVER THE INPUT: true; the input reads as it did. -/
def fnExactFlatStepsSpec : ChangeSpec := { name := "fnExactFlatSteps", fn := fun _ => fun
  | [d] => { results := [.lit (.bool true)], args := [d] }
  | _ => none }
def fnExactFlatStepsRow : OpenClaim := { program := "ytipikejhchpfnaa", sum := "1ffb64734a7d344fb5c1b4318026093423d16295576bcfe1fe8848abb52981bf", func := "loop.example/g00373/laws.FnExactFlatSteps", spec := "fnExactFlatSteps", unfollowed := true, recurses := true, apart := false }
def FnExactFlatStepsSaid : Prop := fnExactFlatStepsRow.holds Try.pinned (OpenSpec.ofChange fnExactFlatStepsSpec)

/-- ITS FALSE NEIGHBOUR: 'it returns false'. Refute it at one input. -/
def fnExactFlatStepsWrong : ChangeSpec := { name := "fnExactFlatSteps", fn := fun _ => fun
  | [d] => { results := [.lit (.bool false)], args := [d] }
  | _ => none }
def FnExactFlatStepsWrongFalsely : Prop := fnExactFlatStepsRow.holds Try.pinned (OpenSpec.ofChange fnExactFlatStepsWrong)

/-- 'laws.FnExactDropIdle': WHATEVER THE INPUT: true; the input reads as it did. -/
def fnExactDropIdleSpec : ChangeSpec := { name := "fnExactDropIdle", fn := fun _ => fun
  | [d1, d2] => { results := [.lit (.bool true)], args := [d1, d2] }
  | _ => none }
def fnExactDropIdleRow : OpenClaim := { program := "ytipikejhchpfnaa", sum := "1ffb64734a7d344fb5c1b4318026093423d16295576bcfe1fe8848abb52981bf", func := "loop.example/g00373/laws.FnExactDropIdle", spec := "fnExactDropIdle", unfollowed := true, recurses := true, apart := false }
def FnExactDropIdleSaid : Prop := fnExactDropIdleRow.holds Try.pinned (OpenSpec.ofChange fnExactDropIdleSpec)

/-- ITS FALSE NEIGHBOUR: 'it returns false'. Refute it at one input. -/
def fnExactDropIdleWrong : ChangeSpec := { name := "fnExactDropIdle", fn := fun _ => fun
  | [d1, d2] => { results := [.lit (.bool false)], args := [d1, d2] }
  | _ => none }
def FnExactDropIdleWrongFalsely : Prop := fnExactDropIdleRow.holds Try.pinned (OpenSpec.ofChange fnExactDropIdleWrong)

/-- 'laws.FnExactRunFlow': WHATEVER THE INPUT: true; the input reads as it did. -/
def fnExactRunFlowSpec : ChangeSpec := { name := "fnExactRunFlow", fn := fun _ => fun
  | [d1, d2, d3] => { results := [.lit (.bool true)], args := [d1, d2, d3] }
  | _ => none }
def fnExactRunFlowRow : OpenClaim := { program := "ytipikejhchpfnaa", sum := "1ffb64734a7d344fb5c1b4318026093423d16295576bcfe1fe8848abb52981bf", func := "loop.example/g00373/laws.FnExactRunFlow", spec := "fnExactRunFlow", unfollowed := true, recurses := true, apart := false }
def FnExactRunFlowSaid : Prop := fnExactRunFlowRow.holds Try.pinned (OpenSpec.ofChange fnExactRunFlowSpec)

/-- ITS FALSE NEIGHBOUR: 'it returns false'. Refute it at one input. -/
def fnExactRunFlowWrong : ChangeSpec := { name := "fnExactRunFlow", fn := fun _ => fun
  | [d1, d2, d3] => { results := [.lit (.bool false)], args := [d1, d2, d3] }
  | _ => none }
def FnExactRunFlowWrongFalsely : Prop := fnExactRunFlowRow.holds Try.pinned (OpenSpec.ofChange fnExactRunFlowWrong)

/-- 'laws.FnExactSavedBy': WHATEVER THE INPUT: true; the input reads as it did. -/
def fnExactSavedBySpec : ChangeSpec := { name := "fnExactSavedBy", fn := fun _ => fun
  | [d1, d2] => { results := [.lit (.bool true)], args := [d1, d2] }
  | _ => none }
def fnExactSavedByRow : OpenClaim := { program := "ytipikejhchpfnaa", sum := "1ffb64734a7d344fb5c1b4318026093423d16295576bcfe1fe8848abb52981bf", func := "loop.example/g00373/laws.FnExactSavedBy", spec := "fnExactSavedBy", unfollowed := true, recurses := true, apart := false }
def FnExactSavedBySaid : Prop := fnExactSavedByRow.holds Try.pinned (OpenSpec.ofChange fnExactSavedBySpec)

/-- ITS FALSE NEIGHBOUR: 'it returns false'. Refute it at one input. -/
def fnExactSavedByWrong : ChangeSpec := { name := "fnExactSavedBy", fn := fun _ => fun
  | [d1, d2] => { results := [.lit (.bool false)], args := [d1, d2] }
  | _ => none }
def FnExactSavedByWrongFalsely : Prop := fnExactSavedByRow.holds Try.pinned (OpenSpec.ofChange fnExactSavedByWrong)

/-- 'laws.FnExactStackBlock': WHATEVER THE INPUT: true; the input reads as it did. -/
def fnExactStackBlockSpec : ChangeSpec := { name := "fnExactStackBlock", fn := fun _ => fun
  | [d1, d2] => { results := [.lit (.bool true)], args := [d1, d2] }
  | _ => none }
def fnExactStackBlockRow : OpenClaim := { program := "ytipikejhchpfnaa", sum := "1ffb64734a7d344fb5c1b4318026093423d16295576bcfe1fe8848abb52981bf", func := "loop.example/g00373/laws.FnExactStackBlock", spec := "fnExactStackBlock", unfollowed := true, recurses := true, apart := false }
def FnExactStackBlockSaid : Prop := fnExactStackBlockRow.holds Try.pinned (OpenSpec.ofChange fnExactStackBlockSpec)

/-- ITS FALSE NEIGHBOUR: 'it returns false'. Refute it at one input. -/
def fnExactStackBlockWrong : ChangeSpec := { name := "fnExactStackBlock", fn := fun _ => fun
  | [d1, d2] => { results := [.lit (.bool false)], args := [d1, d2] }
  | _ => none }
def FnExactStackBlockWrongFalsely : Prop := fnExactStackBlockRow.holds Try.pinned (OpenSpec.ofChange fnExactStackBlockWrong)

/-- 'laws.FnExactStepsDone': WHATEVER THE INPUT: true; the input reads as it did. -/
def fnExactStepsDoneSpec : ChangeSpec := { name := "fnExactStepsDone", fn := fun _ => fun
  | [d1, d2, d3] => { results := [.lit (.bool true)], args := [d1, d2, d3] }
  | _ => none }
def fnExactStepsDoneRow : OpenClaim := { program := "ytipikejhchpfnaa", sum := "1ffb64734a7d344fb5c1b4318026093423d16295576bcfe1fe8848abb52981bf", func := "loop.example/g00373/laws.FnExactStepsDone", spec := "fnExactStepsDone", unfollowed := true, recurses := true, apart := false }
def FnExactStepsDoneSaid : Prop := fnExactStepsDoneRow.holds Try.pinned (OpenSpec.ofChange fnExactStepsDoneSpec)

/-- ITS FALSE NEIGHBOUR: 'it returns false'. Refute it at one input. -/
def fnExactStepsDoneWrong : ChangeSpec := { name := "fnExactStepsDone", fn := fun _ => fun
  | [d1, d2, d3] => { results := [.lit (.bool false)], args := [d1, d2, d3] }
  | _ => none }
def FnExactStepsDoneWrongFalsely : Prop := fnExactStepsDoneRow.holds Try.pinned (OpenSpec.ofChange fnExactStepsDoneWrong)

/-- 'laws.FnExactAlike': WHATEVER THE INPUT: true; the input reads as it did. -/
def fnExactAlikeSpec : ChangeSpec := { name := "fnExactAlike", fn := fun _ => fun
  | [d1, d2, d3, d4] => { results := [.lit (.bool true)], args := [d1, d2, d3, d4] }
  | _ => none }
def fnExactAlikeRow : OpenClaim := { program := "ytipikejhchpfnaa", sum := "1ffb64734a7d344fb5c1b4318026093423d16295576bcfe1fe8848abb52981bf", func := "loop.example/g00373/laws.FnExactAlike", spec := "fnExactAlike", unfollowed := true, recurses := true, apart := false }
def FnExactAlikeSaid : Prop := fnExactAlikeRow.holds Try.pinned (OpenSpec.ofChange fnExactAlikeSpec)

/-- ITS FALSE NEIGHBOUR: 'it returns false'. Refute it at one input. -/
def fnExactAlikeWrong : ChangeSpec := { name := "fnExactAlike", fn := fun _ => fun
  | [d1, d2, d3, d4] => { results := [.lit (.bool false)], args := [d1, d2, d3, d4] }
  | _ => none }
def FnExactAlikeWrongFalsely : Prop := fnExactAlikeRow.holds Try.pinned (OpenSpec.ofChange fnExactAlikeWrong)

/-- 'laws.FnExactSameRuns': WHATEVER THE INPUT: true; the input reads as it did. -/
def fnExactSameRunsSpec : ChangeSpec := { name := "fnExactSameRuns", fn := fun _ => fun
  | [d1, d2, d3, d4] => { results := [.lit (.bool true)], args := [d1, d2, d3, d4] }
  | _ => none }
def fnExactSameRunsRow : OpenClaim := { program := "ytipikejhchpfnaa", sum := "1ffb64734a7d344fb5c1b4318026093423d16295576bcfe1fe8848abb52981bf", func := "loop.example/g00373/laws.FnExactSameRuns", spec := "fnExactSameRuns", unfollowed := true, recurses := true, apart := false }
def FnExactSameRunsSaid : Prop := fnExactSameRunsRow.holds Try.pinned (OpenSpec.ofChange fnExactSameRunsSpec)

/-- ITS FALSE NEIGHBOUR: 'it returns false'. Refute it at one input. -/
def fnExactSameRunsWrong : ChangeSpec := { name := "fnExactSameRuns", fn := fun _ => fun
  | [d1, d2, d3, d4] => { results := [.lit (.bool false)], args := [d1, d2, d3, d4] }
  | _ => none }
def FnExactSameRunsWrongFalsely : Prop := fnExactSameRunsRow.holds Try.pinned (OpenSpec.ofChange fnExactSameRunsWrong)

/-- 'laws.FnExactRunSteps': WHATEVER THE INPUT: true; the input reads as it did. -/
def fnExactRunStepsSpec : ChangeSpec := { name := "fnExactRunSteps", fn := fun _ => fun
  | [d1, d2, d3] => { results := [.lit (.bool true)], args := [d1, d2, d3] }
  | _ => none }
def fnExactRunStepsRow : OpenClaim := { program := "ytipikejhchpfnaa", sum := "1ffb64734a7d344fb5c1b4318026093423d16295576bcfe1fe8848abb52981bf", func := "loop.example/g00373/laws.FnExactRunSteps", spec := "fnExactRunSteps", unfollowed := true, recurses := true, apart := false }
def FnExactRunStepsSaid : Prop := fnExactRunStepsRow.holds Try.pinned (OpenSpec.ofChange fnExactRunStepsSpec)

/-- ITS FALSE NEIGHBOUR: 'it returns false'. Refute it at one input. -/
def fnExactRunStepsWrong : ChangeSpec := { name := "fnExactRunSteps", fn := fun _ => fun
  | [d1, d2, d3] => { results := [.lit (.bool false)], args := [d1, d2, d3] }
  | _ => none }
def FnExactRunStepsWrongFalsely : Prop := fnExactRunStepsRow.holds Try.pinned (OpenSpec.ofChange fnExactRunStepsWrong)

/- THE SECOND FORM. 'bulk': how many values and letters a reading holds, each counted each time it is reached (what is shared counts as often as it is met; a slice's spare places count too). A statement '..UptoSaid' is the law's where the arguments, and the package variables that the reading takes, are together of bulk at most 1048576: NARROWER than '..Said'. Prove '..Said' where nothing that the law and all that it calls make is longer than what came in: it says more and counts as full. Else prove '..UptoSaid'. A law counts once. -/
mutual
def uptoBulk {H : Type} : DataW H → Nat
  | .lit (.string bytes) => bytes.length + 1
  | .lit _ => 1
  | .nil => 1
  | .ptr d => uptoBulk d + 1
  | .slice elems spare => uptoBulkAll elems + uptoBulkAll spare + 1
  | .agg parts => uptoBulkAll parts + 1
  | .iface _ d => uptoBulk d + 1
  | .map entries => uptoBulkEntries entries + 1
  | .held _ => 1
def uptoBulkAll {H : Type} : List (DataW H) → Nat
  | [] => 0
  | d :: r => uptoBulk d + uptoBulkAll r
def uptoBulkEntries {H : Type} : List (Lit × DataW H) → Nat
  | [] => 0
  | x :: r => uptoBulkEntry x + uptoBulkEntries r
def uptoBulkEntry {H : Type} : Lit × DataW H → Nat
  | (.string bytes, d) => bytes.length + uptoBulk d + 1
  | (_, d) => uptoBulk d + 1
 end
def uptoSmall : (H : Type) → List (DataW H) → Bool := fun _ ds => decide (uptoBulkAll ds ≤ 1048576)
def OpenSpec.upto (s : _root_.Go.ChangeSpec) : _root_.Go.OpenSpec := { _root_.Go.OpenSpec.ofChange s with cond := some uptoSmall }

/-- 'laws.FnExactUsedOnce', WHERE WHAT IT READS IS OF BULK AT MOST 1048576: true; the input reads as it did. -/
def fnExactUsedOnceUptoRow : OpenClaim := { program := "ytipikejhchpfnaa", sum := "1ffb64734a7d344fb5c1b4318026093423d16295576bcfe1fe8848abb52981bf", func := "loop.example/g00373/laws.FnExactUsedOnce", spec := "fnExactUsedOnce", unfollowed := true, recurses := true, apart := false, narrowed := true }
def FnExactUsedOnceUptoSaid : Prop := fnExactUsedOnceUptoRow.holds Try.pinned (OpenSpec.upto fnExactUsedOnceSpec)

/-- 'laws.FnExactNeedsAhead', WHERE WHAT IT READS IS OF BULK AT MOST 1048576: true; the input reads as it did. -/
def fnExactNeedsAheadUptoRow : OpenClaim := { program := "ytipikejhchpfnaa", sum := "1ffb64734a7d344fb5c1b4318026093423d16295576bcfe1fe8848abb52981bf", func := "loop.example/g00373/laws.FnExactNeedsAhead", spec := "fnExactNeedsAhead", unfollowed := true, recurses := true, apart := false, narrowed := true }
def FnExactNeedsAheadUptoSaid : Prop := fnExactNeedsAheadUptoRow.holds Try.pinned (OpenSpec.upto fnExactNeedsAheadSpec)

/-- 'laws.FnExactFlatSteps', WHERE WHAT IT READS IS OF BULK AT MOST 1048576: true; the input reads as it did. -/
def fnExactFlatStepsUptoRow : OpenClaim := { program := "ytipikejhchpfnaa", sum := "1ffb64734a7d344fb5c1b4318026093423d16295576bcfe1fe8848abb52981bf", func := "loop.example/g00373/laws.FnExactFlatSteps", spec := "fnExactFlatSteps", unfollowed := true, recurses := true, apart := false, narrowed := true }
def FnExactFlatStepsUptoSaid : Prop := fnExactFlatStepsUptoRow.holds Try.pinned (OpenSpec.upto fnExactFlatStepsSpec)

/-- 'laws.FnExactDropIdle', WHERE WHAT IT READS IS OF BULK AT MOST 1048576: true; the input reads as it did. -/
def fnExactDropIdleUptoRow : OpenClaim := { program := "ytipikejhchpfnaa", sum := "1ffb64734a7d344fb5c1b4318026093423d16295576bcfe1fe8848abb52981bf", func := "loop.example/g00373/laws.FnExactDropIdle", spec := "fnExactDropIdle", unfollowed := true, recurses := true, apart := false, narrowed := true }
def FnExactDropIdleUptoSaid : Prop := fnExactDropIdleUptoRow.holds Try.pinned (OpenSpec.upto fnExactDropIdleSpec)

/-- 'laws.FnExactRunFlow', WHERE WHAT IT READS IS OF BULK AT MOST 1048576: true; the input reads as it did. -/
def fnExactRunFlowUptoRow : OpenClaim := { program := "ytipikejhchpfnaa", sum := "1ffb64734a7d344fb5c1b4318026093423d16295576bcfe1fe8848abb52981bf", func := "loop.example/g00373/laws.FnExactRunFlow", spec := "fnExactRunFlow", unfollowed := true, recurses := true, apart := false, narrowed := true }
def FnExactRunFlowUptoSaid : Prop := fnExactRunFlowUptoRow.holds Try.pinned (OpenSpec.upto fnExactRunFlowSpec)

/-- 'laws.FnExactSavedBy', WHERE WHAT IT READS IS OF BULK AT MOST 1048576: true; the input reads as it did. -/
def fnExactSavedByUptoRow : OpenClaim := { program := "ytipikejhchpfnaa", sum := "1ffb64734a7d344fb5c1b4318026093423d16295576bcfe1fe8848abb52981bf", func := "loop.example/g00373/laws.FnExactSavedBy", spec := "fnExactSavedBy", unfollowed := true, recurses := true, apart := false, narrowed := true }
def FnExactSavedByUptoSaid : Prop := fnExactSavedByUptoRow.holds Try.pinned (OpenSpec.upto fnExactSavedBySpec)

/-- 'laws.FnExactStackBlock', WHERE WHAT IT READS IS OF BULK AT MOST 1048576: true; the input reads as it did. -/
def fnExactStackBlockUptoRow : OpenClaim := { program := "ytipikejhchpfnaa", sum := "1ffb64734a7d344fb5c1b4318026093423d16295576bcfe1fe8848abb52981bf", func := "loop.example/g00373/laws.FnExactStackBlock", spec := "fnExactStackBlock", unfollowed := true, recurses := true, apart := false, narrowed := true }
def FnExactStackBlockUptoSaid : Prop := fnExactStackBlockUptoRow.holds Try.pinned (OpenSpec.upto fnExactStackBlockSpec)

/-- 'laws.FnExactStepsDone', WHERE WHAT IT READS IS OF BULK AT MOST 1048576: true; the input reads as it did. -/
def fnExactStepsDoneUptoRow : OpenClaim := { program := "ytipikejhchpfnaa", sum := "1ffb64734a7d344fb5c1b4318026093423d16295576bcfe1fe8848abb52981bf", func := "loop.example/g00373/laws.FnExactStepsDone", spec := "fnExactStepsDone", unfollowed := true, recurses := true, apart := false, narrowed := true }
def FnExactStepsDoneUptoSaid : Prop := fnExactStepsDoneUptoRow.holds Try.pinned (OpenSpec.upto fnExactStepsDoneSpec)

/-- 'laws.FnExactAlike', WHERE WHAT IT READS IS OF BULK AT MOST 1048576: true; the input reads as it did. -/
def fnExactAlikeUptoRow : OpenClaim := { program := "ytipikejhchpfnaa", sum := "1ffb64734a7d344fb5c1b4318026093423d16295576bcfe1fe8848abb52981bf", func := "loop.example/g00373/laws.FnExactAlike", spec := "fnExactAlike", unfollowed := true, recurses := true, apart := false, narrowed := true }
def FnExactAlikeUptoSaid : Prop := fnExactAlikeUptoRow.holds Try.pinned (OpenSpec.upto fnExactAlikeSpec)

/-- 'laws.FnExactSameRuns', WHERE WHAT IT READS IS OF BULK AT MOST 1048576: true; the input reads as it did. -/
def fnExactSameRunsUptoRow : OpenClaim := { program := "ytipikejhchpfnaa", sum := "1ffb64734a7d344fb5c1b4318026093423d16295576bcfe1fe8848abb52981bf", func := "loop.example/g00373/laws.FnExactSameRuns", spec := "fnExactSameRuns", unfollowed := true, recurses := true, apart := false, narrowed := true }
def FnExactSameRunsUptoSaid : Prop := fnExactSameRunsUptoRow.holds Try.pinned (OpenSpec.upto fnExactSameRunsSpec)

/-- 'laws.FnExactRunSteps', WHERE WHAT IT READS IS OF BULK AT MOST 1048576: true; the input reads as it did. -/
def fnExactRunStepsUptoRow : OpenClaim := { program := "ytipikejhchpfnaa", sum := "1ffb64734a7d344fb5c1b4318026093423d16295576bcfe1fe8848abb52981bf", func := "loop.example/g00373/laws.FnExactRunSteps", spec := "fnExactRunSteps", unfollowed := true, recurses := true, apart := false, narrowed := true }
def FnExactRunStepsUptoSaid : Prop := fnExactRunStepsUptoRow.holds Try.pinned (OpenSpec.upto fnExactRunStepsSpec)

end Rows
end Go.Proofs.Ytipikejhchpfnaa
