/-
  No cell of these rows narrows 'for every input' (looked for: loops, veiled, ifaces, maps, wideKeys, modest, calm, conditions, laid).
  DERIVED. THE GIVEN ROWS OF THIS SEAT. 4 by the template 'for every input the law returns true; each argument reads behind the call as it read before'; 0 by the template 'total and deterministic' (their statements: YtmigpfkjhdaijabTotals.lean).
  GIVEN WITH THE SEED: the statements are not yours to turn. If you find one false, say at which input.
  Laid BY PROGRAM, IN A SANDBOX (cutbox-rows.mjs): the forced cells as the released guide's own fill.sh prints them over the translation 989d3e1eded40f27… (all of the seat's roots in one cut). By AI agents, Wed Nov 11 2026. No macro, syntax, notation, axiom, sorry.
-/
import Derived.Test.YtmigpfkjhdaijabChecked
import GoSem.Claim
import GoSem.ClaimJoined
import GoSem.ClaimMapViews
import Derived.JoinedTies
import Derived.KernelRfl
namespace Go.Proofs.Ytmigpfkjhdaijab
/- THE CELL 'sum', in the pinned program and in every row, IS THE sha256 OF THE DUMP (.gsa) THAT YtmigpfkjhdaijabProg.lean LOADS. Nothing in Lean hashes anything: it is a label: what it is worth is what the hold of that sum in a sandbox is worth. -/
noncomputable def Try.pinned : Pinned := { name := "ytmigpfkjhdaijab", sum := "989d3e1eded40f27b99677aca44b809e50e0fb17c8f040c1828b49dbb9dd4038", checked := Try.checked }
namespace Rows
def none {H : Type} : Left H := { results := [], args := [] }

/-- 'laws.FnPairs': WHATEVER THE INPUT: true; the input reads as it did. -/
def fnPairsSpec : ChangeSpec := { name := "fnPairs", fn := fun _ => fun
  | [d1, d2] => { results := [.lit (.bool true)], args := [d1, d2] }
  | _ => none }
def fnPairsRow : OpenClaim := { program := "ytmigpfkjhdaijab", sum := "989d3e1eded40f27b99677aca44b809e50e0fb17c8f040c1828b49dbb9dd4038", func := "loop.example/g00373/laws.FnPairs", spec := "fnPairs", unfollowed := true, recurses := true, apart := false }
def FnPairsSaid : Prop := fnPairsRow.holds Try.pinned (OpenSpec.ofChange fnPairsSpec)

/-- ITS FALSE NEIGHBOUR: 'it returns false'. Refute it at one input. -/
def fnPairsWrong : ChangeSpec := { name := "fnPairs", fn := fun _ => fun
  | [d1, d2] => { results := [.lit (.bool false)], args := [d1, d2] }
  | _ => none }
def FnPairsWrongFalsely : Prop := fnPairsRow.holds Try.pinned (OpenSpec.ofChange fnPairsWrong)

/-- 'laws.FnExactCriticalPairs': WHATEVER THE INPUT: true; the input reads as it did. -/
def fnExactCriticalPairsSpec : ChangeSpec := { name := "fnExactCriticalPairs", fn := fun _ => fun
  | [d] => { results := [.lit (.bool true)], args := [d] }
  | _ => none }
def fnExactCriticalPairsRow : OpenClaim := { program := "ytmigpfkjhdaijab", sum := "989d3e1eded40f27b99677aca44b809e50e0fb17c8f040c1828b49dbb9dd4038", func := "loop.example/g00373/laws.FnExactCriticalPairs", spec := "fnExactCriticalPairs", unfollowed := true, recurses := true, apart := false }
def FnExactCriticalPairsSaid : Prop := fnExactCriticalPairsRow.holds Try.pinned (OpenSpec.ofChange fnExactCriticalPairsSpec)

/-- ITS FALSE NEIGHBOUR: 'it returns false'. Refute it at one input. -/
def fnExactCriticalPairsWrong : ChangeSpec := { name := "fnExactCriticalPairs", fn := fun _ => fun
  | [d] => { results := [.lit (.bool false)], args := [d] }
  | _ => none }
def FnExactCriticalPairsWrongFalsely : Prop := fnExactCriticalPairsRow.holds Try.pinned (OpenSpec.ofChange fnExactCriticalPairsWrong)

/-- 'laws.FnExactIsConfluent': WHATEVER THE INPUT: true; the input reads as it did. -/
def fnExactIsConfluentSpec : ChangeSpec := { name := "fnExactIsConfluent", fn := fun _ => fun
  | [d] => { results := [.lit (.bool true)], args := [d] }
  | _ => none }
def fnExactIsConfluentRow : OpenClaim := { program := "ytmigpfkjhdaijab", sum := "989d3e1eded40f27b99677aca44b809e50e0fb17c8f040c1828b49dbb9dd4038", func := "loop.example/g00373/laws.FnExactIsConfluent", spec := "fnExactIsConfluent", unfollowed := true, recurses := true, apart := false }
def FnExactIsConfluentSaid : Prop := fnExactIsConfluentRow.holds Try.pinned (OpenSpec.ofChange fnExactIsConfluentSpec)

/-- ITS FALSE NEIGHBOUR: 'it returns false'. Refute it at one input. -/
def fnExactIsConfluentWrong : ChangeSpec := { name := "fnExactIsConfluent", fn := fun _ => fun
  | [d] => { results := [.lit (.bool false)], args := [d] }
  | _ => none }
def FnExactIsConfluentWrongFalsely : Prop := fnExactIsConfluentRow.holds Try.pinned (OpenSpec.ofChange fnExactIsConfluentWrong)

/-- 'laws.FnRewrite': WHATEVER THE INPUT: true; the input reads as it did. -/
def fnRewriteSpec : ChangeSpec := { name := "fnRewrite", fn := fun _ => fun
  | [d1, d2] => { results := [.lit (.bool true)], args := [d1, d2] }
  | _ => none }
def fnRewriteRow : OpenClaim := { program := "ytmigpfkjhdaijab", sum := "989d3e1eded40f27b99677aca44b809e50e0fb17c8f040c1828b49dbb9dd4038", func := "loop.example/g00373/laws.FnRewrite", spec := "fnRewrite", unfollowed := true, recurses := true, apart := false }
def FnRewriteSaid : Prop := fnRewriteRow.holds Try.pinned (OpenSpec.ofChange fnRewriteSpec)

/-- ITS FALSE NEIGHBOUR: 'it returns false'. Refute it at one input. -/
def fnRewriteWrong : ChangeSpec := { name := "fnRewrite", fn := fun _ => fun
  | [d1, d2] => { results := [.lit (.bool false)], args := [d1, d2] }
  | _ => none }
def FnRewriteWrongFalsely : Prop := fnRewriteRow.holds Try.pinned (OpenSpec.ofChange fnRewriteWrong)

/- THE SECOND FORM. 'bulk': how many values and letters a reading holds, each counted each time it is reached (what is shared counts as often as it is met; a slice's spare places count too). A statement '..UptoSaid' is the law's where the arguments, and the package variables that the reading takes, are together of bulk at most 1048576: NARROWER than '..Said'. Prove '..Said' where nothing that the law and all that it calls make is longer than what came in: it says more and counts as full. Else prove '..UptoSaid'. A law counts once. -/
mutual
def uptoBulk {H : Type} : DataW H → Nat
  | .lit (.string bytes) => bytes.length + 1
  | .lit _ => 1
  | .nil => 1
  | .ptr d => uptoBulk d + 1
  | .slice elems spare => uptoBulkAll elems + uptoBulkAll spare + 1
  | .agg parts => uptoBulkAll parts + 1
  | .iface _ d => uptoBulk d + 1
  | .map entries => uptoBulkEntries entries + 1
  | .held _ => 1
def uptoBulkAll {H : Type} : List (DataW H) → Nat
  | [] => 0
  | d :: r => uptoBulk d + uptoBulkAll r
def uptoBulkEntries {H : Type} : List (Lit × DataW H) → Nat
  | [] => 0
  | x :: r => uptoBulkEntry x + uptoBulkEntries r
def uptoBulkEntry {H : Type} : Lit × DataW H → Nat
  | (.string bytes, d) => bytes.length + uptoBulk d + 1
  | (_, d) => uptoBulk d + 1
 end
def uptoSmall : (H : Type) → List (DataW H) → Bool := fun _ ds => decide (uptoBulkAll ds ≤ 1048576)
def OpenSpec.upto (s : _root_.Go.ChangeSpec) : _root_.Go.OpenSpec := { _root_.Go.OpenSpec.ofChange s with cond := some uptoSmall }

/-- 'laws.FnPairs', WHERE WHAT IT READS IS OF BULK AT MOST 1048576: true; the input reads as it did. -/
def fnPairsUptoRow : OpenClaim := { program := "ytmigpfkjhdaijab", sum := "989d3e1eded40f27b99677aca44b809e50e0fb17c8f040c1828b49dbb9dd4038", func := "loop.example/g00373/laws.FnPairs", spec := "fnPairs", unfollowed := true, recurses := true, apart := false, narrowed := true }
def FnPairsUptoSaid : Prop := fnPairsUptoRow.holds Try.pinned (OpenSpec.upto fnPairsSpec)

/-- 'laws.FnExactCriticalPairs', WHERE WHAT IT READS IS OF BULK AT MOST 1048576: true; the input reads as it did. -/
def fnExactCriticalPairsUptoRow : OpenClaim := { program := "ytmigpfkjhdaijab", sum := "989d3e1eded40f27b99677aca44b809e50e0fb17c8f040c1828b49dbb9dd4038", func := "loop.example/g00373/laws.FnExactCriticalPairs", spec := "fnExactCriticalPairs", unfollowed := true, recurses := true, apart := false, narrowed := true }
def FnExactCriticalPairsUptoSaid : Prop := fnExactCriticalPairsUptoRow.holds Try.pinned (OpenSpec.upto fnExactCriticalPairsSpec)

/-- 'laws.FnExactIsConfluent', WHERE WHAT IT READS IS OF BULK AT MOST 1048576: true; the input reads as it did. -/
def fnExactIsConfluentUptoRow : OpenClaim := { program := "ytmigpfkjhdaijab", sum := "989d3e1eded40f27b99677aca44b809e50e0fb17c8f040c1828b49dbb9dd4038", func := "loop.example/g00373/laws.FnExactIsConfluent", spec := "fnExactIsConfluent", unfollowed := true, recurses := true, apart := false, narrowed := true }
def FnExactIsConfluentUptoSaid : Prop := fnExactIsConfluentUptoRow.holds Try.pinned (OpenSpec.upto fnExactIsConfluentSpec)

/-- 'laws.FnRewrite', WHERE WHAT IT READS IS OF BULK AT MOST 1048576: true; the input reads as it did. -/
def fnRewriteUptoRow : OpenClaim := { program := "ytmigpfkjhdaijab", sum := "989d3e1eded40f27b99677aca44b809e50e0fb17c8f040c1828b49dbb9dd4038", func := "loop.example/g00373/laws.FnRewrite", spec := "fnRewrite", unfollowed := true, recurses := true, apart := false, narrowed := true }
def FnRewriteUptoSaid : Prop := fnRewriteUptoRow.holds Try.pinned (OpenSpec.upto fnRewriteSpec)

end Rows
end Go.Proofs.Ytmigpfkjhdaijab
