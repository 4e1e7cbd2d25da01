/-
  No cell of these rows narrows 'for every input' (looked for: loops, veiled, ifaces, maps, wideKeys, modest, calm, conditions, laid).
  DERIVED. THE GIVEN ROWS OF THIS SEAT. 6 by the template 'for every input the law returns true; each argument reads behind the call as it read before'; 0 by the template 'total and deterministic' (their statements: YtmigpfkjhdaijaaTotals.lean).
  GIVEN WITH THE SEED: the statements are not yours to turn. If you find one false, say at which input.
  Laid BY PROGRAM, IN A SANDBOX (cutbox-rows.mjs): the forced cells as the released guide's own fill.sh prints them over the translation 37d1e1fd043415ff… (all of the seat's roots in one cut). By AI agents, Wed Nov 11 2026. No macro, syntax, notation, axiom, sorry.
-/
import Derived.Test.YtmigpfkjhdaijaaChecked
import GoSem.Claim
import GoSem.ClaimJoined
import GoSem.ClaimMapViews
import Derived.JoinedTies
import Derived.KernelRfl
namespace Go.Proofs.Ytmigpfkjhdaijaa
/- THE CELL 'sum', in the pinned program and in every row, IS THE sha256 OF THE DUMP (.gsa) THAT YtmigpfkjhdaijaaProg.lean LOADS. Nothing in Lean hashes anything: it is a label: what it is worth is what the hold of that sum in a sandbox is worth. -/
noncomputable def Try.pinned : Pinned := { name := "ytmigpfkjhdaijaa", sum := "37d1e1fd043415fffe10bbcd2ca8bfb32e609affc659979f1252950fcd645616", checked := Try.checked }
namespace Rows
def none {H : Type} : Left H := { results := [], args := [] }

/-- 'laws.FnExactShortLess': WHATEVER THE INPUT: true; the input reads as it did. -/
def fnExactShortLessSpec : ChangeSpec := { name := "fnExactShortLess", fn := fun _ => fun
  | [d1, d2] => { results := [.lit (.bool true)], args := [d1, d2] }
  | _ => none }
def fnExactShortLessRow : OpenClaim := { program := "ytmigpfkjhdaijaa", sum := "37d1e1fd043415fffe10bbcd2ca8bfb32e609affc659979f1252950fcd645616", func := "loop.example/g00373/laws.FnExactShortLess", spec := "fnExactShortLess", apart := false }
def FnExactShortLessSaid : Prop := fnExactShortLessRow.holds Try.pinned (OpenSpec.ofChange fnExactShortLessSpec)

/-- ITS FALSE NEIGHBOUR: 'it returns false'. Refute it at one input. -/
def fnExactShortLessWrong : ChangeSpec := { name := "fnExactShortLess", fn := fun _ => fun
  | [d1, d2] => { results := [.lit (.bool false)], args := [d1, d2] }
  | _ => none }
def FnExactShortLessWrongFalsely : Prop := fnExactShortLessRow.holds Try.pinned (OpenSpec.ofChange fnExactShortLessWrong)

/-- 'laws.FnExactGoodRules': WHATEVER THE INPUT: true; the input reads as it did. -/
def fnExactGoodRulesSpec : ChangeSpec := { name := "fnExactGoodRules", fn := fun _ => fun
  | [d] => { results := [.lit (.bool true)], args := [d] }
  | _ => none }
def fnExactGoodRulesRow : OpenClaim := { program := "ytmigpfkjhdaijaa", sum := "37d1e1fd043415fffe10bbcd2ca8bfb32e609affc659979f1252950fcd645616", func := "loop.example/g00373/laws.FnExactGoodRules", spec := "fnExactGoodRules", unfollowed := true, recurses := true, apart := false }
def FnExactGoodRulesSaid : Prop := fnExactGoodRulesRow.holds Try.pinned (OpenSpec.ofChange fnExactGoodRulesSpec)

/-- ITS FALSE NEIGHBOUR: 'it returns false'. Refute it at one input. -/
def fnExactGoodRulesWrong : ChangeSpec := { name := "fnExactGoodRules", fn := fun _ => fun
  | [d] => { results := [.lit (.bool false)], args := [d] }
  | _ => none }
def FnExactGoodRulesWrongFalsely : Prop := fnExactGoodRulesRow.holds Try.pinned (OpenSpec.ofChange fnExactGoodRulesWrong)

/-- 'laws.FnExactNormalOf': WHATEVER THE INPUT: true; the input reads as it did. -/
def fnExactNormalOfSpec : ChangeSpec := { name := "fnExactNormalOf", fn := fun _ => fun
  | [d1, d2] => { results := [.lit (.bool true)], args := [d1, d2] }
  | _ => none }
def fnExactNormalOfRow : OpenClaim := { program := "ytmigpfkjhdaijaa", sum := "37d1e1fd043415fffe10bbcd2ca8bfb32e609affc659979f1252950fcd645616", func := "loop.example/g00373/laws.FnExactNormalOf", spec := "fnExactNormalOf", unfollowed := true, recurses := true, apart := false }
def FnExactNormalOfSaid : Prop := fnExactNormalOfRow.holds Try.pinned (OpenSpec.ofChange fnExactNormalOfSpec)

/-- ITS FALSE NEIGHBOUR: 'it returns false'. Refute it at one input. -/
def fnExactNormalOfWrong : ChangeSpec := { name := "fnExactNormalOf", fn := fun _ => fun
  | [d1, d2] => { results := [.lit (.bool false)], args := [d1, d2] }
  | _ => none }
def FnExactNormalOfWrongFalsely : Prop := fnExactNormalOfRow.holds Try.pinned (OpenSpec.ofChange fnExactNormalOfWrong)

/-- 'laws.FnExactLastOf': WHATEVER THE INPUT: true; the input reads as it did. -/
def fnExactLastOfSpec : ChangeSpec := { name := "fnExactLastOf", fn := fun _ => fun
  | [d1, d2] => { results := [.lit (.bool true)], args := [d1, d2] }
  | _ => none }
def fnExactLastOfRow : OpenClaim := { program := "ytmigpfkjhdaijaa", sum := "37d1e1fd043415fffe10bbcd2ca8bfb32e609affc659979f1252950fcd645616", func := "loop.example/g00373/laws.FnExactLastOf", spec := "fnExactLastOf", unfollowed := true, recurses := true, apart := false }
def FnExactLastOfSaid : Prop := fnExactLastOfRow.holds Try.pinned (OpenSpec.ofChange fnExactLastOfSpec)

/-- ITS FALSE NEIGHBOUR: 'it returns false'. Refute it at one input. -/
def fnExactLastOfWrong : ChangeSpec := { name := "fnExactLastOf", fn := fun _ => fun
  | [d1, d2] => { results := [.lit (.bool false)], args := [d1, d2] }
  | _ => none }
def FnExactLastOfWrongFalsely : Prop := fnExactLastOfRow.holds Try.pinned (OpenSpec.ofChange fnExactLastOfWrong)

/-- 'laws.FnExactJoinedBy': WHATEVER THE INPUT: true; the input reads as it did. -/
def fnExactJoinedBySpec : ChangeSpec := { name := "fnExactJoinedBy", fn := fun _ => fun
  | [d1, d2, d3] => { results := [.lit (.bool true)], args := [d1, d2, d3] }
  | _ => none }
def fnExactJoinedByRow : OpenClaim := { program := "ytmigpfkjhdaijaa", sum := "37d1e1fd043415fffe10bbcd2ca8bfb32e609affc659979f1252950fcd645616", func := "loop.example/g00373/laws.FnExactJoinedBy", spec := "fnExactJoinedBy", unfollowed := true, recurses := true, apart := false }
def FnExactJoinedBySaid : Prop := fnExactJoinedByRow.holds Try.pinned (OpenSpec.ofChange fnExactJoinedBySpec)

/-- ITS FALSE NEIGHBOUR: 'it returns false'. Refute it at one input. -/
def fnExactJoinedByWrong : ChangeSpec := { name := "fnExactJoinedBy", fn := fun _ => fun
  | [d1, d2, d3] => { results := [.lit (.bool false)], args := [d1, d2, d3] }
  | _ => none }
def FnExactJoinedByWrongFalsely : Prop := fnExactJoinedByRow.holds Try.pinned (OpenSpec.ofChange fnExactJoinedByWrong)

/-- 'laws.FnExactOnceBy': WHATEVER THE INPUT: true; the input reads as it did. -/
def fnExactOnceBySpec : ChangeSpec := { name := "fnExactOnceBy", fn := fun _ => fun
  | [d1, d2] => { results := [.lit (.bool true)], args := [d1, d2] }
  | _ => none }
def fnExactOnceByRow : OpenClaim := { program := "ytmigpfkjhdaijaa", sum := "37d1e1fd043415fffe10bbcd2ca8bfb32e609affc659979f1252950fcd645616", func := "loop.example/g00373/laws.FnExactOnceBy", spec := "fnExactOnceBy", unfollowed := true, recurses := true, apart := false }
def FnExactOnceBySaid : Prop := fnExactOnceByRow.holds Try.pinned (OpenSpec.ofChange fnExactOnceBySpec)

/-- ITS FALSE NEIGHBOUR: 'it returns false'. Refute it at one input. -/
def fnExactOnceByWrong : ChangeSpec := { name := "fnExactOnceBy", fn := fun _ => fun
  | [d1, d2] => { results := [.lit (.bool false)], args := [d1, d2] }
  | _ => none }
def FnExactOnceByWrongFalsely : Prop := fnExactOnceByRow.holds Try.pinned (OpenSpec.ofChange fnExactOnceByWrong)

/- THE SECOND FORM. 'bulk': how many values and letters a reading holds, each counted each time it is reached (what is shared counts as often as it is met; a slice's spare places count too). A statement '..UptoSaid' is the law's where the arguments, and the package variables that the reading takes, are together of bulk at most 1048576: NARROWER than '..Said'. Prove '..Said' where nothing that the law and all that it calls make is longer than what came in: it says more and counts as full. Else prove '..UptoSaid'. A law counts once. -/
mutual
def uptoBulk {H : Type} : DataW H → Nat
  | .lit (.string bytes) => bytes.length + 1
  | .lit _ => 1
  | .nil => 1
  | .ptr d => uptoBulk d + 1
  | .slice elems spare => uptoBulkAll elems + uptoBulkAll spare + 1
  | .agg parts => uptoBulkAll parts + 1
  | .iface _ d => uptoBulk d + 1
  | .map entries => uptoBulkEntries entries + 1
  | .held _ => 1
def uptoBulkAll {H : Type} : List (DataW H) → Nat
  | [] => 0
  | d :: r => uptoBulk d + uptoBulkAll r
def uptoBulkEntries {H : Type} : List (Lit × DataW H) → Nat
  | [] => 0
  | x :: r => uptoBulkEntry x + uptoBulkEntries r
def uptoBulkEntry {H : Type} : Lit × DataW H → Nat
  | (.string bytes, d) => bytes.length + uptoBulk d + 1
  | (_, d) => uptoBulk d + 1
 end
def uptoSmall : (H : Type) → List (DataW H) → Bool := fun _ ds => decide (uptoBulkAll ds ≤ 1048576)
def OpenSpec.upto (s : _root_.Go.ChangeSpec) : _root_.Go.OpenSpec := { _root_.Go.OpenSpec.ofChange s with cond := some uptoSmall }

/-- 'laws.FnExactShortLess', WHERE WHAT IT READS IS OF BULK AT MOST 1048576: true; the input reads as it did. -/
def fnExactShortLessUptoRow : OpenClaim := { program := "ytmigpfkjhdaijaa", sum := "37d1e1fd043415fffe10bbcd2ca8bfb32e609affc659979f1252950fcd645616", func := "loop.example/g00373/laws.FnExactShortLess", spec := "fnExactShortLess", apart := false, narrowed := true }
def FnExactShortLessUptoSaid : Prop := fnExactShortLessUptoRow.holds Try.pinned (OpenSpec.upto fnExactShortLessSpec)

/-- 'laws.FnExactGoodRules', WHERE WHAT IT READS IS OF BULK AT MOST 1048576: true; the input reads as it did. -/
def fnExactGoodRulesUptoRow : OpenClaim := { program := "ytmigpfkjhdaijaa", sum := "37d1e1fd043415fffe10bbcd2ca8bfb32e609affc659979f1252950fcd645616", func := "loop.example/g00373/laws.FnExactGoodRules", spec := "fnExactGoodRules", unfollowed := true, recurses := true, apart := false, narrowed := true }
def FnExactGoodRulesUptoSaid : Prop := fnExactGoodRulesUptoRow.holds Try.pinned (OpenSpec.upto fnExactGoodRulesSpec)

/-- 'laws.FnExactNormalOf', WHERE WHAT IT READS IS OF BULK AT MOST 1048576: true; the input reads as it did. -/
def fnExactNormalOfUptoRow : OpenClaim := { program := "ytmigpfkjhdaijaa", sum := "37d1e1fd043415fffe10bbcd2ca8bfb32e609affc659979f1252950fcd645616", func := "loop.example/g00373/laws.FnExactNormalOf", spec := "fnExactNormalOf", unfollowed := true, recurses := true, apart := false, narrowed := true }
def FnExactNormalOfUptoSaid : Prop := fnExactNormalOfUptoRow.holds Try.pinned (OpenSpec.upto fnExactNormalOfSpec)

/-- 'laws.FnExactLastOf', WHERE WHAT IT READS IS OF BULK AT MOST 1048576: true; the input reads as it did. -/
def fnExactLastOfUptoRow : OpenClaim := { program := "ytmigpfkjhdaijaa", sum := "37d1e1fd043415fffe10bbcd2ca8bfb32e609affc659979f1252950fcd645616", func := "loop.example/g00373/laws.FnExactLastOf", spec := "fnExactLastOf", unfollowed := true, recurses := true, apart := false, narrowed := true }
def FnExactLastOfUptoSaid : Prop := fnExactLastOfUptoRow.holds Try.pinned (OpenSpec.upto fnExactLastOfSpec)

/-- 'laws.FnExactJoinedBy', WHERE WHAT IT READS IS OF BULK AT MOST 1048576: true; the input reads as it did. -/
def fnExactJoinedByUptoRow : OpenClaim := { program := "ytmigpfkjhdaijaa", sum := "37d1e1fd043415fffe10bbcd2ca8bfb32e609affc659979f1252950fcd645616", func := "loop.example/g00373/laws.FnExactJoinedBy", spec := "fnExactJoinedBy", unfollowed := true, recurses := true, apart := false, narrowed := true }
def FnExactJoinedByUptoSaid : Prop := fnExactJoinedByUptoRow.holds Try.pinned (OpenSpec.upto fnExactJoinedBySpec)

/-- 'laws.FnExactOnceBy', WHERE WHAT IT READS IS OF BULK AT MOST 1048576: true; the input reads as it did. -/
def fnExactOnceByUptoRow : OpenClaim := { program := "ytmigpfkjhdaijaa", sum := "37d1e1fd043415fffe10bbcd2ca8bfb32e609affc659979f1252950fcd645616", func := "loop.example/g00373/laws.FnExactOnceBy", spec := "fnExactOnceBy", unfollowed := true, recurses := true, apart := false, narrowed := true }
def FnExactOnceByUptoSaid : Prop := fnExactOnceByUptoRow.holds Try.pinned (OpenSpec.upto fnExactOnceBySpec)

end Rows
end Go.Proofs.Ytmigpfkjhdaijaa
