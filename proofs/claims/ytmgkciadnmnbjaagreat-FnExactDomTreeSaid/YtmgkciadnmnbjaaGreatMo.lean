/- The nodes of a graph in reverse postorder: what is answered. Conditions: none. -/
import Derived.Test.YtmgkciadnmnbjaaGreatMt3
/- order: what it answers. -/
namespace Go.Tree.O
set_option linter.unusedVariables false
/-- From one node on: what has been seen, what has been left behind. -/
def visV (N : List (List Nat)) : Nat → Nat → List Bool × List Nat → List Bool × List Nat
  | 0, _, s => s
  | m + 1, k, s =>
    let t := (N.getD k []).foldl (fun s x => if s.1.getD x false = true then s else visV N m x s) (s.1.set k true, s.2)
    (t.1, t.2 ++ [k])
/-- The nodes, in reverse postorder. -/
def ordL (N : List (List Nat)) : List Nat := (visV N N.length 0 (List.replicate N.length false, [])).2.reverse
abbrev nT (l : List Nat) : List TV := (l.map fun (a : Nat) => (a : Int)).map fun n => .fl (.int .i64 n)
theorem nT_inj : ∀ {l l' : List Nat}, nT l = nT l' → l = l'
  | [], [], _ => rfl
  | [], _ :: _, h => by simp [nT] at h
  | _ :: _, [], h => by simp [nT] at h
  | a :: l, b :: l', h => by
    simp only [nT, List.map_cons, List.cons.injEq, Tr.fl.injEq, Value.int.injEq, true_and] at h
    have := nT_inj (l := l) (l' := l') h.2
    rw [this, show a = b by omega]
/-- A graph that may be asked. -/
def ask (next : List TV) (N : List (List Nat)) : Prop :=
  (next.length = N.length ∧ ∀ (j : Nat) (h : j < N.length), ∃ q : Bool, next[j]? = some (.sl q ⟨1, false⟩ () (nT N[j]))) ∧ 1 ≤ N.length ∧ N.length ≤ 12 ∧ ∀ (k : Nat) (h : k < N.length), N[k].length ≤ 12 ∧ ∀ x ∈ N[k], x < N.length
theorem ask_inj {next : List TV} {N N' : List (List Nat)} (h : ask next N) (h' : ask next N') : N = N' := by
  refine List.ext_getElem (h.1.1.symm.trans h'.1.1) fun j h1 h2 => ?_
  obtain ⟨q, e⟩ := h.1.2 j h1
  obtain ⟨q', e'⟩ := h'.1.2 j h2
  rw [e] at e'
  simp only [Option.some.injEq, Tr.sl.injEq] at e'
  exact nT_inj e'.2.2.2
open Classical in
noncomputable def g49 : List TV → Option Res
  | [.pt true () (.st [.sl _ _ () next])] => if h : ∃ N, ask next N then some ([.sl false ⟨1, false⟩ () (nT (ordL (Classical.choose h)))], []) else none
  | _ => none
theorem g49_eq {q : Bool} {k : Ek} {next : List TV} {N : List (List Nat)} (h : ask next N) : g49 [.pt true () (.st [.sl q k () next])] = some ([.sl false ⟨1, false⟩ () (nT (ordL N))], []) := by
  have hx : ∃ N, ask next N := ⟨N, h⟩
  simp only [g49]
  rw [dif_pos hx, ask_inj (Classical.choose_spec hx) h]
theorem g49_inv {ts : List TV} {r : Res} (h : g49 ts = some r) : ∃ q k next N, ts = [.pt true () (.st [.sl q k () next])] ∧ ask next N ∧ r = ([.sl false ⟨1, false⟩ () (nT (ordL N))], []) := by
  unfold g49 at h
  split at h
  · rename_i q k next
    split at h
    · rename_i hx
      exact ⟨_, _, _, _, rfl, Classical.choose_spec hx, (Option.some.inj h).symm⟩
    · cases h
  · cases h
end Go.Tree.O
