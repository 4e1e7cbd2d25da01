/- Trees of values: a checked evaluator over the program's code, first part: values, memory, writing. Conditions: none. -/
import Derived.Calls
import Derived.Orders
import Derived.Deep.MidRow
import Derived.Below
import Derived.Deep.Upon
/- Trees of values: what a Go function does, told without addresses: an evaluator over the program's own code. Definitions alone. -/
namespace Go.Tree
set_option linter.unusedVariables false
/-- An element: how many cells, and whether it may lead to memory. -/
structure Ek where
  n : Nat
  m : Bool
  deriving DecidableEq
/-- A value with all that hangs on it. 'ro': its memory is somebody else's: it may be read alone. -/
inductive Tr (η : Type) where
  | fl (v : Value)
  | st (xs : List (Tr η))
  | sl (ro : Bool) (k : Ek) (h : η) (xs : List (Tr η))
  | pt (ro : Bool) (h : η) (x : Tr η)
  | cl (f : FuncId) (xs : List (Tr η))
  | dead (h : η)
abbrev TV := Tr Unit

/-- A step to a part: a field (of a struct type), what a pointer leads to, an element (of a type). -/
inductive Stp where
  | f (s : TypeId) (i : Nat)
  | d (e : TypeId)
  | i (e : TypeId) (n : Nat)

section
variable {η : Type}
/-- The part at a path, and whether the way there leads through memory that is somebody else's. -/
def get (dd : η) : Bool → Tr η → List Stp → Bool × Tr η
  | ro, t, [] => (ro, t)
  | ro, .st xs, .f s i :: p => get dd ro (xs.getD i (.dead dd)) p
  | ro, .pt r h x, .d s :: p => get dd (ro || r) x p
  | ro, .sl r k h xs, .i s n :: p => get dd (ro || r) (xs.getD n (.dead dd)) p
  | ro, _, _ :: _ => (ro, .dead dd)
/-- The tree with another part at a path; none where the way leads through memory that is somebody else's. -/
def put (dd : η) : Tr η → List Stp → Tr η → Option (Tr η)
  | _, [], u => some u
  | .st xs, .f s i :: p, u => (put dd (xs.getD i (.dead dd)) p u).map fun x => .st (xs.set i x)
  | .pt false h x, .d s :: p, u => (put dd x p u).map fun x => .pt false h x
  | .sl false k h xs, .i s n :: p, u => (put dd (xs.getD n (.dead dd)) p u).map fun x => .sl false k h (xs.set n x)
  | _, _ :: _, _ => none

mutual
/-- Does it own memory? -/
def hasOwn : Tr η → Bool
  | .fl _ => false
  | .st xs => hasOwnL xs
  | .sl ro _ _ _ => !ro
  | .pt ro _ _ => !ro
  | .cl _ xs => hasOwnL xs
  | .dead _ => false
def hasOwnL : List (Tr η) → Bool
  | [] => false
  | x :: xs => hasOwn x || hasOwnL xs
end
mutual
/-- The same, for reading alone. -/
def roTop : Tr η → Tr η
  | .fl v => .fl v
  | .st xs => .st (roTopL xs)
  | .sl _ k h xs => .sl true k h xs
  | .pt _ h x => .pt true h x
  | .cl f xs => .cl f (roTopL xs)
  | .dead h => .dead h
def roTopL : List (Tr η) → List (Tr η)
  | [] => []
  | x :: xs => roTop x :: roTopL xs
end
end
section
variable {η : Type}
mutual
/-- What is left where a tree was taken out. -/
def deaden : Tr η → Tr η
  | .fl v => .fl v
  | .st xs => .st (deadenL xs)
  | .sl ro k h xs => if ro then .sl ro k h xs else .dead h
  | .pt ro h x => if ro then .pt ro h x else .dead h
  | .cl f xs => .cl f (deadenL xs)
  | .dead h => .dead h
def deadenL : List (Tr η) → List (Tr η)
  | [] => []
  | x :: xs => deaden x :: deadenL xs
end
end
/-- What a slot holds. 'val': a value of its own ('deps': the slots whose memory it reads). 'ref': what stands at a path in another slot's value ('sub': so many of it, from a place on; 'snap': a struct, as it was). 'adr': the address of that place. -/
inductive AV (η : Type) where
  | un
  | val (deps : List Nat) (t : Tr η)
  | ref (r : Nat) (p : List Stp) (sub : Option (Nat × Nat)) (ty : TypeId) (snap : Bool)
  | adr (r : Nat) (p : List Stp)
  | tu (deps : List Nat) (ts : List (Tr η))
abbrev Env := List (AV Unit)

inductive Ex where
  | normal
  | exit (id : Nat)
  | ret

/-- What is known of a function's parameters and results: which params are written, which of these are used up, which results are somebody else's memory. -/
structure Sig where
  wm : List Bool
  cm : List Bool
  rm : List Bool
  sm : Bool

/-- May the first path lead to, or above, the second? (Whatever the numbers of elements.) -/
def above : List Stp → List Stp → Bool
  | [], _ => true
  | .f _ i :: p, .f _ j :: q => i == j && above p q
  | .d _ :: p, .d _ :: q => above p q
  | .i _ _ :: p, .i _ _ :: q => above p q
  | _, _ => false

/-- Does the second path lead from the first place on through fields alone? (Whatever the numbers of elements.) -/
def tailF : List Stp → List Stp → Bool
  | [], [] => true
  | [], .f _ _ :: q => tailF [] q
  | .f _ i :: p, .f _ j :: q => i == j && tailF p q
  | .d _ :: p, .d _ :: q => tailF p q
  | .i _ _ :: p, .i _ _ :: q => tailF p q
  | _, _ => false
/-- The same, or through a pointer that stands at that place, and then through fields alone. -/
def tailD : List Stp → List Stp → Bool
  | [], .d _ :: q => tailF [] q
  | [], q => tailF [] q
  | .f _ i :: p, .f _ j :: q => i == j && tailD p q
  | .d _ :: p, .d _ :: q => tailD p q
  | .i _ _ :: p, .i _ _ :: q => tailD p q
  | _, _ => false

section
variable {η : Type}
/-- What is behind a structural write at path q of slot r. -/
def killW (r : Nat) (q : List Stp) : AV η → AV η
  | .val deps t => if deps.contains r then .un else .val deps t
  | .tu deps ts => if deps.contains r then .un else .tu deps ts
  | .ref r' p sub ty snap => if r' == r && (above q p || snap && above p q) then .un else .ref r' p sub ty snap
  | .adr r' p => if r' == r && above q p && !(above p q) then .un else .adr r' p
  | .un => .un
/-- What is behind a tree that is taken out at path p of slot r. -/
def killC (r : Nat) (p : List Stp) : AV η → AV η
  | .val deps t => if deps.contains r then .un else .val deps t
  | .tu deps ts => if deps.contains r then .un else .tu deps ts
  | .ref r' q s ty sn => if r' == r && (above p q && (sn || !(above q p)) || sn && above q p) then .un else .ref r' q s ty sn
  | .adr r' q => if r' == r && above p q && !(tailD p q) then .un else .adr r' q
  | .un => .un
/-- What is behind a slot that is written anew. -/
def killS (r : Nat) : AV η → AV η
  | .val deps t => if deps.contains r then .un else .val deps t
  | .tu deps ts => if deps.contains r then .un else .tu deps ts
  | .ref r' p sub ty snap => if r' == r then .un else .ref r' p sub ty snap
  | .adr r' p => if r' == r then .un else .adr r' p
  | .un => .un
def slot (env : List (AV η)) (i : Nat) : AV η := env.getD i .un
def putS (env : List (AV η)) (d : Nat) (v : AV η) : List (AV η) := (env.map (killS d)).set d v
def putD (env : List (AV η)) (d : Option Tmp) (v : AV η) : List (AV η) := match d with | some d => putS env d v | none => env
end
variable {α : Type}
def mInt (k : IntKind) (t : TV) (K : Int → Option α) : Option α := match t with | .fl (.int k' n) => if k' = k then K n else none | _ => none
def mBool (t : TV) (K : Bool → Option α) : Option α := match t with | .fl (.bool b) => K b | _ => none
def mStr (t : TV) (K : ByteArray → Option α) : Option α := match t with | .fl (.string s) => K s | _ => none
def mSl (ro : Bool) (n : Ek) (t : TV) (K : Bool → List TV → Option α) : Option α :=
  match t with | .sl r m _ xs => if m = n then (bif ro || r then K true xs else K false xs) else none | _ => none
def mSt (t : TV) (K : List TV → Option α) : Option α := match t with | .st xs => K xs | _ => none
def mPt (ro : Bool) (t : TV) (N : Option α) (K : Bool → TV → Option α) : Option α :=
  match t with | .fl (.pointer none) => N | .pt r _ x => (bif ro || r then K true x else K false x) | _ => none
def mCons (ts : List TV) (K : TV → List TV → Option α) : Option α := match ts with | t :: ts => K t ts | [] => none
def mNil (ts : List TV) (K : Option α) : Option α := match ts with | [] => K | _ => none
def fuelT : Nat := 60
/-- May a value of the type lead to memory? -/
def ownTy (P : Program) : Nat → TypeId → Bool
  | 0, _ => true
  | n + 1, ty => match P.underlying ty with
    | some (.int _) | some .bool | some .string => false
    | some (.struct fs) => fs.any fun f => ownTy P n f.type
    | _ => true
def ekOf (P : Program) (e : TypeId) : Ek := ⟨P.cellsOf e, ownTy P fuelT e⟩
mutual
/-- Does it lead to no memory? -/
def noMem : TV → Bool
  | .fl _ => true
  | .st xs => noMemL xs
  | .dead _ => true
  | _ => false
def noMemL : List TV → Bool
  | [] => true
  | x :: xs => noMem x && noMemL xs
end
/-- Whose memory rows and pointers may be that stand inside of others: a struct's type and the field's number (a type of its own and a great number where there is no struct); which pointers may be nil. -/
class Pol where
  ok : TypeId → Nat → Bool → Bool
  nl : TypeId → Bool
variable [Pol]
def mSlV (q : Bool → Bool) (ro : Bool) (n : Ek) (t : TV) (K : Bool → List TV → Option α) : Option α :=
  match t with | .sl r m _ xs => if m = n then (bif ro then K true xs else bif r then (bif q true then K true xs else none) else (bif q false then K false xs else none)) else none | _ => none
def mPtV (q : Bool → Bool) (ro : Bool) (t : TV) (N : Option α) (K : Bool → TV → Option α) : Option α :=
  match t with | .fl (.pointer none) => N | .pt r _ x => (bif ro then K true x else bif r then (bif q true then K true x else none) else (bif q false then K false x else none)) | _ => none
mutual
def viewQ (P : Program) (ro : Bool) : Nat → (Bool → Bool) → TypeId → TV → (TV → Option α) → Option α
  | 0, _, _, _, _ => none
  | n + 1, q, ty, t, k =>
    match P.underlying ty with
    | some (.int kd) => mInt kd t fun n => k (.fl (.int kd n))
    | some .bool => mBool t fun b => k (.fl (.bool b))
    | some .string => mStr t fun s => k (.fl (.string s))
    | some (.slice e) => mSlV q ro (ekOf P e) t fun r xs => k (.sl r (ekOf P e) () xs)
    | some (.struct fs) => mSt t fun xs => viewL P ro n ty 0 (fs.toList.map (·.type)) xs fun ys => k (.st ys)
    | some (.pointer e) => mPtV q ro t (bif Pol.nl ty then k (.fl (.pointer none)) else none) fun r x => viewQ P r n (Pol.ok e 1000000) e x fun y => k (.pt r () y)
    | _ => none
def viewL (P : Program) (ro : Bool) : Nat → TypeId → Nat → List TypeId → List TV → (List TV → Option α) → Option α
  | _, _, _, [], ts, k => mNil ts (k [])
  | 0, _, _, _, _, _ => none
  | n + 1, s, i, ty :: tys, ts, k => mCons ts fun t ts => viewQ P ro n (Pol.ok s i) ty t fun y => viewL P ro n s (i + 1) tys ts fun ys => k (y :: ys)
end
def view (P : Program) (ro : Bool) (n : Nat) (ty : TypeId) (t : TV) (k : TV → Option α) : Option α := viewQ P ro n (Pol.ok ty 1000000) ty t k
mutual
/-- How many cells. -/
def csz : TV → Nat
  | .st xs => cszL xs
  | _ => 1
def cszL : List TV → Nat
  | [] => 0
  | x :: xs => csz x + cszL xs
end
/-- Where a field begins. -/
def offs (P : Program) (s : TypeId) (i : Nat) : Option Nat := match P.underlying s with | some (.struct fs) => (fs[i]?).bind fun f => if P.cellsOf f.type = 0 then none else some f.offset | _ => none
def fieldOk (P : Program) (s : TypeId) (i : Nat) (xs : List TV) : Bool := decide (i < xs.length) && (offs P s i == some (cszL (xs.take i)))
/-- The part at a path; 'opq': it stands in a row, and is laid open before one goes on. -/
def getK (P : Program) : Bool → Bool → TV → List Stp → (Bool → Bool → TV → Option α) → Option α
  | opq, ro, t, [], K => K opq ro t
  | opq, ro, t, .f s i :: p, K =>
    bif opq then view P ro fuelT s t fun u => mSt u fun xs => bif fieldOk P s i xs then getK P false ro (xs.getD i (.dead ())) p K else none
    else mSt t fun xs => bif fieldOk P s i xs then getK P false ro (xs.getD i (.dead ())) p K else none
  | _, ro, t, .d _ :: p, K => mPt ro t none fun r x => getK P false r x p K
  | _, ro, t, .i e n :: p, K => mSl ro (ekOf P e) t fun r xs => getK P true r (xs.getD n (.dead ())) p K
/-- Another part at a path, of as many cells. -/
def putK (P : Program) : Bool → TV → List Stp → TV → (TV → Option α) → Option α
  | opq, t, [], u, K => bif opq || csz t == csz u then K u else none
  | opq, t, .f s i :: p, u, K =>
    bif opq then view P false fuelT s t fun t => mSt t fun xs => bif fieldOk P s i xs then putK P false (xs.getD i (.dead ())) p u fun x => K (.st (xs.set i x)) else none
    else mSt t fun xs => bif fieldOk P s i xs then putK P false (xs.getD i (.dead ())) p u fun x => K (.st (xs.set i x)) else none
  | _, t, .d _ :: p, u, K => mPt false t none fun r x => bif r then none else putK P false x p u fun x => K (.pt false () x)
  | _, t, .i e n :: p, u, K => mSl false (ekOf P e) t fun r xs => bif r || p.isEmpty && csz u != P.cellsOf e || !((ekOf P e).m || noMem u) then none else putK P true (xs.getD n (.dead ())) p u fun x => K (.sl false (ekOf P e) () (xs.set n x))
/-- The same, where a part has been away: the parts beside it may stand in any shape. -/
def putB (P : Program) : Bool → TV → List Stp → TV → (TV → Option α) → Option α
  | opq, t, [], u, K => bif opq || csz t == csz u then K u else none
  | _, t, .f s i :: p, u, K => mSt t fun xs => bif fieldOk P s i xs then putB P false (xs.getD i (.dead ())) p u fun x => K (.st (xs.set i x)) else none
  | _, t, .d _ :: p, u, K => mPt false t none fun r x => bif r then none else putB P false x p u fun x => K (.pt false () x)
  | _, t, .i e n :: p, u, K => mSl false (ekOf P e) t fun r xs => bif r || p.isEmpty && csz u != P.cellsOf e || !((ekOf P e).m || noMem u) then none else putB P true (xs.getD n (.dead ())) p u fun x => K (.sl false (ekOf P e) () (xs.set n x))
/-- What is found there, of a type. -/
def lay (P : Program) (ty : TypeId) (opq ro : Bool) (t : TV) (K : TV → Option α) : Option α := bif opq then view P ro fuelT ty t K else bif ro then K (roTop t) else K t
/-- How many cells an element of a slice has. -/
def elemSz (P : Program) (ty : TypeId) : Option Ek := match P.underlying ty with | some (.slice e) => some (ekOf P e) | _ => none
/-- A slice's part. -/
def subK (P : Program) (ty : TypeId) (sub : Option (Nat × Nat)) (t : TV) (K : TV → Option α) : Option α :=
  match sub with
  | none => K t
  | some (lo, n) => match elemSz P ty with
    | some k => mSl false k t fun r xs => K (.sl r k () ((xs.drop lo).take n))
    | none => none
/-- All answers are one. -/
noncomputable def amb : List (Option α) → Option α
  | [] => none
  | [x] => x
  | x :: xs => open Classical in if ∀ y ∈ xs, y = x then x else none
end Go.Tree

/- Trees of values: the evaluator over the program's own code. Definitions alone. -/
namespace Go.Tree
set_option linter.unusedSectionVars false
set_option linter.unusedVariables false
variable [Pol]
/-- What a computation that asks no world yields. -/
def pureOf {β : Type} (P : Program) : Sem β → Option β
  | .pure a => some a
  | .program k => pureOf P (k P)
  | _ => none

/-- What is given from outside: signatures, contracts by hand, the slots that live at a loop's head, those that live where ways come together, the functions that are told within their callers. -/
structure Ctx where
  P : Program
  sig : FuncId → Sig
  given : FuncId → Option (List TV → Option (List TV × List TV))
  keep : FuncId → Nat → List Nat
  cut : FuncId → Nat → Option (List Nat)
  pol : FuncId → Pol
  inl : FuncId → Bool
  own : FuncId → Bool := fun _ => false

mutual
/-- A tree out of cells that lead to no memory. -/
def ofCells (P : Program) : Nat → TypeId → List Value → Option (TV × List Value)
  | 0, _, _ => none
  | n + 1, ty, cs =>
    match P.underlying ty with
    | some (.int _) => match cs with | .int kd m :: r => some (.fl (.int kd m), r) | _ => none
    | some .bool => match cs with | .bool b :: r => some (.fl (.bool b), r) | _ => none
    | some .string => match cs with | .string s :: r => some (.fl (.string s), r) | _ => none
    | some (.slice e) => match cs with | .slice none 0 0 :: r => some (.sl false (ekOf P e) () [], r) | _ => none
    | some (.pointer _) => match cs with | .pointer none :: r => some (.fl (.pointer none), r) | _ => none
    | some (.struct fs) => (ofCellsL P n (fs.toList.map (·.type)) cs).map fun x => (.st x.1, x.2)
    | _ => none
def ofCellsL (P : Program) : Nat → List TypeId → List Value → Option (List TV × List Value)
  | _, [], cs => some ([], cs)
  | 0, _, _ => none
  | n + 1, ty :: tys, cs => (ofCells P n ty cs).bind fun x => (ofCellsL P n tys x.2).map fun y => (x.1 :: y.1, y.2)
end
def isStT : TV → Bool
  | .st _ => true
  | _ => false
def isAgg (v : Value) : Bool := match v with | .agg _ => true | _ => false
/-- A constant, of a type. -/
def constT (P : Program) (ty : TypeId) (v : Value) : Option TV :=
  match ofCells P fuelT ty v.cells.toList with
  | some (t, []) => bif isAgg v == isStT t then some t else none
  | _ => none
def zeroT (P : Program) (ty : TypeId) : Option TV := ((P.info? ty).bind (·.zero)).bind (constT P ty)
def isAggT (P : Program) (ty : TypeId) : Bool := match P.underlying ty with | some (.struct _) => true | _ => false
/-- Types that are told. -/
def okTy (P : Program) (ty : TypeId) : Bool := match P.underlying ty with | some (.int _) | some .bool | some .string | some (.slice _) | some (.pointer _) | some (.struct _) => true | _ => false
/-- A tree is a value of a type, as memory has it. -/
def fitsTy (P : Program) (ty : TypeId) (u : TV) : Bool := okTy P ty && (isStT u == isAggT P ty) && csz u == P.cellsOf ty && csz u != 0
def nm (fn : Func) (s : Nat) : Bool := match fn.tmpNames[s]? with | some x => x != "" | none => true
variable {α : Type}
/-- Slots of a function alone. -/
def fitO (nt : Nat) : Operand → Bool
  | .tmp s => decide (s < nt)
  | _ => true
def fitD (nt : Nat) (d : Option Tmp) : Bool := d.all fun d => decide (d < nt)
/-- A slot's value, for reading. -/
def look (P : Program) (env : Env) (s : Nat) (K : List Nat → TV → Option α) : Option α :=
  match slot env s with
  | .val deps t => K deps t
  | .ref r p sub ty _ =>
    match slot env r with
    | .val deps t => getK P false false t p fun opq ro u => lay P ty opq ro u fun u => subK P ty sub u fun u => K deps u
    | _ => none
  | _ => none
/-- A slot's value, taken out of where it stands. -/
def take (P : Program) (env : Env) (s : Nat) (K : List Nat → TV → Env → Option α) : Option α :=
  match slot env s with
  | .val deps t => if hasOwn t then K deps t (putS env s .un) else K deps t env
  | .ref r p sub ty _ =>
    match slot env r with
    | .val deps t => getK P false false t p fun opq ro u => lay P ty opq ro u fun u =>
        if hasOwn u then putK P false t p (deaden u) fun t' => subK P ty sub u fun u => K deps u ((env.map (killC r p)).set r (.val deps t'))
        else subK P ty sub u fun u => K deps u env
    | _ => none
  | _ => none

/-- Two places have nothing in common. -/
def farP (a b : Nat × List Stp) : Bool := a.1 != b.1 || !(above a.2 b.2) && !(above b.2 a.2)
def isBox : TV → Bool
  | .sl .. | .pt .. => true
  | _ => false
/-- A slot's value, lent: what is left there leads nowhere. -/
def lend (P : Program) (sm : Bool) (env : Env) (s : Nat) (K : List Nat → TV → Nat → List Stp → Env → Option α) : Option α :=
  match slot env s with
  | .val deps t => if (hasOwn t && (isBox t || sm && isStT t)) = true then K deps t s [] ((env.map (killC s [])).set s (.val deps (deaden t))) else none
  | .ref r p none ty _ =>
    match slot env r with
    | .val deps t => getK P false false t p fun opq ro u => lay P ty opq ro u fun u =>
        if (hasOwn u && (isBox u || sm && isStT u)) = true then putK P false t p (deaden u) fun t' => K deps u r p ((env.map (killC r p)).set r (.val deps t'))
        else none
    | _ => none
  | _ => none

/-- An operand, for reading. -/
def lookO (P : Program) (env : Env) (ty : TypeId) (x : Operand) (K : List Nat → TV → Option α) : Option α :=
  match x with
  | .tmp s => look P env s K
  | .const v => match constT P ty v with | some t => K [] t | none => none
  | .func f => K [] (.cl f [])
  | .global _ => none
/-- An operand, taken out. -/
def takeO (P : Program) (env : Env) (ty : TypeId) (x : Operand) (K : List Nat → TV → Env → Option α) : Option α :=
  match x with
  | .tmp s => take P env s K
  | .const v => match constT P ty v with | some t => K [] t env | none => none
  | .func f => K [] (.cl f []) env
  | .global _ => none
/-- The slot that an operand is taken from. -/
def rootOf (env : Env) : Operand → Nat → Bool
  | .tmp s, r => (match slot env s with | .ref r' _ _ _ _ => r' == r | _ => s == r)
  | _, _ => false
def takeAll (P : Program) (acc : List Nat) (env : Env) : List (TypeId × Operand) → (List Nat → List TV → Env → Option α) → Option α
  | [], K => K acc [] env
  | (ty, x) :: rest, K => bif acc.any (rootOf env x) then none else takeO P env ty x fun deps t env => takeAll P (acc ++ deps) env rest fun acc ts env => K acc (t :: ts) env
/-- A flat operand's value. -/
def flatO (env : Env) : Operand → Option Value
  | .tmp s => match slot env s with | .val _ (.fl v) => some v | _ => none
  | .const v => some v
  | _ => none
def flatOs (env : Env) : List Operand → Option (List Value)
  | [] => some []
  | x :: xs => (flatO env x).bind fun v => (flatOs env xs).map fun vs => v :: vs

/-- A slot is copied. -/
def copyS (P : Program) (fn : Func) (ty : TypeId) (env : Env) (d s : Nat) (K : Env → Option α) : Option α :=
  match slot env s with
  | .val deps t =>
    if hasOwn t then (if nm fn d && !nm fn s then K (putS (putS env s .un) d (.val deps t)) else K (putS env d (.ref s [] none ty (isStT t))))
    else K (putS env d (.val deps t))
  | .ref r p sub ty snap =>
    if r == d || nm fn d && (!nm fn r || decide (d < r) && decide (r < fn.ntmps)) then take P env s fun deps t env => K (putS env d (.val deps t))
    else K (putS env d (.ref r p sub ty snap))
  | .adr r p => if r == d then none else K (putS env d (.adr r p))
  | .tu deps ts => K (putS (putS env s .un) d (.tu deps ts))
  | _ => none

/-- The place that a pointer leads to. -/
def place (P : Program) (env : Env) (e : TypeId) (x : Operand) (K : Nat → List Stp → Option α) : Option α :=
  match x with
  | .tmp s => match slot env s with
    | .val _ (.pt _ _ _) => K s [.d e]
    | .adr r p => match slot env r with | .val _ _ => K r p | _ => none
    | .ref r p none ty _ => look P env s fun _ t => match t with | .pt _ _ _ => K r (p ++ [.d e]) | _ => none
    | _ => none
  | _ => none
/-- Where a slice's elements begin: slot, path, the first one's number; its length. -/
def row (P : Program) (env : Env) (e : TypeId) (x : Operand) (K : Nat → List Stp → Nat → Nat → Option α) : Option α :=
  bif decide (P.cellsOf e = 0) then none else match x with
  | .tmp s => match slot env s with
    | .val _ t => mSl false (ekOf P e) t fun _ xs => K s [] 0 xs.length
    | .ref r p sub ty _ => match slot env r with
      | .val _ t => getK P false false t p fun opq ro u => mSl ro (ekOf P e) u fun _ xs => match sub with | none => K r p 0 xs.length | some (lo, n) => bif elemSz P ty == some (ekOf P e) then K r p lo n else none
      | _ => none
    | _ => none
  | _ => none

def dpOf (deps : List Nat) (u : TV) : List Nat := bif noMem u then [] else deps
/-- A part is read. -/
def loadE (P : Program) (ty : TypeId) (env : Env) (d : Option Tmp) (r : Nat) (p : List Stp) (K : Env → Option α) : Option α :=
  match slot env r with
  | .val deps t => getK P false false t p fun opq ro u =>
      bif !ro && ownTy P fuelT ty then lay P ty opq ro u fun u => bif hasOwn u then (bif fitsTy P ty u then K (putD env d (.ref r p none ty (isStT u))) else none) else (bif fitsTy P ty u then K (putD env d (.val (dpOf deps u) u)) else none)
      else view P ro fuelT ty u fun u => bif fitsTy P ty u && !hasOwn u then K (putD env d (.val (dpOf deps u) u)) else none
  | _ => none
/-- A part is written. -/
def storeE (P : Program) (ty : TypeId) (env : Env) (a x : Operand) (K : Env → Option α) : Option α :=
  takeO P env ty x fun deps u env => place P env ty a fun r p =>
    match slot env r with
    | .val deps0 t => bif deps.contains r || !fitsTy P ty u then none else
      putK P false t p u fun t' => K ((env.map (killW r p)).set r (.val (deps0 ++ dpOf deps u) t'))
    | _ => none
def boundsOk (lo hi cap : Int) : Bool := decide (0 ≤ lo) && decide (lo ≤ hi) && decide (hi ≤ cap)
def intOf : Value → Option Int
  | .int _ n => some n
  | _ => none
/-- A slice is cut. Beyond its length is nothing known. -/
def sliceE (P : Program) (ty e : TypeId) (env : Env) (d : Option Tmp) (x : Operand) (low high : Option Operand) (K : Env → Option α) : Option α :=
  match x with
  | .tmp s =>
    row P env e x fun r p lo0 n =>
      match low.elim (some 0) (fun o => (flatO env o).bind intOf), high.elim (some (n : Int)) (fun o => (flatO env o).bind intOf) with
      | some lo, some hi =>
        bif boundsOk lo hi n then
          match slot env s with
          | .val deps t => bif hasOwn t then K (putD env d (.ref s [] (some (lo.toNat, (hi - lo).toNat)) ty false)) else subK P ty (some (lo.toNat, (hi - lo).toNat)) t fun t => K (putD env d (.val deps t))
          | .ref r p sub ty' _ => bif elemSz P ty' == some (ekOf P e) then K (putD env d (.ref r p (some (sub.elim 0 (·.1) + lo.toNat, (hi - lo).toNat)) ty' false)) else none
          | _ => none
        else none
      | _, _ => none
  | _ => none

def lim : Nat := 140737488355328
def bytesOf (P : Program) (ty : TypeId) : Nat := match P.info? ty with | some i => i.bytes | none => 0

/-- A type that rows are made of. -/
def rowOk (P : Program) (e : TypeId) : Bool := (P.info? e).any fun i => i.size != 0 && i.bytes != 0 && i.zero.any fun z => z.cells.size == i.size
/-- append of one slice's elements to another one's. -/
def appendE (P : Program) (ty : TypeId) (env : Env) (d : Option Tmp) (s x : Operand) (K : Env → Option α) : Option α :=
  match P.underlying ty with
  | some (.slice e) =>
    bif rowOk P e then takeO P env ty s fun deps t env =>
      match t with
      | .sl false k _ xs =>
        bif ownTy P fuelT e then
          bif deps.any (rootOf env x) then none else takeO P env ty x fun deps' u env =>
            match u with
            | .sl false k' _ ys => bif k == ekOf P e && k' == k && decide ((xs.length + ys.length) * bytesOf P e < lim) then K (putD env d (.val (deps ++ deps') (.sl false k () (xs ++ ys)))) else none
            | _ => none
        else
          lookO P env ty x fun _ u =>
            match u with
            | .sl _ k' _ ys => bif k == ekOf P e && k' == k && decide ((xs.length + ys.length) * bytesOf P e < lim) then K (putD env d (.val deps (.sl false k () (xs ++ ys)))) else none
            | _ => none
      | _ => none
    else none
  | _ => none

/-- append of so many zeros. -/
def appendN (P : Program) (ty : TypeId) (env : Env) (d : Option Tmp) (s x : Operand) (K : Env → Option α) : Option α :=
  match P.underlying ty, flatO env x with
  | some (.slice e), some (.int _ n) =>
    match zeroT P e with
    | some z => bif rowOk P e && csz z == P.cellsOf e && decide (0 ≤ n) then takeO P env ty s fun deps t env =>
        match t with
        | .sl false k _ xs => bif k == ekOf P e && decide ((xs.length + n.toNat) * bytesOf P e < lim) then K (putD env d (.val deps (.sl false k () (xs ++ List.replicate n.toNat z)))) else none
        | _ => none
      else none
    | none => none
  | _, _ => none

/-- The parts of a literal. -/
def fillT {β : Type} : List β → List (Nat × β) → List β
  | zs, [] => zs
  | zs, (i, t) :: rest => fillT (zs.set i t) rest
end Go.Tree

/- Trees of values: the evaluator over the program's own code: operations, code, calls. Definitions alone. -/
namespace Go.Tree
set_option linter.unusedSectionVars false
set_option linter.unusedVariables false
variable {α : Type}
variable [Pol]
/-- What a call hands back: the results, and what became of the arguments that may be written. -/
abbrev Res := List TV × List TV
mutual
/-- May it lead to somebody else's memory? -/
def hasRo : TV → Bool
  | .st xs => hasRoL xs
  | .sl ro k _ _ => ro || k.m
  | .pt ro _ x => ro || hasRo x
  | .cl _ xs => hasRoL xs
  | _ => false
def hasRoL : List TV → Bool
  | [] => false
  | x :: xs => hasRo x || hasRoL xs
end
mutual
/-- Does it own all that it leads to? -/
def deep : TV → Bool
  | .st xs => deepL xs
  | .sl ro k _ xs => !ro && (!k.m || deepL xs)
  | .pt ro _ x => !ro && deep x
  | .fl _ => true
  | _ => false
def deepL : List TV → Bool
  | [] => true
  | x :: xs => deep x && deepL xs
end
/-- The arguments that may be written, lent: places, types, whether they are used up, trees. -/
def lends (P : Program) (sm : Bool) (acc : List Nat) (pls : List (Nat × List Stp)) (env : Env) : List Bool → List Bool → List (TypeId × Operand) → (List Nat → List (Nat × List Stp × TypeId × Bool) → List TV → Env → Option α) → Option α
  | _, _, [], K => K acc [] [] env
  | ws, cs, (ty, x) :: rest, K =>
    bif ws.headD false then match x with
      | .tmp s => bif acc.any (rootOf env x) then none else lend P sm env s fun deps u r p env => bif pls.all (farP (r, p)) then lends P sm (acc ++ deps) ((r, p) :: pls) env ws.tail cs.tail rest fun acc pl us env => K acc ((r, p, ty, cs.headD false) :: pl) (u :: us) env
        else none
      | _ => none
    else lends P sm acc pls env ws.tail cs.tail rest K
/-- An argument for reading alone; the address of a part, too. -/
def lookP (P : Program) (env : Env) (ty : TypeId) (x : Operand) (K : List Nat → TV → Option α) : Option α :=
  match x with
  | .tmp s => match slot env s with
    | .adr r p => match slot env r with
      | .val deps t => match P.underlying ty with
        | some (.pointer e) => getK P false false t p fun opq ro u => lay P e opq ro u fun u => bif fitsTy P e u then K (r :: deps) (.pt true () u) else none
        | _ => none
      | _ => none
    | _ => look P env s K
  | x => lookO P env ty x K
/-- All arguments: those lent, the others for reading alone. 'own': slots whose memory is read. -/
def reads (P : Program) (env : Env) : List Bool → List (TypeId × Operand) → List TV → (List Nat → List TV → Option α) → Option α
  | _, [], _, K => K [] []
  | ws, (ty, x) :: rest, us, K =>
    bif ws.headD false then match us with
      | u :: us => reads P env ws.tail rest us fun deps ts => K deps (u :: ts)
      | [] => none
    else lookP P env ty x fun deps t => reads P env ws.tail rest us fun deps' ts => K (srcs env x ++ deps ++ deps') (roTop t :: ts)
where
  srcs (env : Env) : Operand → List Nat
  | .tmp s => (match slot env s with | .ref r _ _ _ _ => [r] | .val _ t => if hasOwn t then [s] else [] | _ => [])
  | _ => []
/-- What became of the arguments is put where they stood. -/
def backs (P : Program) (env : Env) (D : List Nat) : List (Nat × List Stp × TypeId × Bool) → List TV → (Env → Option α) → Option α
  | [], us, K => mNil us (K env)
  | (r, p, ty, used) :: ws, us, K =>
    bif used then backs P env D ws us K
    else mCons us fun u us => match slot env r with
      | .val deps t => view P false fuelT ty u fun u => bif !(isBox u || isStT u) then none else
        let D' := if hasRo u then D else []
        bif D'.contains r then none else putB P false t p u fun t' => backs P (env.set r (.val (deps ++ D') t')) D ws us K
      | _ => none

def cpyT {β : Type} (xs ys : List β) : List β := ys.take xs.length ++ xs.drop ys.length
/-- copy over a part of a row. -/
def cpyS {β : Type} (sub : Option (Nat × Nat)) (xs ys : List β) : List β :=
  match sub with
  | none => cpyT xs ys
  | some (lo, n) => xs.take lo ++ (cpyT ((xs.drop lo).take n) ys ++ xs.drop (lo + n))
def lenS {β : Type} (sub : Option (Nat × Nat)) (xs : List β) : Nat := match sub with | none => xs.length | some (_, n) => n
/-- A row that is written in part, lent. -/
def lendS (P : Program) (e : TypeId) (env : Env) (s : Nat) (K : List Nat → TV → Nat → List Stp → Option (Nat × Nat) → Env → Option α) : Option α :=
  match slot env s with
  | .val deps t => if (hasOwn t && isBox t) = true then K deps t s [] none ((env.map (killC s [])).set s (.val deps (deaden t))) else none
  | .ref r p sub ty _ =>
    match slot env r with
    | .val deps t => getK P false false t p fun opq ro u => lay P ty opq ro u fun u =>
        if (hasOwn u && isBox u && (sub == none || elemSz P ty == some (ekOf P e))) = true then putK P false t p (deaden u) fun t' => K deps u r p sub ((env.map (killC r p)).set r (.val deps t'))
        else none
    | _ => none
  | _ => none
/-- copy. -/
def copyE (P : Program) (env : Env) (d : Option Tmp) (ty : TypeId) (x y : Operand) (K : Env → Option α) : Option α :=
  match P.underlying ty, x with
  | some (.slice e), .tmp s =>
    bif decide (P.cellsOf e = 0) then none else
    lookO P env ty y fun _ v =>
      lendS P e env s fun deps u r p sub env =>
        match u, v with
        | .sl false k _ xs, .sl _ k' _ ys =>
          bif k == ekOf P e && k' == k && !k.m then
            backs P env deps [(r, p, ty, false)] [.sl false k () (cpyS sub xs ys)] fun env => K (putD env d (.val [] (.fl (.int .i64 ((min ys.length (lenS sub xs) : Nat) : Int)))))
          else none
        | _, _ => none
  | _, _ => none

/-- clear, of a row. -/
def clearE (P : Program) (env : Env) (ty : TypeId) (x : Operand) (K : Env → Option α) : Option α :=
  match P.underlying ty, x with
  | some (.slice e), .tmp s =>
    match zeroT P e with
    | some z =>
      bif decide (P.cellsOf e ≠ 0) && csz z == P.cellsOf e then
        lendS P e env s fun deps u r p sub env =>
          match u with
          | .sl false k _ xs =>
            bif k == ekOf P e && !k.m then backs P env deps [(r, p, ty, false)] [.sl false k () (cpyS sub xs (List.replicate (lenS sub xs) z))] K
            else none
          | _ => none
      else none
    | none => none
  | _, _ => none

def viewAll (P : Program) : List Bool → List TypeId → List TV → (List TV → Option α) → Option α
  | _, [], ts, K => mNil ts (K [])
  | rm, ty :: tys, ts, K => mCons ts fun t ts => view P (rm.headD false) fuelT ty t fun u => viewAll P rm.tail tys ts fun us => K (u :: us)

/-- A nil slice that is written out, handed to a function that is told by hand: the value itself. -/
def nilA : Bool → List (TypeId × Operand) → List TV → List TV
  | true, (_, .const (.slice none 0 0)) :: _, .sl true _ _ [] :: ts => .fl (.slice none 0 0) :: ts
  | _, _, ts => ts
/-- A call of a Go function. -/
def callE (cx : Ctx) (call : FuncId → List TV → Option Res) (env : Env) (d : Option Tmp) (f : FuncId) (args : List (TypeId × Operand)) (caps : List TV) (capDeps : List Nat) (K : Env → Option α) : Option α :=
  match cx.P.funcs[f]? with
  | none => none
  | some fn =>
    bif !(fn.body.isSome && decide ((cx.sig f).wm.length ≤ args.length)) then none else
    lends cx.P (cx.sig f).sm capDeps [] env (cx.sig f).wm (cx.sig f).cm args fun acc pl us env =>
      reads cx.P env (cx.sig f).wm args us fun rdeps ts =>
        (call f (nilA (cx.own f) args ts ++ caps)).bind fun res =>
          viewAll cx.P (cx.sig f).rm fn.resultTypes.toList res.1 fun rets =>
            backs cx.P env (acc ++ rdeps) pl res.2 fun env =>
              bif cx.own f then
                (bif deepL rets then
                  (match rets with
                  | [] => K (putD env d .un)
                  | [t] => K (putD env d (.val [] t))
                  | ts => K (putD env d (.tu [] ts)))
                else none)
              else
              let deps := if rets.any hasRo then acc ++ rdeps else []
              match rets with
              | [] => K (putD env d .un)
              | [t] => K (putD env d (.val deps t))
              | ts => K (putD env d (.tu deps ts))

/-- A pointer or a slice is compared with nil: is it nil? -/
noncomputable def nilAsk (P : Program) (env : Env) (ty : TypeId) (x y : Operand) (K : Bool → Option α) : Option α :=
  match P.underlying ty, x, y with
  | some (.pointer _), .tmp s, .const (.pointer none) => look P env s fun _ t => match t with | .pt _ _ _ => K false | .fl (.pointer none) => K true | _ => none
  | some (.slice _), .tmp s, .const (.slice none 0 0) => look P env s fun _ t => match t with
    | .sl _ _ _ [] => amb [K true, K false]
    | .sl _ _ _ (_ :: _) => K false
    | _ => none
  | _, _, _ => none
/-- A value of one cell. -/
def oneB (v : Value) : Bool := match v with | .agg _ | .tuple _ => false | _ => true
def pureV (P : Program) (s : Sem Value) (K : Value → Option α) : Option α := match pureOf P s with | some v => bif oneB v then K v else none | none => none
/-- An operation of two flat values. -/
def binF (P : Program) (op : BinOp) (xType : TypeId) (x y : Operand) (a b : Value) (K : Value → Option α) : Option α :=
  match op, a, b with
  | .add, .string s, .string t => bif decide (s.size + t.size < 140737488355328) then K (.string (s ++ t)) else none
  | .quo, .int k m, .int k' n => bif decide (k = k') && !decide (n = 0) then K (.int k (k.wrap (m.tdiv n))) else none
  | .rem, .int k m, .int k' n => bif decide (k = k') && !decide (n = 0) then K (.int k (m.tmod n)) else none
  | .shl, .int k m, .int _ n => bif !decide (n < 0) then K (.int k (k.wrap (m * 2 ^ (min n.toNat k.bits)))) else none
  | .shr, .int k m, .int _ n => bif !decide (n < 0) then K (.int k (m.fdiv (2 ^ (min n.toNat k.bits)))) else none
  | op, a, b => pureV P (do eqGuard op xType x y a b; binOp op xType a b) K
/-- An operand comes to stand in the place that an operation writes. -/
def copyL (P : Program) (fn : Func) (ty : TypeId) (env : Env) (d : Option Tmp) (x : Operand) (K : Env → Option α) : Option α :=
  match x, d with
  | .tmp s, some d => copyS P fn ty env d s K
  | x, d => lookO P env ty x fun deps t => K (putD env d (.val deps t))
/-- The types of a call's arguments: as the function has them. -/
def argTys (P : Program) (f : FuncId) (c : Call) : List TypeId := match P.funcs[f]? with
  | some fn => bif fn.params.size == c.args.size then fn.params.toList else c.argTypes.toList
  | none => c.argTypes.toList
/-- One operation. -/
noncomputable def evOp0 (cx : Ctx) (call : FuncId → List TV → Option Res) (fn : Func) (o : Oper) (env : Env) (K : Env → Option α) : Option α :=
  let P := cx.P
  let pd (v : AV Unit) : Option α := K (putD env o.dst v)
  match o.op with
  | .move x | .assign x =>
    match o.dst with
    | none => none
    | some _ => copyL P fn o.type env o.dst x K
  | .pick c a b =>
    match flatO env c with
    | some (.bool c) => bif c then copyL P fn o.type env o.dst a K else copyL P fn o.type env o.dst b K
    | _ => none
  | .alloc e => match zeroT P e with | some z => pd (.val [] (.pt false () z)) | none => none
  | .box e x => takeO P env e x fun deps t env => K (putD env o.dst (.val deps (.pt false () t)))
  | .build t parts =>
    match P.underlying t, zeroT P t with
    | some (.struct fs), some (.st zs) =>
      takeAll P [] env (parts.toList.map fun q => (((fs[q.1]?).map (·.type)).getD 0, q.2)) fun deps ts env =>
        let ps := (parts.toList.map (·.1)).zip ts
        bif fs.toList.all (fun f => (P.info? f.type).isSome) && ps.all fun q => fieldOk P t q.1 zs && csz q.2 == csz (zs.getD q.1 (.dead ())) && (fs[q.1]?).any fun f => P.cellsOf f.type == csz q.2 then
          K (putD env o.dst (.val deps (.st (fillT zs ps))))
        else none
    | _, _ => none
  | .buildSlice t len parts =>
    match P.underlying t with
    | some (.slice e) => match zeroT P e with
      | some z => if len * P.cellsOf e ≤ 16777216 ∧ P.cellsOf e ≠ 0 ∧ csz z = P.cellsOf e then
          takeAll P [] env (parts.toList.map fun q => (e, q.2)) fun deps ts env =>
            let ps := (parts.toList.map (·.1)).zip ts
            bif ps.all fun q => decide (q.1 < len) && csz q.2 == P.cellsOf e && ((ekOf P e).m || noMem q.2) then
              K (putD env o.dst (.val deps (.sl false (ekOf P e) () (fillT (List.replicate len z) ps))))
            else none
        else none
      | none => none
    | _ => none
  | .load ty x => place P env ty x fun r p => loadE P ty env o.dst r p K
  | .store ty a x => storeE P ty env a x fun env => K (putD env o.dst .un)
  | .nilCheck x => match o.dst with
    | some d => match x with
      | .tmp s => place P env 0 x fun _ _ => copyS P fn o.type env d s K
      | _ => none
    | none => none
  | .fieldAddr s x f => match offs P s f with | some _ => place P env s x fun r p => pd (.adr r (p ++ [.f s f])) | none => none
  | .indexAddr xTy x i =>
    match (flatO env i).bind intOf with
    | some i => match P.underlying xTy with
      | some (.slice e) => row P env e x fun r p lo n => bif decide (0 ≤ i) && decide (i < n) then pd (.adr r (p ++ [.i e (lo + i.toNat)])) else none
      | _ => none
    | none => none
  | .makeSlice t l c =>
    match P.underlying t, (flatO env l), (flatO env c) with
    | some (.slice e), some (.int _ l), some (.int _ c) => match zeroT P e with
      | some z => bif decide (0 ≤ l) && decide (l ≤ c) && decide (c * bytesOf P e < lim) && decide (c < 9223372036854775807) && decide (P.cellsOf e ≠ 0) && csz z == P.cellsOf e then pd (.val [] (.sl false (ekOf P e) () (List.replicate l.toNat z))) else none
      | none => none
    | _, _, _ => none
  | .slice t x lo hi none =>
    match P.underlying t with
    | some (.slice e) => sliceE P t e env o.dst x lo hi K
    | some .string =>
      match flatO env x, flatOs env lo.toList, flatOs env hi.toList with
      | some (.string s), some lo, some hi =>
        match lo.head?.elim (some 0) intOf, hi.head?.elim (some (s.size : Int)) intOf with
        | some lo, some hi => bif boundsOk lo hi s.size then pd (.val [] (.fl (.string (s.extract lo.toNat hi.toNat)))) else none
        | _, _ => none
      | _, _, _ => none
    | _ => none
  | .extract x i => match x with
    | .tmp s => match slot env s with
      | .tu deps ts => let u := ts.getD i (.dead ()); bif decide (i < ts.length) then (if hasOwn u then K (putD ((env.map (killC s [])).set s (.tu deps (ts.set i (deaden u)))) o.dst (.val deps u)) else pd (.val deps u)) else none
      | _ => none
    | _ => none
  | .binOp op xType x y yType =>
    match flatOs env [x, y] with
    | some [a, b] => binF P op xType x y a b fun v => pd (.val [] (.fl v))
    | _ => match op with
      | .eql => nilAsk P env xType x y fun b => pd (.val [] (.fl (.bool b)))
      | .neq => nilAsk P env xType x y fun b => pd (.val [] (.fl (.bool (!b))))
      | _ => none
  | .convert src dst x => match flatO env x with
    | some v => pureV P (convert src dst v) fun v => pd (.val [] (.fl v))
    | none => none
  | .unOp op _ x => match flatO env x with
    | some v => pureV P (Op.unary op v) fun v => pd (.val [] (.fl v))
    | none => none
  | .index ty x i =>
    match P.underlying ty, flatO env x, flatO env i with
    | some .string, some (.string s), some (.int _ n) => bif decide (0 ≤ n) && decide (n < s.size) then pd (.val [] (.fl (.int .u8 (s.get! n.toNat).toNat))) else none
    | _, _, _ => none
  | .makeFunc fn' first caps => match fn' with
    | .func f => bif first.size != 0 then none else reads P env [] (caps.toList.map fun x => (0, x)) [] fun deps ts => bif ts.any isStT then none else pd (.val deps (.cl f ts))
    | _ => none
  | .call c =>
    bif c.argTypes.size != c.args.size then none else
    match c.callee with
    | .builtin .len => match c.args.toList, c.argTypes.toList with
      | [x], [t] => match P.underlying t with
        | some .string => match flatO env x with | some (.string s) => pd (.val [] (.fl (.int .i64 s.size))) | _ => none
        | some (.slice e) => row P env e x fun _ _ _ n => pd (.val [] (.fl (.int .i64 n)))
        | _ => none
      | _, _ => none
    | .builtin .append => match c.args.toList, c.argTypes.toList with
      | [s, x], [t, t'] => bif t == t' then appendE P t env o.dst s x K else (match P.underlying t' with | some (.int _) => appendN P t env o.dst s x K | _ => none)
      | _, _ => none
    | .builtin .copy => match c.args.toList, c.argTypes.toList with
      | [x, y], [t, t'] => bif t == t' then copyE P env o.dst t x y K else none
      | _, _ => none
    | .builtin .clear => match o.dst, c.args.toList, c.argTypes.toList with
      | none, [x], [t] => clearE P env t x K
      | _, _, _ => none
    | .builtin .max => match flatOs env c.args.toList with
      | some vs => pureV P (Builtin.max_ c.argTypes o.type vs.toArray) fun v => pd (.val [] (.fl v))
      | none => none
    | .builtin .min => match flatOs env c.args.toList with
      | some vs => pureV P (Builtin.min_ c.argTypes o.type vs.toArray) fun v => pd (.val [] (.fl v))
      | none => none
    | .value (.func f) => callE cx call env o.dst f ((argTys P f c).zip c.args.toList) [] [] K
    | .value (.tmp s) => look P env s fun deps t => match t with
      | .cl f caps => bif hasOwnL caps || caps.any isStT then none else callE cx call env o.dst f ((argTys P f c).zip c.args.toList) caps deps K
      | _ => none
    | _ => none
  | _ => none
end Go.Tree

/- Trees of values: the evaluator over the program's own code: functions that are told within their callers. Definitions alone. -/
namespace Go.Tree
set_option linter.unusedSectionVars false
set_option linter.unusedVariables false
variable {α : Type}
section
variable [Pol]
/-- The operands of an operation. -/
def opnds : Op → List Operand
  | .move x | .assign x | .box _ x | .load _ x | .nilCheck x | .fieldAddr _ x _ | .extract x _ | .convert _ _ x | .unOp _ _ x => [x]
  | .pick c x y => [c, x, y]
  | .build _ parts | .buildSlice _ _ parts => parts.toList.map (·.2)
  | .store _ x y | .indexAddr _ x y | .makeSlice _ x y | .index _ x y | .binOp _ _ x y _ => [x, y]
  | .slice _ x lo hi _ => x :: (lo.toList ++ hi.toList)
  | .makeFunc _ _ caps => caps.toList
  | .call c => c.args.toList ++ (match c.callee with | .value f => [f] | _ => [])
  | _ => []
def fitOp (nt : Nat) (o : Oper) : Bool := fitD nt o.dst && (opnds o.op).all (fitO nt)
def fitCode (nt : Nat) : Code → Bool
  | .region _ ops _ => ops.toList.all (fitOp nt) && Region.noSelect ops
  | .seq a b => fitCode nt a && fitCode nt b
  | .cond c a b => fitO nt c && fitCode nt a && fitCode nt b
  | .block _ c => fitCode nt c
  | .loop c => fitCode nt c
  | _ => true
/-- The results are taken out, of slots or of cells. -/
def takeRes (P : Program) (nt : Nat) (acc : List Nat) (env : Env) : List ResultVar → (List Nat → List TV → Env → Option α) → Option α
  | [], K => K acc [] env
  | .tmp t :: rest, K => bif !decide (t < nt) || acc.any (rootOf env (.tmp t)) then none else take P env t fun deps u env => takeRes P nt (acc ++ deps) env rest fun acc ts env => K acc (u :: ts) env
  | .cell t ty :: rest, K => bif !decide (t < nt) || acc.contains t then none else
    match slot env t with
    | .val deps (.pt false _ u) => bif fitsTy P ty u then takeRes P nt (acc ++ deps) (putS env t .un) rest fun acc ts env => K acc (u :: ts) env else none
    | _ => none
/-- Slots of a caller, as a function sees them that is told within it. -/
def shA {η : Type} (m : Nat) : AV η → AV η
  | .un => .un
  | .val deps t => .val (deps.map (· + m)) t
  | .tu deps ts => .tu (deps.map (· + m)) ts
  | .ref r p s ty sn => .ref (r + m) p s ty sn
  | .adr r p => .adr (r + m) p
/-- The same, back: what leads to the function's own slots is forgotten. -/
def unA {η : Type} (m : Nat) : AV η → AV η
  | .un => .un
  | .val deps t => bif deps.all (Nat.ble m) then .val (deps.map (· - m)) t else .un
  | .tu deps ts => bif deps.all (Nat.ble m) then .tu (deps.map (· - m)) ts else .un
  | .ref r p s ty sn => bif Nat.ble m r then .ref (r - m) p s ty sn else .un
  | .adr r p => bif Nat.ble m r then .adr (r - m) p else .un
/-- An argument's slot. -/
def argA (P : Program) (m : Nat) (env : Env) (ty : TypeId) (x : Operand) : Option (AV Unit) :=
  match x with
  | .tmp s => match slot env s with
    | .val deps t => if hasOwn t then some (.ref (s + m) [] none ty (isStT t)) else some (.val (deps.map (· + m)) t)
    | .ref r p s ty sn => some (.ref (r + m) p s ty sn)
    | .adr r p => some (.adr (r + m) p)
    | _ => none
  | .const v => match constT P ty v with
    | some t => if hasOwn t then none else some (.val [] t)
    | none => none
  | _ => none
def argsA (P : Program) (m : Nat) (env : Env) : List (TypeId × Operand) → Option (List (AV Unit))
  | [] => some []
  | (ty, x) :: rest => match argA P m env ty x with
    | some v => match argsA P m env rest with
      | some vs => some (v :: vs)
      | none => none
    | none => none
end
end Go.Tree

/- Trees of values: the evaluator over the program's own code: regions, code, functions. Definitions alone. -/
namespace Go.Tree
set_option linter.unusedSectionVars false
set_option linter.unusedVariables false
variable {α : Type}
section
variable [Pol]
/-- How one operation is told. -/
abbrev EvO (α : Type) := Func → Oper → Env → (Env → Option α) → Option α
/-- One operation, if its guard lets it. -/
noncomputable def evOne (E : EvO α) (fn : Func) (ops : Array Oper) (o : Oper) (env : Env) (K : Env → Option α) : Option α :=
  match o.guard with
  | none => E fn o env K
  | some (j, want) =>
    match (ops[j]?).bind (·.dst) with
    | none => none
    | some s =>
      match slot env s with
      | .val _ (.fl (.bool b)) =>
        bif b then
          (let env := env.set s (.val [] (.fl (.bool true)))
           bif want then E fn o env K else K (putD env o.dst (.tu [] [])))
        else
          (let env := env.set s (.val [] (.fl (.bool false)))
           bif want then K (putD env o.dst (.tu [] [])) else E fn o env K)
      | .tu _ [] => K (putD env o.dst (.tu [] []))
      | _ => none
noncomputable def evList (E : EvO α) (fn : Func) (ops : Array Oper) : List Oper → Env → (Env → Option α) → Option α
  | [], env, K => K env
  | o :: rest, env, K => evOne E fn ops o env fun env => evList E fn ops rest env K

/-- Operations that ask no world, and those that read it alone. -/
def quiet : Op → Bool
  | .move _ | .assign _ | .pick .. | .nilCheck _ | .binOp .. | .unOp .. | .fieldAddr .. | .convert .. | .indexAddr .. | .index .. | .extract .. | .slice .. | .makeFunc .. => true
  | .call { callee := .builtin .len, .. } => true
  | _ => false
/-- Operations that leave the blocks that are there as they are. -/
def tame : Op → Bool
  | .move _ | .assign _ | .load .. | .fieldAddr .. | .indexAddr .. | .alloc _ | .box .. | .build .. | .buildSlice .. => true
  | .call { callee := .builtin .len, .. } => true
  | _ => false
def isLoad : Op → Bool
  | .load .. => true
  | _ => false
/-- Must j wait for i? -/
def behind (ops : Array Oper) : Nat → Nat → Nat → Bool
  | 0, _, _ => false
  | n + 1, i, j => match ops[j]? with
    | some o => o.after.any fun e => Region.binds .any e && (e.on == i || behind ops n i e.on)
    | none => false
/-- No operation that may turn memory may come ahead of this one. -/
def calmAt (ops : Array Oper) (listed : Array Bool) (i : Nat) : Bool :=
  (List.range ops.size).all fun j => j == i || listed.getD j true || (ops[j]?).any (fun o => tame o.op) || behind ops ops.size i j
/-- May be taken first. -/
def first (ops : Array Oper) (listed : Array Bool) (i : Nat) : Bool :=
  match ops[i]? with
  | some o => Region.free .any ops listed i && (quiet o.op || isLoad o.op && calmAt ops listed i)
  | none => false
noncomputable def evAny (E : EvO α) (fn : Func) (ops : Array Oper) : Nat → Array Bool → Env → (Env → Option α) → Option α
  | 0, listed, env, K => match Region.ready .any ops listed with | [] => K env | _ => none
  | n + 1, listed, env, K =>
    match Region.ready .any ops listed with
    | [] => K env
    | rs =>
      let step (i : Nat) : Option α := match ops[i]? with
        | some o => evOne E fn ops o env fun env => evAny E fn ops n (listed.setIfInBounds i true) env K
        | none => none
      match rs.find? (first ops listed) with
      | some i => step i
      | none => amb (rs.map step)

def firstRegion : Code → Nat
  | .region id _ _ => id
  | .seq a _ => firstRegion a
  | .block _ c => firstRegion c
  | .loop c => firstRegion c
  | .cond _ a _ => firstRegion a
  | _ => 0
def hasN : List Nat → Nat → Bool
  | [], _ => false
  | k :: ks, i => bif Nat.beq k i then true else hasN ks i
/-- Each once. -/
def dd : List Nat → List Nat
  | [] => []
  | x :: l => bif hasN l x then dd l else x :: dd l
def keepAV {η : Type} (ks : List Nat) : AV η → AV η
  | .un => .un
  | .val deps t => if deps.all ks.contains then .val (dd deps) t else .un
  | .tu deps ts => .un
  | .ref r p s ty sn => if ks.contains r then .ref r p s ty sn else .un
  | .adr r p => if ks.contains r then .adr r p else .un
def havocI {η : Type} (ks : List Nat) : Nat → List (AV η) → List (AV η)
  | _, [] => []
  | i, v :: vs => (bif hasN ks i then keepAV ks v else .un) :: havocI ks (i + 1) vs
def havoc {η : Type} (ks : List Nat) (env : List (AV η)) : List (AV η) := havocI ks 0 env

def evLoop (body : (Ex → Env → Option α) → Env → Option α) (hv : Env → Env) : Nat → (Ex → Env → Option α) → Env → Option α
  | 0, _, _ => none
  | n + 1, K, env => body (fun e env => match e with | .normal => evLoop body hv n K (hv env) | e => K e env) env

/-- Where ways come together. -/
def cutE {η : Type} (cx : Ctx) (f : FuncId) (c : Code) (env : List (AV η)) : List (AV η) := match cx.cut f (firstRegion c) with | some ks => havoc ks env | none => env
noncomputable def ev (cx : Ctx) (E : EvO α) (f : FuncId) (fn : Func) (n : Nat) : Code → (Ex → Env → Option α) → Env → Option α
  | .skip, K, env => K .normal env
  | .region _ ops draw, K, env =>
    match draw with
    | true => evAny E fn ops ops.size (Array.replicate ops.size false) env (K .normal)
    | false => evList E fn ops ops.toList env (K .normal)
  | .seq a b, K, env => ev cx E f fn n a (fun e env => match e with | .normal => ev cx E f fn n b K (cutE cx f b env) | e => K e env) env
  | .cond c a b, K, env =>
    match flatO env c with
    | some (.bool t) => bif t then ev cx E f fn n a K env else ev cx E f fn n b K env
    | _ => none
  | .block id c, K, env => ev cx E f fn n c (fun e env => match e with | .exit i => if i = id then K .normal env else K (.exit i) env | e => K e env) env
  | .loop c, K, env => evLoop (ev cx E f fn n c) (havoc (cx.keep f (firstRegion c))) n K (havoc (cx.keep f (firstRegion c)) env)
  | .exit id, K, env => K (.exit id) env
  | .ret, K, env => K .ret env
  | _, _, _ => none

/-- A function, told within its caller. -/
noncomputable def inlE (cx : Ctx) (E : EvO α) (env : Env) (d : Option Tmp) (f : FuncId) (fn : Func) (c : Code) (args : List (TypeId × Operand)) (K : Env → Option α) : Option α :=
  if args.length ≤ fn.ntmps ∧ fitCode fn.ntmps c = true then
    match argsA cx.P fn.ntmps env args with
    | some as =>
      ev cx E f fn 0 c (fun e env' => match e with
        | .exit _ => none
        | _ => takeRes cx.P fn.ntmps [] env' fn.results.toList fun D ts env'' =>
          bif D.all (Nat.ble fn.ntmps) && Nat.beq env''.length (fn.ntmps + env.length) then
            (let env3 := (env''.drop fn.ntmps).map (unA fn.ntmps)
             let D3 := if ts.any hasRo then D.map (· - fn.ntmps) else []
             match ts with
             | [] => K (putD env3 d .un)
             | [t] => K (putD env3 d (.val D3 t))
             | ts => K (putD env3 d (.tu D3 ts)))
          else none)
        (as ++ List.replicate (fn.ntmps - as.length) .un ++ env.map (shA fn.ntmps))
    | none => none
  else none
/-- The function that an operation calls, if it is to be told here. -/
def inlOf (cx : Ctx) (o : Oper) : Option (FuncId × Call) :=
  match o.op with
  | .call c => match c.callee with
    | .value (.func g) => bif cx.inl g then some (g, c) else none
    | _ => none
  | _ => none
/-- One operation, functions told within one another so many deep. -/
noncomputable def evOpD (cx : Ctx) (call : FuncId → List TV → Option Res) : Nat → EvO α
  | 0 => evOp0 cx call
  | n + 1 => fun fn o env K => match inlOf cx o with
    | none => evOp0 cx call fn o env K
    | some (g, c) => match cx.P.funcs[g]? with
      | some fn' => match fn'.body with
        | some code => bif c.argTypes.size != c.args.size then none else inlE cx (evOpD cx call n) env o.dst g fn' code ((argTys cx.P g c).zip c.args.toList) K
        | none => none
      | none => none
/-- One operation. -/
noncomputable def evOp (cx : Ctx) (call : FuncId → List TV → Option Res) : EvO α := evOpD cx call 3
/-- What became of the arguments that may be written. -/
def fins (env : Env) (nt : Nat) : List Bool → List Bool → Nat → Option (List TV)
  | [], _, _ => some []
  | true :: ws, cs, j => if cs.headD false then fins env nt ws cs.tail (j + 1) else match slot env (nt + j) with
    | .val d t => bif d.all fun x => decide (x < nt) then (fins env nt ws cs.tail (j + 1)).map fun ts => t :: ts else none
    | _ => none
  | false :: ws, cs, j => fins env nt ws cs.tail (j + 1)
def resK (cx : Ctx) (f : FuncId) (fn : Func) (e : Ex) (env : Env) : Option Res :=
  match e with
  | .exit _ => none
  | _ => takeRes cx.P fn.ntmps [] env fn.results.toList fun deps ts env =>
      (fins env fn.ntmps (cx.sig f).wm (cx.sig f).cm 0).bind fun us =>
        if deps.isEmpty || (!(ts.any hasOwn) && deps.all fun d => decide (d < fn.ntmps)) then some (ts, us) else none
/-- The slots when a function is entered: the arguments (those that may be written stand behind all), the temporaries. -/
def env0 {η : Type} (fn : Func) (ws : List Bool) (args : List (Tr η)) : List (AV η) :=
  let n := args.length
  (args.zipIdx.map fun x => if ws.getD x.2 false then AV.ref (fn.ntmps + x.2) [] none (fn.params.getD x.2 0) false else AV.val [] x.1)
    ++ List.replicate (fn.ntmps - n) .un
    ++ (args.zipIdx.map fun x => if ws.getD x.2 false then AV.val [] x.1 else .un)
end
/-- A function. -/
noncomputable def tcall (cx : Ctx) : Nat → FuncId → List TV → Option Res
  | 0, _, _ => none
  | n + 1, f, args =>
    match cx.given f with
    | some g => g args
    | none =>
      match cx.P.funcs[f]? with
      | some fn => match fn.body with
        | some c => if args.length ≤ fn.ntmps ∧ (cx.sig f).wm.length ≤ args.length ∧ fitCode fn.ntmps c = true ∧ (cx.sig f).sm = false then @ev _ cx (@evOp _ (cx.pol f) cx (tcall cx n)) f fn n c (@resK (cx.pol f) cx f fn) (env0 fn (cx.sig f).wm args) else none
        | none => none
      | none => none
end Go.Tree

/- Trees of values in memory: what it means that a tree lies in a world, and how a part of it is written. -/
namespace Go.Tree
set_option linter.unusedVariables false
abbrev LT := Tr Value

section
variable {η θ : Type}
mutual
def Tr.map (g : η → θ) : Tr η → Tr θ
  | .fl v => .fl v
  | .st xs => .st (Tr.mapL g xs)
  | .sl ro k h xs => .sl ro k (g h) (Tr.mapL g xs)
  | .pt ro h x => .pt ro (g h) (Tr.map g x)
  | .cl f xs => .cl f (Tr.mapL g xs)
  | .dead h => .dead (g h)
def Tr.mapL (g : η → θ) : List (Tr η) → List (Tr θ)
  | [] => []
  | x :: xs => Tr.map g x :: Tr.mapL g xs
end
theorem Tr.mapL_eq (g : η → θ) : ∀ xs, Tr.mapL g xs = xs.map (Tr.map g)
  | [] => rfl
  | x :: xs => by rw [Tr.mapL, Tr.mapL_eq g xs]; rfl
end
def er (t : LT) : TV := t.map fun _ => ()

mutual
def cells : LT → List Value
  | .fl v => [v]
  | .st xs => cellsL xs
  | .sl _ _ h _ => [h]
  | .pt _ h _ => [h]
  | .cl f xs => [.func (.func f) #[] (cellsL xs).toArray]
  | .dead h => [h]
def cellsL : List LT → List Value
  | [] => []
  | x :: xs => cells x ++ cellsL xs
end
/-- The value in a slot. -/
def valOf : LT → Value
  | .st xs => .agg (cellsL xs).toArray
  | .fl v => v
  | .sl _ _ h _ => h
  | .pt _ h _ => h
  | .cl f xs => .func (.func f) #[] (cellsL xs).toArray
  | .dead h => h

/-- The block, and the place in it, that a header leads to. -/
def plc : Value → Option (Nat × Nat)
  | .slice (some a) _ c => if c = 0 then none else some (a.block, a.off)
  | .pointer (some a) => some (a.block, a.off)
  | _ => none
def blk (h : Value) : List Nat := match plc h with | some (b, _) => [b] | none => []
mutual
def own : LT → List Nat
  | .fl _ => []
  | .st xs => ownL xs
  | .sl ro _ h xs => if ro then [] else blk h ++ ownL xs
  | .pt ro h x => if ro then [] else blk h ++ own x
  | .cl _ xs => ownL xs
  | .dead _ => []
def ownL : List LT → List Nat
  | [] => []
  | x :: xs => own x ++ ownL xs
end
mutual
def all : LT → List Nat
  | .fl _ => []
  | .st xs => allL xs
  | .sl _ _ h xs => blk h ++ allL xs
  | .pt _ h x => blk h ++ all x
  | .cl _ xs => allL xs
  | .dead _ => []
def allL : List LT → List Nat
  | [] => []
  | x :: xs => all x ++ allL xs
end
mutual
def shr : LT → List Nat
  | .fl _ => []
  | .st xs => shrL xs
  | .sl ro _ h xs => if ro then blk h ++ allL xs else shrL xs
  | .pt ro h x => if ro then blk h ++ all x else shr x
  | .cl _ xs => shrL xs
  | .dead _ => []
def shrL : List LT → List Nat
  | [] => []
  | x :: xs => shr x ++ shrL xs
end
/-- A header of a slice: its elements lie where it says. -/
def SlOk (w : World) (ro : Bool) (k : Nat) (h : Value) (n : Nat) (cs : List Value) : Prop :=
  ∃ A c, h = .slice A n c ∧ n ≤ c ∧ cs.length = n * k ∧ (c ≠ 0 → ∃ b o, A = some ⟨b, o, none⟩ ∧ b < w.heap.size ∧ w.rangeAt b o cs ∧ (ro = false → w.there b o (c * k)))
def PtOk (w : World) (ro : Bool) (h : Value) (cs : List Value) : Prop :=
  ∃ b o, h = .pointer (some ⟨b, o, none⟩) ∧ b < w.heap.size ∧ w.rangeAt b o cs ∧ (ro = false → w.there b o cs.length)
mutual
def Mem (w : World) : LT → Prop
  | .fl v => v.oneCell' = true
  | .st xs => MemL w xs
  | .sl ro k h xs => SlOk w ro k.n h xs.length (cellsL xs) ∧ (∀ x ∈ xs, (cells x).length = k.n ∧ (k.m = false → all x = [])) ∧ MemL w xs
  | .pt ro h x => PtOk w ro h (cells x) ∧ Mem w x
  | .cl _ xs => MemL w xs
  | .dead h => h.oneCell' = true
def MemL (w : World) : List LT → Prop
  | [] => True
  | x :: xs => Mem w x ∧ MemL w xs
end
theorem memL_iff {w : World} : ∀ {xs : List LT}, MemL w xs ↔ ∀ x ∈ xs, Mem w x
  | [] => by simp [MemL]
  | x :: xs => by rw [MemL, memL_iff]; simp
theorem ownL_eq : ∀ xs, ownL xs = xs.flatMap own
  | [] => rfl
  | x :: xs => by rw [ownL, ownL_eq xs]; rfl
theorem allL_eq : ∀ xs, allL xs = xs.flatMap all
  | [] => rfl
  | x :: xs => by rw [allL, allL_eq xs]; rfl
theorem shrL_eq : ∀ xs, shrL xs = xs.flatMap shr
  | [] => rfl
  | x :: xs => by rw [shrL, shrL_eq xs]; rfl
theorem cellsL_eq : ∀ xs, cellsL xs = xs.flatMap cells
  | [] => rfl
  | x :: xs => by rw [cellsL, cellsL_eq xs]; rfl
theorem cellsL_append (xs ys : List LT) : cellsL (xs ++ ys) = cellsL xs ++ cellsL ys := by simp [cellsL_eq]
theorem ownL_append (xs ys : List LT) : ownL (xs ++ ys) = ownL xs ++ ownL ys := by simp [ownL_eq]
theorem shrL_append (xs ys : List LT) : shrL (xs ++ ys) = shrL xs ++ shrL ys := by simp [shrL_eq]
theorem allL_append (xs ys : List LT) : allL (xs ++ ys) = allL xs ++ allL ys := by simp [allL_eq]

theorem rangeAt_congr {w w' : World} {b o : Nat} {cs : List Value} (hb : w'.heap[b]? = w.heap[b]?) (h : w.rangeAt b o cs) : w'.rangeAt b o cs := fun j v hj => by
  have := h j v hj
  rw [← this]
  exact World.cell?_of_block (w := w) hb
theorem there_congr {w w' : World} {b o n : Nat} (hb : w'.heap[b]? = w.heap[b]?) (h : w.there b o n) : w'.there b o n := fun j hj => by
  obtain ⟨h1, h2⟩ := h j hj
  rw [World.cell?_of_block (w := w) (w' := w') (a := ⟨b, o + j, none⟩) hb, World.frozen?_of_block (w := w) (w' := w') (a := ⟨b, o + j, none⟩) hb]
  exact ⟨h1, h2⟩
theorem size_of_some {w w' : World} {b : Nat} (hb : w'.heap[b]? = w.heap[b]?) (h : b < w.heap.size) : b < w'.heap.size := by
  rw [Array.getElem?_eq_getElem h] at hb
  exact (Array.getElem?_eq_some_iff.1 hb).1
theorem SlOk.congr {w w' : World} {ro : Bool} {k : Nat} {h : Value} {n : Nat} {cs : List Value} (hb : ∀ b ∈ blk h, w'.heap[b]? = w.heap[b]?) (hk : SlOk w ro k h n cs) : SlOk w' ro k h n cs := by
  obtain ⟨A, c, rfl, hc, hl, hx⟩ := hk
  refine ⟨A, c, rfl, hc, hl, fun h0 => ?_⟩
  obtain ⟨b, o, rfl, hs, hr, ht⟩ := hx h0
  have := hb b (by simp [blk, plc, h0])
  exact ⟨b, o, rfl, size_of_some this hs, rangeAt_congr this hr, fun hro => there_congr this (ht hro)⟩
theorem PtOk.congr {w w' : World} {ro : Bool} {h : Value} {cs : List Value} (hb : ∀ b ∈ blk h, w'.heap[b]? = w.heap[b]?) (hk : PtOk w ro h cs) : PtOk w' ro h cs := by
  obtain ⟨b, o, rfl, hs, hr, ht⟩ := hk
  have := hb b (by simp [blk, plc])
  exact ⟨b, o, rfl, size_of_some this hs, rangeAt_congr this hr, fun hro => there_congr this (ht hro)⟩
mutual
theorem Mem.congr {w w' : World} : ∀ (t : LT), (∀ b ∈ all t, w'.heap[b]? = w.heap[b]?) → Mem w t → Mem w' t
  | .fl _, _, h => h
  | .st xs, hb, h => MemL.congr xs hb h
  | .sl _ _ _ xs, hb, h => ⟨h.1.congr fun b hm => hb b (by rw [all]; exact List.mem_append.2 (.inl hm)), h.2.1, MemL.congr xs (fun b hm => hb b (by rw [all]; exact List.mem_append.2 (.inr hm))) h.2.2⟩
  | .pt _ _ x, hb, h => ⟨h.1.congr fun b hm => hb b (by rw [all]; exact List.mem_append.2 (.inl hm)), Mem.congr x (fun b hm => hb b (by rw [all]; exact List.mem_append.2 (.inr hm))) h.2⟩
  | .cl _ xs, hb, h => MemL.congr xs hb h
  | .dead _, _, h => h
theorem MemL.congr {w w' : World} : ∀ (xs : List LT), (∀ b ∈ allL xs, w'.heap[b]? = w.heap[b]?) → MemL w xs → MemL w' xs
  | [], _, _ => trivial
  | x :: xs, hb, h => ⟨Mem.congr x (fun b hm => hb b (by rw [allL]; exact List.mem_append.2 (.inl hm))) h.1, MemL.congr xs (fun b hm => hb b (by rw [allL]; exact List.mem_append.2 (.inr hm))) h.2⟩
end
mutual
theorem all_of {b : Nat} : ∀ (t : LT), b ∈ all t → b ∈ own t ∨ b ∈ shr t
  | .fl _, h => by simp [all] at h
  | .st xs, h => all_ofL xs h
  | .sl ro _ hd xs, h => by
    cases ro with
    | true => exact .inr h
    | false =>
      simp only [own, shr, all, List.mem_append, Bool.false_eq_true, if_false] at *
      rcases h with h | h
      · exact .inl (.inl h)
      · rcases all_ofL xs h with h | h
        · exact .inl (.inr h)
        · exact .inr h
  | .pt ro hd x, h => by
    cases ro with
    | true => exact .inr h
    | false =>
      simp only [own, shr, all, List.mem_append, Bool.false_eq_true, if_false] at *
      rcases h with h | h
      · exact .inl (.inl h)
      · rcases all_of x h with h | h
        · exact .inl (.inr h)
        · exact .inr h
  | .cl _ xs, h => all_ofL xs h
  | .dead _, h => by simp [all] at h
theorem all_ofL {b : Nat} : ∀ (xs : List LT), b ∈ allL xs → b ∈ ownL xs ∨ b ∈ shrL xs
  | [], h => by simp [allL] at h
  | x :: xs, h => by
    simp only [allL, ownL, shrL, List.mem_append] at *
    rcases h with h | h
    · rcases all_of x h with h | h
      · exact .inl (.inl h)
      · exact .inr (.inl h)
    · rcases all_ofL xs h with h | h
      · exact .inl (.inr h)
      · exact .inr (.inr h)
end
mutual
theorem own_all {b : Nat} : ∀ (t : LT), b ∈ own t → b ∈ all t
  | .fl _, h => by simp [own] at h
  | .st xs, h => own_allL xs h
  | .sl ro _ hd xs, h => by
    cases ro <;> simp only [own, all, List.mem_append, Bool.false_eq_true, if_false, if_true] at *
    · exact h.imp id (own_allL xs)
    · cases h
  | .pt ro hd x, h => by
    cases ro <;> simp only [own, all, List.mem_append, Bool.false_eq_true, if_false, if_true] at *
    · exact h.imp id (own_all x)
    · cases h
  | .cl _ xs, h => own_allL xs h
  | .dead _, h => by simp [own] at h
theorem own_allL {b : Nat} : ∀ (xs : List LT), b ∈ ownL xs → b ∈ allL xs
  | [], h => by simp [ownL] at h
  | x :: xs, h => by
    simp only [allL, ownL, List.mem_append] at *
    exact h.imp (own_all x) (own_allL xs)
end
mutual
theorem shr_all {b : Nat} : ∀ (t : LT), b ∈ shr t → b ∈ all t
  | .fl _, h => by simp [shr] at h
  | .st xs, h => shr_allL xs h
  | .sl ro _ hd xs, h => by
    cases ro <;> simp only [shr, all, List.mem_append, Bool.false_eq_true, if_false, if_true] at *
    · exact .inr (shr_allL xs h)
    · exact h
  | .pt ro hd x, h => by
    cases ro <;> simp only [shr, all, List.mem_append, Bool.false_eq_true, if_false, if_true] at *
    · exact .inr (shr_all x h)
    · exact h
  | .cl _ xs, h => shr_allL xs h
  | .dead _, h => by simp [shr] at h
theorem shr_allL {b : Nat} : ∀ (xs : List LT), b ∈ shrL xs → b ∈ allL xs
  | [], h => by simp [shrL] at h
  | x :: xs, h => by
    simp only [allL, shrL, List.mem_append] at *
    exact h.imp (shr_all x) (shr_allL xs)
end
mutual
/-- What a tree leads to is there. -/
theorem all_lt {w : World} {b : Nat} : ∀ (t : LT), Mem w t → b ∈ all t → b < w.heap.size
  | .fl _, _, h => by simp [all] at h
  | .st xs, hm, h => all_ltL xs hm h
  | .sl ro _ hd xs, hm, h => by
    simp only [all, List.mem_append] at h
    rcases h with h | h
    · obtain ⟨A, c, rfl, _, _, hx⟩ := hm.1
      by_cases h0 : c = 0
      · simp [blk, plc, h0] at h
        cases A <;> simp at h
      · obtain ⟨b', o, rfl, hs, _⟩ := hx h0
        simp [blk, plc, h0] at h
        rw [h]; exact hs
    · exact all_ltL xs hm.2.2 h
  | .pt ro hd x, hm, h => by
    simp only [all, List.mem_append] at h
    rcases h with h | h
    · obtain ⟨b', o, rfl, hs, _⟩ := hm.1
      simp [blk, plc] at h
      rw [h]; exact hs
    · exact all_lt x hm.2 h
  | .cl _ xs, hm, h => all_ltL xs hm h
  | .dead _, _, h => by simp [all] at h
theorem all_ltL {w : World} {b : Nat} : ∀ (xs : List LT), MemL w xs → b ∈ allL xs → b < w.heap.size
  | [], _, h => by simp [allL] at h
  | x :: xs, hm, h => by
    simp only [allL, List.mem_append] at h
    rcases h with h | h
    · exact all_lt x hm.1 h
    · exact all_ltL xs hm.2 h
end
end Go.Tree

/- Trees of values in memory: a part of a tree is written. -/
namespace Go.Tree
set_option linter.unusedVariables false
set_option linter.unusedSimpArgs false
theorem setCells_heap (b : Nat) : ∀ (vs : List Value) (o : Nat) (w : World) (k : Nat), k ≠ b → (w.setCells b o vs).heap[k]? = w.heap[k]?
  | [], _, _, _, _ => rfl
  | v :: r, o, w, k, h => by
    rw [World.setCells, setCells_heap b r (o + 1) _ k h]
    exact Go.RowKit.Below.heap_setCell _ _ _ _ h
theorem setCells_size (b : Nat) : ∀ (vs : List Value) (o : Nat) (w : World), (w.setCells b o vs).heap.size = w.heap.size
  | [], _, _ => rfl
  | v :: r, o, w => by rw [World.setCells, setCells_size b r]; simp [World.setCell]

def addr : Option (Nat × Nat) → LT → List Stp → Option (Nat × Nat)
  | base, _, [] => base
  | base, .st xs, .f s i :: p => addr (base.map fun q => (q.1, q.2 + (cellsL (xs.take i)).length)) (xs.getD i (.dead default)) p
  | _, .pt _ h x, .d s :: p => addr (plc h) x p
  | _, .sl _ k h xs, .i s n :: p => addr ((plc h).map fun q => (q.1, q.2 + n * k.n)) (xs.getD n (.dead default)) p
  | _, _, _ :: _ => none
def Valid : LT → List Stp → Prop
  | _, [] => True
  | .st xs, .f s i :: p => i < xs.length ∧ Valid (xs.getD i (.dead default)) p
  | .pt _ h x, .d s :: p => Valid x p
  | .sl _ k h xs, .i s n :: p => n < xs.length ∧ Valid (xs.getD n (.dead default)) p
  | _, _ :: _ => False

theorem split_at {β : Type} (xs : List β) (i : Nat) (dv : β) (h : i < xs.length) : ∃ A x B, xs = A ++ x :: B ∧ A.length = i ∧ A = xs.take i ∧ xs.getD i dv = x ∧ ∀ y, xs.set i y = A ++ y :: B := by
  refine ⟨xs.take i, xs[i], xs.drop (i + 1), ?_, by simp; omega, rfl, by simp [h], fun y => ?_⟩
  · simp
  · rw [List.set_eq_take_append_cons_drop, if_pos h]

theorem rangeAt_append {w : World} {b o : Nat} {A B : List Value} : w.rangeAt b o (A ++ B) ↔ w.rangeAt b o A ∧ w.rangeAt b (o + A.length) B := by
  constructor
  · intro h
    refine ⟨fun j v hj => h j v (by rw [List.getElem?_append_left (List.getElem?_eq_some_iff.1 hj).1]; exact hj), fun j v hj => ?_⟩
    have := h (A.length + j) v (by rw [List.getElem?_append_right (by omega)]; simpa using hj)
    rwa [show o + (A.length + j) = o + A.length + j by omega] at this
  · rintro ⟨h1, h2⟩ j v hj
    by_cases c : j < A.length
    · rw [List.getElem?_append_left c] at hj
      exact h1 j v hj
    · rw [List.getElem?_append_right (by omega)] at hj
      have := h2 (j - A.length) v hj
      rwa [show o + A.length + (j - A.length) = o + j by omega] at this

/-- What is behind or ahead of the written cells stands. -/
theorem rangeAt_setCells_out {w : World} {b o b' o' : Nat} {vs cs : List Value} (h : w.rangeAt b' o' cs) (ha : b' ≠ b ∨ o' + cs.length ≤ o ∨ o + vs.length ≤ o') : (w.setCells b o vs).rangeAt b' o' cs := fun j v hj => by
  have hl := (List.getElem?_eq_some_iff.1 hj).1
  rw [World.cell?_setCells_out b vs o w ⟨b', o' + j, none⟩ (fun h1 _ => by rcases ha with ha | ha | ha <;> simp_all <;> omega)]
  exact h j v hj
theorem rangeAt_setCells_in {w : World} {b o : Nat} {vs cs : List Value} (h : w.rangeAt b o cs) (hl : vs.length = cs.length) : (w.setCells b o vs).rangeAt b o vs := fun j v hj => by
  obtain ⟨hj1, hj2⟩ := List.getElem?_eq_some_iff.1 hj
  rw [World.cell?_setCells_in b vs o w (fun i hi => by
    have := h i (cs[i]'(by omega)) (List.getElem?_eq_getElem (by omega))
    rw [this]; rfl) j hj1, hj2]
theorem there_setCells {w : World} {b o b' o' n : Nat} {vs : List Value} (h : w.there b' o' n) : (w.setCells b o vs).there b' o' n := fun j hj => by
  obtain ⟨h1, h2⟩ := h j hj
  refine ⟨?_, by rw [World.frozen?_setCells]; exact h2⟩
  by_cases c : b' = b ∧ o ≤ o' + j ∧ o' + j < o + vs.length
  · obtain ⟨rfl, c1, c2⟩ := c
    have hx : ∀ (vs : List Value) (o : Nat) (w : World) (i : Nat), (w.cell? ⟨b', i, none⟩).isSome = true → ((w.setCells b' o vs).cell? ⟨b', i, none⟩).isSome = true := by
      intro vs
      induction vs with
      | nil => exact fun _ _ _ h => h
      | cons v r ih =>
        intro o w i h
        rw [World.setCells]
        refine ih _ _ _ ?_
        simp only [World.cell?, World.setCell, Array.getElem?_modify] at *
        cases hq : w.heap[b']? with
        | none => simp [hq] at h
        | some ob => cases ob <;> simp_all
    exact hx _ _ _ _ h1
  · rw [World.cell?_setCells_out b vs o w ⟨b', o' + j, none⟩ (fun e1 _ => by simp at e1; subst e1; simp; omega)]
    exact h1
theorem SlOk.setCells {w : World} {b o : Nat} {vs : List Value} {ro : Bool} {k : Nat} {h : Value} {n : Nat} {cs cs' : List Value} (hk : SlOk w ro k h n cs) (hl : cs'.length = cs.length)
    (hr : ∀ q, plc h = some q → (w.setCells b o vs).rangeAt q.1 q.2 cs') : SlOk (w.setCells b o vs) ro k h n cs' := by
  obtain ⟨A, c, rfl, hc, hn, hx⟩ := hk
  refine ⟨A, c, rfl, hc, by rw [hl]; exact hn, fun h0 => ?_⟩
  obtain ⟨b', o', rfl, hs, _, ht⟩ := hx h0
  exact ⟨b', o', rfl, by rw [setCells_size]; exact hs, hr (b', o') (by simp [plc, h0]), fun hro => there_setCells (ht hro)⟩
theorem PtOk.setCells {w : World} {b o : Nat} {vs : List Value} {ro : Bool} {h : Value} {cs cs' : List Value} (hk : PtOk w ro h cs) (hl : cs'.length = cs.length)
    (hr : ∀ q, plc h = some q → (w.setCells b o vs).rangeAt q.1 q.2 cs') : PtOk (w.setCells b o vs) ro h cs' := by
  obtain ⟨b', o', rfl, hs, _, ht⟩ := hk
  exact ⟨b', o', rfl, by rw [setCells_size]; exact hs, hr (b', o') (by simp [plc]), fun hro => by rw [hl]; exact there_setCells (ht hro)⟩
theorem SlOk.range {w : World} {ro : Bool} {k : Nat} {h : Value} {n : Nat} {cs : List Value} (hk : SlOk w ro k h n cs) {q : Nat × Nat} (hq : plc h = some q) : w.rangeAt q.1 q.2 cs := by
  obtain ⟨A, c, rfl, hc, hn, hx⟩ := hk
  by_cases h0 : c = 0
  · cases A <;> simp [plc, h0] at hq
  · obtain ⟨b', o', rfl, hs, hr, ht⟩ := hx h0
    simp [plc, h0] at hq
    rw [← hq]; exact hr
theorem PtOk.range {w : World} {ro : Bool} {h : Value} {cs : List Value} (hk : PtOk w ro h cs) {q : Nat × Nat} (hq : plc h = some q) : w.rangeAt q.1 q.2 cs := by
  obtain ⟨b', o', rfl, hs, hr, ht⟩ := hk
  simp [plc] at hq
  rw [← hq]; exact hr
theorem mem_blk {h : Value} {q : Nat × Nat} (hq : plc h = some q) : q.1 ∈ blk h := by simp [blk, hq]

theorem cellsL_len {k : Nat} : ∀ {xs : List LT}, (∀ x ∈ xs, (cells x).length = k) → (cellsL xs).length = xs.length * k
  | [], _ => by simp [cellsL]
  | x :: xs, h => by
    rw [cellsL, List.length_append, h x (by simp), cellsL_len (fun y hy => h y (by simp [hy])), List.length_cons, Nat.add_one_mul]
    omega

/-- In a row of flat elements nothing is put that leads to memory. -/
def Flt (u : LT) : LT → List Stp → Prop
  | .st xs, .f s i :: p => Flt u (xs.getD i (.dead default)) p
  | .pt _ h x, .d s :: p => Flt u x p
  | .sl _ k h xs, .i s n :: p => (k.m = false → all u = []) ∧ Flt u (xs.getD n (.dead default)) p
  | _, _ => True
theorem all_put {u' : LT} {b : Nat} : ∀ (p : List Stp) (t t' : LT), put default t p u' = some t' → b ∈ all t' → b ∈ all t ∨ b ∈ all u'
  | [], t, t', h, hb => by simp only [put, Option.some.injEq] at h; subst h; exact .inr hb
  | .f s i :: p, .st xs, t', h, hb => by
    simp only [put, Option.map_eq_some_iff] at h
    obtain ⟨x', h, rfl⟩ := h
    simp only [all, allL_eq, List.mem_flatMap] at hb ⊢
    obtain ⟨y, hy, hb⟩ := hb
    rcases List.mem_or_eq_of_mem_set hy with h' | rfl
    · exact .inl ⟨y, h', hb⟩
    · rcases all_put p _ _ h hb with h' | h'
      · by_cases hi : i < xs.length
        · exact .inl ⟨_, by rw [List.getD_eq_getElem?_getD, List.getElem?_eq_getElem hi]; exact List.getElem_mem hi, h'⟩
        · simp [List.getD_eq_getElem?_getD, List.getElem?_eq_none (Nat.le_of_not_lt hi), all] at h'
      · exact .inr h'
  | .d s :: p, .pt ro hd x, t', h, hb => by
    cases ro <;> simp only [put, Option.map_eq_some_iff] at h
    · obtain ⟨x', h, rfl⟩ := h
      simp only [all, List.mem_append] at hb ⊢
      rcases hb with hb | hb
      · exact .inl (.inl hb)
      · rcases all_put p _ _ h hb with h' | h'
        · exact .inl (.inr h')
        · exact .inr h'
    · cases h
  | .i s n :: p, .sl ro k hd xs, t', h, hb => by
    cases ro <;> simp only [put, Option.map_eq_some_iff] at h
    · obtain ⟨x', h, rfl⟩ := h
      simp only [all, allL_eq, List.mem_append, List.mem_flatMap] at hb ⊢
      rcases hb with hb | ⟨y, hy, hb⟩
      · exact .inl (.inl hb)
      · rcases List.mem_or_eq_of_mem_set hy with h' | rfl
        · exact .inl (.inr ⟨y, h', hb⟩)
        · rcases all_put p _ _ h hb with h' | h'
          · by_cases hi : n < xs.length
            · exact .inl (.inr ⟨_, by rw [List.getD_eq_getElem?_getD, List.getElem?_eq_getElem hi]; exact List.getElem_mem hi, h'⟩)
            · simp [List.getD_eq_getElem?_getD, List.getElem?_eq_none (Nat.le_of_not_lt hi), all] at h'
          · exact .inr h'
    · cases h
  | .f _ _ :: _, .fl _, _, hp, _ | .f _ _ :: _, .sl .., _, hp, _ | .f _ _ :: _, .pt .., _, hp, _ | .f _ _ :: _, .cl .., _, hp, _ | .f _ _ :: _, .dead _, _, hp, _
  | .d _ :: _, .fl _, _, hp, _ | .d _ :: _, .sl .., _, hp, _ | .d _ :: _, .st .., _, hp, _ | .d _ :: _, .cl .., _, hp, _ | .d _ :: _, .dead _, _, hp, _
  | .i _ _ :: _, .fl _, _, hp, _ | .i _ _ :: _, .st .., _, hp, _ | .i _ _ :: _, .pt .., _, hp, _ | .i _ _ :: _, .cl .., _, hp, _ | .i _ _ :: _, .dead _, _, hp, _ => by simp [put] at hp
theorem all_put_nil {u' : LT} {p : List Stp} {t t' : LT} (h : put default t p u' = some t') (ht : all t = []) (hu : all u' = []) : all t' = [] := by
  rw [List.eq_nil_iff_forall_not_mem]
  intro b hb
  rcases all_put p t t' h hb with h' | h'
  · rw [ht] at h'; cases h'
  · rw [hu] at h'; cases h'
/-- A part is written: where, and what lies there then. -/
theorem put_mem {w : World} {b o : Nat} {u' : LT} (hu : Mem w u') (hbu : b ∉ all u') : ∀ (p : List Stp) (base : Option (Nat × Nat)) (t t' : LT), put default t p u' = some t' → Valid t p → Flt u' t p → Mem w t →
    (own t).Nodup → (∀ k ∈ own t, k ∉ shr t) → (∀ q, base = some q → q.1 ∉ all t ∧ w.rangeAt q.1 q.2 (cells t)) → addr base t p = some (b, o) → (cells u').length = (cells (get default false t p).2).length →
    Mem (w.setCells b o (cells u')) t' ∧ (∀ q, base = some q → (w.setCells b o (cells u')).rangeAt q.1 q.2 (cells t')) ∧ (cells t').length = (cells t).length ∧
      (b ∈ own t ∨ ∃ oo, base = some (b, oo) ∧ oo ≤ o ∧ o + (cells u').length ≤ oo + (cells t).length)
  | [], base, t, t', hp, _, _, hm, _, _, hb, ha, hl => by
    simp only [put, Option.some.injEq] at hp
    subst hp
    simp only [addr] at ha
    simp only [get] at hl
    obtain ⟨h1, h2⟩ := hb _ ha
    refine ⟨Mem.congr _ (fun k hk => setCells_heap _ _ _ _ _ (fun e => hbu (e ▸ hk))) hu, fun q hq => ?_, hl, .inr ⟨o, ha, Nat.le_refl _, by rw [hl]; exact Nat.le_refl _⟩⟩
    rw [ha] at hq
    cases hq
    exact rangeAt_setCells_in h2 hl
  | .f s i :: p, base, .st xs, t', hp, hv, hfl, hm, hnd, hos, hb, ha, hl => by
    obtain ⟨hi, hv⟩ := hv
    obtain ⟨A, x, B, hxs, hA, hA', hx, hset⟩ := split_at xs i (.dead default) hi
    simp only [put, Option.map_eq_some_iff] at hp
    obtain ⟨x', hp, rfl⟩ := hp
    simp only [addr] at ha
    simp only [get] at hl
    simp only [Flt] at hfl
    rw [hx] at hp hv ha hl hfl
    rw [hset]
    have hmem : MemL w (A ++ x :: B) := by rw [← hxs]; exact hm
    have hmx : Mem w x := memL_iff.1 hmem x (by simp)
    simp only [own, hxs, ownL_append, ownL] at hnd hos
    simp only [shr, shrL_append, shrL] at hos
    obtain ⟨hndA, hndxB, hdA⟩ := List.nodup_append.1 hnd
    obtain ⟨hndx, hndB, hdx⟩ := List.nodup_append.1 hndxB
    have hbase : ∀ q, base = some q → (q.1 ∉ allL A ∧ q.1 ∉ all x ∧ q.1 ∉ allL B) ∧ w.rangeAt q.1 q.2 (cellsL A) ∧ w.rangeAt q.1 (q.2 + (cellsL A).length) (cells x) ∧ w.rangeAt q.1 (q.2 + (cellsL A).length + (cells x).length) (cellsL B) := by
      intro q hq
      obtain ⟨h1, h2⟩ := hb q hq
      simp only [all, cells, hxs, allL_append, allL, cellsL_append, cellsL, List.mem_append, not_or] at h1 h2
      obtain ⟨h3, h4⟩ := rangeAt_append.1 h2
      obtain ⟨h5, h6⟩ := rangeAt_append.1 h4
      exact ⟨h1, h3, h5, h6⟩
    have ih := put_mem hu hbu p _ x x' hp hv hfl hmx hndx (fun k hk hk' => hos k (by simp [hk]) (by simp [hk'])) (fun q hq => by
      obtain ⟨q0, hq0, rfl⟩ := Option.map_eq_some_iff.1 hq
      obtain ⟨h1, _, h3, _⟩ := hbase q0 hq0
      rw [← hA']
      exact ⟨h1.2.1, h3⟩) ha hl
    obtain ⟨ih1, ih2, ih3, ih4⟩ := ih
    have hout : ∀ k, (k ∈ allL A ∨ k ∈ allL B) → k ≠ b := by
      rintro k hk rfl
      rcases ih4 with ih4 | ⟨oo, hoo, _⟩
      · rcases hk with hk | hk
        · rcases all_ofL _ hk with h | h
          · exact hdA k h k (by simp [ih4]) rfl
          · exact hos k (by simp [ih4]) (by simp [h])
        · rcases all_ofL _ hk with h | h
          · exact hdx k ih4 k h rfl
          · exact hos k (by simp [ih4]) (by simp [h])
      · obtain ⟨q0, hq0, he⟩ := Option.map_eq_some_iff.1 hoo
        have := (hbase q0 hq0).1
        have e1 : q0.1 = k := congrArg Prod.fst he
        rw [e1] at this
        rcases hk with hk | hk
        · exact this.1 hk
        · exact this.2.2 hk
    have hmA : MemL w A := memL_iff.2 fun y hy => memL_iff.1 hmem y (by simp [hy])
    have hmB : MemL w B := memL_iff.2 fun y hy => memL_iff.1 hmem y (by simp [hy])
    have hAl : (cellsL A).length = (cellsL (xs.take i)).length := by rw [hA']
    refine ⟨?_, fun q hq => ?_, ?_, ?_⟩
    · refine memL_iff.2 fun y hy => ?_
      rcases List.mem_append.1 hy with hy | hy
      · exact memL_iff.1 (MemL.congr A (fun k hk => setCells_heap _ _ _ _ _ (hout k (.inl hk))) hmA) y hy
      · rcases List.mem_cons.1 hy with rfl | hy
        · exact ih1
        · exact memL_iff.1 (MemL.congr B (fun k hk => setCells_heap _ _ _ _ _ (hout k (.inr hk))) hmB) y hy
    · obtain ⟨h1, h2, h3, h4⟩ := hbase q hq
      simp only [cells, cellsL_append, cellsL]
      have hx' := ih2 (q.1, q.2 + (cellsL A).length) (by rw [hq, hA']; rfl)
      have hfar : q.1 ≠ b ∨ q.2 + (cellsL A).length ≤ o ∧ o + (cells u').length ≤ q.2 + (cellsL A).length + (cells x).length := by
        by_cases c : q.1 = b
        · right
          rcases ih4 with ih4 | ⟨oo, hoo, h5, h6⟩
          · exact absurd (own_all x ih4) (c ▸ h1.2.1)
          · rw [hq] at hoo
            simp only [Option.map_some, Option.some.injEq, Prod.mk.injEq] at hoo
            rw [hAl]
            omega
        · exact .inl c
      refine rangeAt_append.2 ⟨rangeAt_setCells_out h2 (hfar.imp id fun h => .inl h.1), rangeAt_append.2 ⟨hx', ?_⟩⟩
      rw [ih3]
      exact rangeAt_setCells_out h4 (hfar.imp id fun h => .inr h.2)
    · simp [cells, hxs, cellsL_append, cellsL, ih3]
    · rcases ih4 with ih4 | ⟨oo, hoo, h5, h6⟩
      · left
        simp [own, hxs, ownL_append, ownL, ih4]
      · right
        obtain ⟨q0, hq0, he⟩ := Option.map_eq_some_iff.1 hoo
        simp only [Prod.mk.injEq] at he
        refine ⟨q0.2, by rw [hq0, ← he.1], by omega, ?_⟩
        simp only [cells, hxs, cellsL_append, cellsL, List.length_append]
        have : (cellsL (List.take i (A ++ x :: B))).length = (cellsL A).length := by rw [← hxs, ← hAl]
        rw [hxs] at he
        omega
  | .d s :: p, base, .pt false h x, t', hp, hv, hfl, hm, hnd, hos, hb, ha, hl => by
    simp only [put, Option.map_eq_some_iff] at hp
    obtain ⟨x', hp, rfl⟩ := hp
    simp only [addr] at ha
    simp only [get, Bool.false_or] at hl
    simp only [own, Bool.false_eq_true, if_false] at hnd hos
    simp only [shr, Bool.false_eq_true, if_false] at hos
    obtain ⟨_, hndx, hdx⟩ := List.nodup_append.1 hnd
    obtain ⟨ih1, ih2, ih3, ih4⟩ := put_mem hu hbu p _ x x' hp hv hfl hm.2 hndx (fun k hk hk' => hos k (by simp [hk]) hk') (fun q hq => ⟨fun hq' => by
      rcases all_of x hq' with h' | h'
      · exact hdx q.1 (mem_blk hq) q.1 h' rfl
      · exact hos q.1 (by simp [mem_blk hq]) h', hm.1.range hq⟩) ha hl
    have hown : b ∈ blk h ++ own x := by
      rcases ih4 with ih4 | ⟨oo, hoo, _⟩
      · simp [ih4]
      · simp [mem_blk hoo]
    refine ⟨⟨hm.1.setCells ih3 ih2, ih1⟩, fun q hq => ?_, rfl, .inl (by simpa [own] using hown)⟩
    obtain ⟨h1, h2⟩ := hb q hq
    have hne : q.1 ≠ b := fun e => h1 (by
      rw [e, all]
      rcases List.mem_append.1 hown with h' | h'
      · exact List.mem_append.2 (.inl h')
      · exact List.mem_append.2 (.inr (own_all x h')))
    exact rangeAt_setCells_out h2 (.inl hne)
  | .i s n :: p, base, .sl false k h xs, t', hp, hv, hfl, hm, hnd, hos, hb, ha, hl => by
    obtain ⟨hfk, hfl⟩ := hfl
    obtain ⟨hi, hv⟩ := hv
    obtain ⟨A, x, B, hxs, hA, hA', hx, hset⟩ := split_at xs n (.dead default) hi
    simp only [put, Option.map_eq_some_iff] at hp
    obtain ⟨x', hp, rfl⟩ := hp
    simp only [addr] at ha
    simp only [get, Bool.false_or] at hl
    rw [hx] at hp hv ha hl hfl
    rw [hset]
    obtain ⟨hs, hk, hmem⟩ := hm
    rw [hxs] at hmem hk hs
    have hmx : Mem w x := memL_iff.1 hmem x (by simp)
    simp only [own, hxs, ownL_append, ownL, Bool.false_eq_true, if_false] at hnd hos
    simp only [shr, shrL_append, shrL, Bool.false_eq_true, if_false] at hos
    obtain ⟨_, hnd, hdh⟩ := List.nodup_append.1 hnd
    obtain ⟨hndA, hndxB, hdA⟩ := List.nodup_append.1 hnd
    obtain ⟨hndx, hndB, hdx⟩ := List.nodup_append.1 hndxB
    have hAl : (cellsL A).length = n * k.n := by rw [cellsL_len (fun y hy => (hk y (by simp [hy])).1), hA]
    have hbase : ∀ q, plc h = some q → (q.1 ∉ allL A ∧ q.1 ∉ all x ∧ q.1 ∉ allL B) ∧ w.rangeAt q.1 q.2 (cellsL A) ∧ w.rangeAt q.1 (q.2 + n * k.n) (cells x) ∧ w.rangeAt q.1 (q.2 + n * k.n + (cells x).length) (cellsL B) := by
      intro q hq
      have h2 := hs.range hq
      simp only [cellsL_append, cellsL] at h2
      obtain ⟨h3, h4⟩ := rangeAt_append.1 h2
      obtain ⟨h5, h6⟩ := rangeAt_append.1 h4
      rw [hAl] at h5 h6
      have hn : ∀ k', k' ∈ ownL A ++ (own x ++ ownL B) ∨ k' ∈ shrL A ++ (shr x ++ shrL B) → q.1 ≠ k' := by
        rintro k' (h' | h') rfl
        · exact hdh _ (mem_blk hq) _ h' rfl
        · exact hos q.1 (by simp [mem_blk hq]) h'
      refine ⟨⟨fun h' => ?_, fun h' => ?_, fun h' => ?_⟩, h3, h5, h6⟩
      · rcases all_ofL _ h' with h' | h'
        · exact hn _ (.inl (by simp [h'])) rfl
        · exact hn _ (.inr (by simp [h'])) rfl
      · rcases all_of _ h' with h' | h'
        · exact hn _ (.inl (by simp [h'])) rfl
        · exact hn _ (.inr (by simp [h'])) rfl
      · rcases all_ofL _ h' with h' | h'
        · exact hn _ (.inl (by simp [h'])) rfl
        · exact hn _ (.inr (by simp [h'])) rfl
    obtain ⟨ih1, ih2, ih3, ih4⟩ := put_mem hu hbu p _ x x' hp hv hfl hmx hndx (fun k' hk hk' => hos k' (by simp [hk]) (by simp [hk'])) (fun q hq => by
      obtain ⟨q0, hq0, rfl⟩ := Option.map_eq_some_iff.1 hq
      obtain ⟨h1, _, h3, _⟩ := hbase q0 hq0
      exact ⟨h1.2.1, h3⟩) ha hl
    have hout : ∀ k', (k' ∈ allL A ∨ k' ∈ allL B) → k' ≠ b := by
      rintro k' hk' rfl
      rcases ih4 with ih4 | ⟨oo, hoo, _⟩
      · rcases hk' with hk' | hk'
        · rcases all_ofL _ hk' with h' | h'
          · exact hdA k' h' k' (by simp [ih4]) rfl
          · exact hos k' (by simp [ih4]) (by simp [h'])
        · rcases all_ofL _ hk' with h' | h'
          · exact hdx k' ih4 k' h' rfl
          · exact hos k' (by simp [ih4]) (by simp [h'])
      · obtain ⟨q0, hq0, he⟩ := Option.map_eq_some_iff.1 hoo
        have := (hbase q0 hq0).1
        have e1 : q0.1 = k' := congrArg Prod.fst he
        rw [e1] at this
        rcases hk' with hk' | hk'
        · exact this.1 hk'
        · exact this.2.2 hk'
    have hmA : MemL w A := memL_iff.2 fun y hy => memL_iff.1 hmem y (by simp [hy])
    have hmB : MemL w B := memL_iff.2 fun y hy => memL_iff.1 hmem y (by simp [hy])
    have hown : b ∈ blk h ++ (ownL A ++ (own x ++ ownL B)) := by
      rcases ih4 with ih4 | ⟨oo, hoo, _⟩
      · simp [ih4]
      · obtain ⟨q0, hq0, he⟩ := Option.map_eq_some_iff.1 hoo
        have := mem_blk hq0
        rw [show q0.1 = b from congrArg Prod.fst he] at this
        simp [this]
    have hlen : (cellsL (A ++ x' :: B)).length = (cellsL (A ++ x :: B)).length := by simp [cellsL_append, cellsL, ih3]
    refine ⟨⟨?_, ?_, ?_⟩, fun q hq => ?_, rfl, .inl (by simpa [own, hxs, ownL_append, ownL] using hown)⟩
    · rw [show (A ++ x' :: B).length = (A ++ x :: B).length by simp]
      refine hs.setCells hlen fun q hq => ?_
      obtain ⟨h1, h2, h3, h4⟩ := hbase q hq
      simp only [cellsL_append, cellsL]
      have hx' := ih2 (q.1, q.2 + n * k.n) (by rw [hq]; rfl)
      have hfar : q.1 ≠ b ∨ q.2 + n * k.n ≤ o ∧ o + (cells u').length ≤ q.2 + n * k.n + (cells x).length := by
        by_cases c : q.1 = b
        · right
          rcases ih4 with ih4 | ⟨oo, hoo, h5, h6⟩
          · exact absurd (own_all x ih4) (c ▸ h1.2.1)
          · rw [hq] at hoo
            simp only [Option.map_some, Option.some.injEq, Prod.mk.injEq] at hoo
            omega
        · exact .inl c
      refine rangeAt_append.2 ⟨rangeAt_setCells_out h2 (hfar.imp id fun h => .inl (by rw [hAl]; exact h.1)), rangeAt_append.2 ⟨by rw [hAl]; exact hx', ?_⟩⟩
      rw [ih3, hAl]
      exact rangeAt_setCells_out h4 (hfar.imp id fun h => .inr h.2)
    · intro y hy
      rcases List.mem_append.1 hy with hy | hy
      · exact hk y (by simp [hy])
      · rcases List.mem_cons.1 hy with rfl | hy
        · exact ⟨by rw [ih3]; exact (hk x (by simp)).1, fun h0 => all_put_nil hp ((hk x (by simp)).2 h0) (hfk h0)⟩
        · exact hk y (by simp [hy])
    · refine memL_iff.2 fun y hy => ?_
      rcases List.mem_append.1 hy with hy | hy
      · exact memL_iff.1 (MemL.congr A (fun k hk => setCells_heap _ _ _ _ _ (hout k (.inl hk))) hmA) y hy
      · rcases List.mem_cons.1 hy with rfl | hy
        · exact ih1
        · exact memL_iff.1 (MemL.congr B (fun k hk => setCells_heap _ _ _ _ _ (hout k (.inr hk))) hmB) y hy
    · obtain ⟨h1, h2⟩ := hb q hq
      have hne : q.1 ≠ b := fun e => h1 (by
        rw [e, all, hxs]
        rcases List.mem_append.1 hown with h' | h'
        · exact List.mem_append.2 (.inl h')
        · exact List.mem_append.2 (.inr (own_allL _ (by simpa [ownL_append, ownL] using h'))))
      exact rangeAt_setCells_out h2 (.inl hne)
  | .f _ _ :: _, _, .fl _, _, hp, _, _, _, _, _, _, _, _ | .f _ _ :: _, _, .sl .., _, hp, _, _, _, _, _, _, _, _ | .f _ _ :: _, _, .pt .., _, hp, _, _, _, _, _, _, _, _ | .f _ _ :: _, _, .cl .., _, hp, _, _, _, _, _, _, _, _ | .f _ _ :: _, _, .dead _, _, hp, _, _, _, _, _, _, _, _
  | .d _ :: _, _, .fl _, _, hp, _, _, _, _, _, _, _, _ | .d _ :: _, _, .sl .., _, hp, _, _, _, _, _, _, _, _ | .d _ :: _, _, .st .., _, hp, _, _, _, _, _, _, _, _ | .d _ :: _, _, .cl .., _, hp, _, _, _, _, _, _, _, _ | .d _ :: _, _, .dead _, _, hp, _, _, _, _, _, _, _, _ | .d _ :: _, _, .pt true _ _, _, hp, _, _, _, _, _, _, _, _
  | .i _ _ :: _, _, .fl _, _, hp, _, _, _, _, _, _, _, _ | .i _ _ :: _, _, .st .., _, hp, _, _, _, _, _, _, _, _ | .i _ _ :: _, _, .pt .., _, hp, _, _, _, _, _, _, _, _ | .i _ _ :: _, _, .cl .., _, hp, _, _, _, _, _, _, _, _ | .i _ _ :: _, _, .dead _, _, hp, _, _, _, _, _, _, _, _ | .i _ _ :: _, _, .sl true _ _ _, _, hp, _, _, _, _, _, _, _, _ => by simp [put] at hp
end Go.Tree

/- Trees of values in memory: parts of trees, and what is somebody else's. -/
namespace Go.Tree
set_option linter.unusedVariables false
set_option linter.unusedSimpArgs false
theorem er_st (xs : List LT) : er (.st xs) = .st (xs.map er) := by simp only [er, Tr.map, Tr.mapL_eq]; rfl
theorem er_sl (ro : Bool) (k : Ek) (h : Value) (xs : List LT) : er (.sl ro k h xs) = .sl ro k () (xs.map er) := by simp only [er, Tr.map, Tr.mapL_eq]; rfl
theorem er_pt (ro : Bool) (h : Value) (x : LT) : er (.pt ro h x) = .pt ro () (er x) := rfl
theorem er_fl (v : Value) : er (.fl v) = .fl v := rfl
theorem er_cl (f : FuncId) (xs : List LT) : er (.cl f xs) = .cl f (xs.map er) := by simp only [er, Tr.map, Tr.mapL_eq]; rfl
theorem er_dead (h : Value) : er (.dead h) = .dead () := rfl
theorem getD_er (xs : List LT) (i : Nat) : (xs.map er).getD i (.dead ()) = er (xs.getD i (.dead default)) := by
  simp only [List.getD_eq_getElem?_getD, List.getElem?_map]
  cases xs[i]? <;> rfl
theorem map_set_er (xs : List LT) (i : Nat) (x : LT) : (xs.set i x).map er = (xs.map er).set i (er x) := by rw [List.map_set]
mutual
theorem hasOwn_er : ∀ (t : LT), hasOwn (er t) = hasOwn t
  | .fl _ => rfl
  | .st xs => by rw [er_st, hasOwn, hasOwn]; exact hasOwnL_er xs
  | .sl .. => by rw [er_sl]; rfl
  | .pt .. => rfl
  | .cl _ xs => by rw [er_cl, hasOwn, hasOwn]; exact hasOwnL_er xs
  | .dead _ => rfl
theorem hasOwnL_er : ∀ (xs : List LT), hasOwnL (xs.map er) = hasOwnL xs
  | [] => rfl
  | x :: xs => by rw [List.map_cons, hasOwnL, hasOwnL, hasOwn_er x, hasOwnL_er xs]
end
mutual
theorem own_nil : ∀ (t : LT), hasOwn t = false → own t = []
  | .fl _, _ => rfl
  | .st xs, h => own_nilL xs h
  | .sl ro .., h => by simp only [hasOwn, Bool.not_eq_false'] at h; simp [own, h]
  | .pt ro .., h => by simp only [hasOwn, Bool.not_eq_false'] at h; simp [own, h]
  | .cl _ xs, h => own_nilL xs h
  | .dead _, _ => rfl
theorem own_nilL : ∀ (xs : List LT), hasOwnL xs = false → ownL xs = []
  | [], _ => rfl
  | x :: xs, h => by
    simp only [hasOwnL, Bool.or_eq_false_iff] at h
    rw [ownL, own_nil x h.1, own_nilL xs h.2]; rfl
end
mutual
theorem er_roTop : ∀ (t : LT), roTop (er t) = er (roTop t)
  | .fl _ => rfl
  | .st xs => by rw [er_st, roTop, roTop, er_st, er_roTopL xs]
  | .sl .. => by rw [er_sl, roTop, roTop, er_sl]
  | .pt .. => rfl
  | .cl _ xs => by rw [er_cl, roTop, roTop, er_cl, er_roTopL xs]
  | .dead _ => rfl
theorem er_roTopL : ∀ (xs : List LT), roTopL (xs.map er) = (roTopL xs).map er
  | [] => rfl
  | x :: xs => by rw [List.map_cons, roTopL, roTopL, er_roTop x, er_roTopL xs, List.map_cons]
end
mutual
theorem cells_roTop : ∀ (t : LT), cells (roTop t) = cells t
  | .fl _ => rfl
  | .st xs => by rw [roTop, cells, cells, cells_roTopL xs]
  | .sl .. => rfl
  | .pt .. => rfl
  | .cl _ xs => by rw [roTop, cells, cells, cells_roTopL xs]
  | .dead _ => rfl
theorem cells_roTopL : ∀ (xs : List LT), cellsL (roTopL xs) = cellsL xs
  | [] => rfl
  | x :: xs => by rw [roTopL, cellsL, cellsL, cells_roTop x, cells_roTopL xs]
end
theorem valOf_roTop : ∀ (t : LT), valOf (roTop t) = valOf t
  | .fl _ => rfl
  | .st xs => by rw [roTop, valOf, valOf, cells_roTopL xs]
  | .sl .. => rfl
  | .pt .. => rfl
  | .cl _ xs => by rw [roTop, valOf, valOf, cells_roTopL xs]
  | .dead _ => rfl
theorem SlOk.toRo {w : World} {ro : Bool} {k : Nat} {h : Value} {n : Nat} {cs : List Value} (hk : SlOk w ro k h n cs) : SlOk w true k h n cs := by
  obtain ⟨A, c, rfl, hc, hl, hx⟩ := hk
  exact ⟨A, c, rfl, hc, hl, fun h0 => let ⟨b, o, e, h1, h2, _⟩ := hx h0; ⟨b, o, e, h1, h2, fun h => by cases h⟩⟩
theorem PtOk.toRo {w : World} {ro : Bool} {h : Value} {cs : List Value} (hk : PtOk w ro h cs) : PtOk w true h cs := by
  obtain ⟨b, o, rfl, h1, h2, _⟩ := hk
  exact ⟨b, o, rfl, h1, h2, fun h => by cases h⟩
mutual
theorem mem_roTop {w : World} : ∀ (t : LT), Mem w t → Mem w (roTop t)
  | .fl _, h => h
  | .st xs, h => mem_roTopL xs h
  | .sl .., h => ⟨h.1.toRo, h.2⟩
  | .pt .., h => ⟨h.1.toRo, h.2⟩
  | .cl _ xs, h => mem_roTopL xs h
  | .dead _, h => h
theorem mem_roTopL {w : World} : ∀ (xs : List LT), MemL w xs → MemL w (roTopL xs)
  | [], _ => trivial
  | x :: xs, h => ⟨mem_roTop x h.1, mem_roTopL xs h.2⟩
end
mutual
theorem own_roTop : ∀ (t : LT), own (roTop t) = []
  | .fl _ => rfl
  | .st xs => own_roTopL xs
  | .sl .. => rfl
  | .pt .. => rfl
  | .cl _ xs => own_roTopL xs
  | .dead _ => rfl
theorem own_roTopL : ∀ (xs : List LT), ownL (roTopL xs) = []
  | [] => rfl
  | x :: xs => by rw [roTopL, ownL, own_roTop x, own_roTopL xs]; rfl
end
mutual
theorem shr_roTop : ∀ (t : LT), shr (roTop t) = all t
  | .fl _ => rfl
  | .st xs => shr_roTopL xs
  | .sl .. => rfl
  | .pt .. => rfl
  | .cl _ xs => shr_roTopL xs
  | .dead _ => rfl
theorem shr_roTopL : ∀ (xs : List LT), shrL (roTopL xs) = allL xs
  | [] => rfl
  | x :: xs => by rw [roTopL, shrL, shr_roTop x, shr_roTopL xs]; rfl
end
theorem getD_mem {xs : List LT} {i : Nat} {d : LT} (h : i < xs.length) : xs.getD i d ∈ xs := by
  rw [List.getD_eq_getElem?_getD, List.getElem?_eq_getElem h]
  exact List.getElem_mem h
theorem mem_get {w : World} : ∀ (p : List Stp) (ro : Bool) (t : LT), Mem w t → Valid t p → Mem w (get default ro t p).2
  | [], _, _, h, _ => h
  | .f s i :: p, ro, .st xs, h, hv => mem_get p ro _ (memL_iff.1 h _ (getD_mem hv.1)) hv.2
  | .d s :: p, ro, .pt r hd x, h, hv => mem_get p _ _ h.2 hv
  | .i s n :: p, ro, .sl r k hd xs, h, hv => mem_get p _ _ (memL_iff.1 h.2.2 _ (getD_mem hv.1)) hv.2
theorem allL_mem {xs : List LT} {x : LT} (h : x ∈ xs) : ∀ b ∈ all x, b ∈ allL xs := fun b hb => by rw [allL_eq]; exact List.mem_flatMap.2 ⟨x, h, hb⟩
theorem ownL_mem {xs : List LT} {x : LT} (h : x ∈ xs) : ∀ b ∈ own x, b ∈ ownL xs := fun b hb => by rw [ownL_eq]; exact List.mem_flatMap.2 ⟨x, h, hb⟩
theorem shrL_mem {xs : List LT} {x : LT} (h : x ∈ xs) : ∀ b ∈ shr x, b ∈ shrL xs := fun b hb => by rw [shrL_eq]; exact List.mem_flatMap.2 ⟨x, h, hb⟩
theorem all_get : ∀ (p : List Stp) (ro : Bool) (t : LT), Valid t p → ∀ b ∈ all (get default ro t p).2, b ∈ all t
  | [], _, _, _, b, h => h
  | .f s i :: p, ro, .st xs, hv, b, h => allL_mem (getD_mem hv.1) b (all_get p ro _ hv.2 b h)
  | .d s :: p, ro, .pt r hd x, hv, b, h => by rw [all]; exact List.mem_append.2 (.inr (all_get p _ _ hv b h))
  | .i s n :: p, ro, .sl r k hd xs, hv, b, h => by rw [all]; exact List.mem_append.2 (.inr (allL_mem (getD_mem hv.1) b (all_get p _ _ hv.2 b h)))
theorem get_true : ∀ (p : List Stp) (t : LT), (get default true t p).1 = true
  | [], _ => rfl
  | .f s i :: p, .st xs => get_true p _
  | .d s :: p, .pt r hd x => get_true p _
  | .i s n :: p, .sl r k hd xs => get_true p _
  | .f _ _ :: _, .fl _ | .f _ _ :: _, .pt .. | .f _ _ :: _, .dead _ | .f _ _ :: _, .sl .. | .f _ _ :: _, .cl .. => rfl
  | .d _ :: _, .fl _ | .d _ :: _, .dead _ | .d _ :: _, .st .. | .d _ :: _, .sl .. | .d _ :: _, .cl .. => rfl
  | .i _ _ :: _, .fl _ | .i _ _ :: _, .pt .. | .i _ _ :: _, .dead _ | .i _ _ :: _, .st .. | .i _ _ :: _, .cl .. => rfl
/-- A part behind somebody else's memory. -/
theorem shr_get : ∀ (p : List Stp) (t : LT), Valid t p → (get default false t p).1 = true → ∀ b ∈ all (get default false t p).2, b ∈ shr t
  | [], _, _, h, _, _ => by simp [get] at h
  | .f s i :: p, .st xs, hv, h, b, hb => shrL_mem (getD_mem hv.1) b (shr_get p _ hv.2 h b hb)
  | .d s :: p, .pt r hd x, hv, h, b, hb => by
    cases r with
    | true => simp only [shr, if_true]; exact List.mem_append.2 (.inr (all_get p _ _ hv b hb))
    | false => simp only [shr, Bool.false_eq_true, if_false]; exact shr_get p _ hv h b hb
  | .i s n :: p, .sl r k hd xs, hv, h, b, hb => by
    cases r with
    | true => simp only [shr, if_true]; exact List.mem_append.2 (.inr (allL_mem (getD_mem hv.1) b (all_get p _ _ hv.2 b hb)))
    | false => simp only [shr, Bool.false_eq_true, if_false]; exact shrL_mem (getD_mem hv.1) b (shr_get p _ hv.2 h b hb)
/-- A part that is not. -/
theorem own_get : ∀ (p : List Stp) (t : LT), Valid t p → (get default false t p).1 = false → (∃ l r, own t = l ++ own (get default false t p).2 ++ r ∧ ∀ u' t', put default t p u' = some t' → own t' = l ++ own u' ++ r) ∧ (∃ l r, shr t = l ++ shr (get default false t p).2 ++ r ∧ ∀ u' t', put default t p u' = some t' → shr t' = l ++ shr u' ++ r)
  | [], t, _, _ => ⟨⟨[], [], by simp [get], fun u' t' h => by simp only [put, Option.some.injEq] at h; simp [h]⟩, ⟨[], [], by simp [get], fun u' t' h => by simp only [put, Option.some.injEq] at h; simp [h]⟩⟩
  | .f s i :: p, .st xs, hv, h => by
    obtain ⟨A, x, B, hxs, hA, hA', hx, hset⟩ := split_at xs i (.dead default) hv.1
    have hv2 := hv.2
    simp only [get] at h ⊢
    rw [hx] at h hv2 ⊢
    obtain ⟨⟨l, r, h1, h2⟩, ⟨l', r', h3, h4⟩⟩ := own_get p x hv2 h
    refine ⟨⟨ownL A ++ l, r ++ ownL B, by simp [own, hxs, ownL_append, ownL, h1], fun u' t' hp => ?_⟩, ⟨shrL A ++ l', r' ++ shrL B, by simp [shr, hxs, shrL_append, shrL, h3], fun u' t' hp => ?_⟩⟩
    all_goals
      simp only [put, Option.map_eq_some_iff] at hp
      obtain ⟨x', hp, rfl⟩ := hp
      rw [hx] at hp
      rw [hset]
    · simp [own, ownL_append, ownL, h2 _ _ hp]
    · simp [shr, shrL_append, shrL, h4 _ _ hp]
  | .d s :: p, .pt r hd x, hv, h => by
    cases r with
    | true => simp only [get, Bool.or_true] at h; rw [get_true] at h; cases h
    | false =>
      simp only [get, Bool.or_false] at h ⊢
      obtain ⟨⟨l, r, h1, h2⟩, ⟨l', r', h3, h4⟩⟩ := own_get p x hv h
      refine ⟨⟨blk hd ++ l, r, by simp [own, h1], fun u' t' hp => ?_⟩, ⟨l', r', by simp [shr, h3], fun u' t' hp => ?_⟩⟩
      all_goals
        simp only [put, Option.map_eq_some_iff] at hp
        obtain ⟨x', hp, rfl⟩ := hp
      · simp [own, h2 _ _ hp]
      · simp [shr, h4 _ _ hp]
  | .i s n :: p, .sl r k hd xs, hv, h => by
    cases r with
    | true => simp only [get, Bool.or_true] at h; rw [get_true] at h; cases h
    | false =>
      obtain ⟨A, x, B, hxs, hA, hA', hx, hset⟩ := split_at xs n (.dead default) hv.1
      have hv2 := hv.2
      simp only [get, Bool.or_false] at h ⊢
      rw [hx] at h hv2 ⊢
      obtain ⟨⟨l, r, h1, h2⟩, ⟨l', r', h3, h4⟩⟩ := own_get p x hv2 h
      refine ⟨⟨blk hd ++ (ownL A ++ l), r ++ ownL B, by simp [own, hxs, ownL_append, ownL, h1], fun u' t' hp => ?_⟩, ⟨shrL A ++ l', r' ++ shrL B, by simp [shr, hxs, shrL_append, shrL, h3], fun u' t' hp => ?_⟩⟩
      all_goals
        simp only [put, Option.map_eq_some_iff] at hp
        obtain ⟨x', hp, rfl⟩ := hp
        rw [hx] at hp
        rw [hset]
      · simp [own, ownL_append, ownL, h2 _ _ hp]
      · simp [shr, shrL_append, shrL, h4 _ _ hp]
/-- Where a part lies. -/
theorem range_get {w : World} {b o : Nat} : ∀ (p : List Stp) (ro : Bool) (base : Option (Nat × Nat)) (t : LT), Mem w t → Valid t p → (∀ q, base = some q → w.rangeAt q.1 q.2 (cells t)) → addr base t p = some (b, o) → w.rangeAt b o (cells (get default ro t p).2)
  | [], ro, base, t, _, _, hb, ha => hb _ ha
  | .f s i :: p, ro, base, .st xs, hm, hv, hb, ha => by
    obtain ⟨A, x, B, hxs, hA, hA', hx, hset⟩ := split_at xs i (.dead default) hv.1
    refine range_get p ro _ _ (memL_iff.1 hm _ (getD_mem hv.1)) hv.2 (fun q hq => ?_) ha
    obtain ⟨q0, hq0, rfl⟩ := Option.map_eq_some_iff.1 hq
    have := hb q0 hq0
    simp only [cells, hxs, cellsL_append, cellsL] at this
    rw [hx, ← hA']
    exact (rangeAt_append.1 (rangeAt_append.1 this).2).1
  | .d s :: p, ro, base, .pt r hd x, hm, hv, hb, ha => range_get p _ _ _ hm.2 hv (fun q hq => hm.1.range hq) ha
  | .i s n :: p, ro, base, .sl r k hd xs, hm, hv, hb, ha => by
    obtain ⟨A, x, B, hxs, hA, hA', hx, hset⟩ := split_at xs n (.dead default) hv.1
    refine range_get p _ _ _ (memL_iff.1 hm.2.2 _ (getD_mem hv.1)) hv.2 (fun q hq => ?_) ha
    obtain ⟨q0, hq0, rfl⟩ := Option.map_eq_some_iff.1 hq
    have := hm.1.range hq0
    simp only [hxs, cellsL_append, cellsL] at this
    have hk := hm.2.1
    rw [hxs] at hk
    rw [hx]
    have e : (cellsL A).length = n * k.n := by rw [cellsL_len (fun y hy => (hk y (by simp [hy])).1), hA]
    rw [← e]
    exact (rangeAt_append.1 (rangeAt_append.1 this).2).1
theorem there_sub {w : World} {b o n o' n' : Nat} (h : w.there b o n) (h1 : o ≤ o') (h2 : o' + n' ≤ o + n) : w.there b o' n' := fun j hj => by
  have := h (o' - o + j) (by omega)
  rwa [show o + (o' - o + j) = o' + j by omega] at this
/-- Where a part lies that may be written. -/
theorem there_get {w : World} {b o : Nat} : ∀ (p : List Stp) (base : Option (Nat × Nat)) (t : LT), Mem w t → Valid t p → (get default false t p).1 = false → (∀ q, base = some q → w.there q.1 q.2 (cells t).length) → addr base t p = some (b, o) →
    w.there b o (cells (get default false t p).2).length ∧ (b ∈ own t ∨ ∃ q, base = some q ∧ q.1 = b)
  | [], base, t, _, _, _, hb, ha => ⟨hb _ ha, .inr ⟨_, ha, rfl⟩⟩
  | .f s i :: p, base, .st xs, hm, hv, h, hb, ha => by
    obtain ⟨A, x, B, hxs, hA, hA', hx, hset⟩ := split_at xs i (.dead default) hv.1
    obtain ⟨h1, h2⟩ := there_get p _ _ (memL_iff.1 hm _ (getD_mem hv.1)) hv.2 h (fun q hq => by
      obtain ⟨q0, hq0, rfl⟩ := Option.map_eq_some_iff.1 hq
      have := hb q0 hq0
      simp only [cells, hxs, cellsL_append, cellsL, List.length_append] at this
      rw [hx, ← hA']
      exact there_sub this (by simp) (by simp; omega)) ha
    refine ⟨h1, h2.imp (ownL_mem (getD_mem hv.1) b) ?_⟩
    rintro ⟨q, hq, rfl⟩
    obtain ⟨q0, hq0, rfl⟩ := Option.map_eq_some_iff.1 hq
    exact ⟨q0, hq0, rfl⟩
  | .d s :: p, base, .pt r hd x, hm, hv, h, hb, ha => by
    cases r with
    | true => simp only [get, Bool.or_true] at h; rw [get_true] at h; cases h
    | false =>
      simp only [get, Bool.or_false] at h ⊢
      obtain ⟨h1, h2⟩ := there_get p _ _ hm.2 hv h (fun q hq => by
        obtain ⟨⟨b', o', rfl, _, _, ht⟩, _⟩ := hm
        simp [plc] at hq
        rw [← hq]; exact ht rfl) ha
      refine ⟨h1, .inl ?_⟩
      simp only [own, Bool.false_eq_true, if_false, List.mem_append]
      rcases h2 with h2 | ⟨q, hq, rfl⟩
      · exact .inr h2
      · exact .inl (mem_blk hq)
  | .i s n :: p, base, .sl r k hd xs, hm, hv, h, hb, ha => by
    cases r with
    | true => simp only [get, Bool.or_true] at h; rw [get_true] at h; cases h
    | false =>
      simp only [get, Bool.or_false] at h ⊢
      have hx : (cells (xs.getD n (.dead default))).length = k.n := (hm.2.1 _ (getD_mem hv.1)).1
      obtain ⟨h1, h2⟩ := there_get p _ _ (memL_iff.1 hm.2.2 _ (getD_mem hv.1)) hv.2 h (fun q hq => by
        obtain ⟨q0, hq0, rfl⟩ := Option.map_eq_some_iff.1 hq
        obtain ⟨⟨A, c, rfl, hc, _, ht⟩, _⟩ := hm
        by_cases h0 : c = 0
        · cases A <;> simp [plc, h0] at hq0
        · obtain ⟨b', o', rfl, _, _, ht⟩ := ht h0
          simp [plc, h0] at hq0
          rw [← hq0, hx]
          refine there_sub (ht rfl) (by simp) ?_
          have : (n + 1) * k.n ≤ c * k.n := Nat.mul_le_mul_right _ (by have := hv.1; omega)
          rw [Nat.add_one_mul] at this
          simp; omega) ha
      refine ⟨h1, .inl ?_⟩
      simp only [own, Bool.false_eq_true, if_false, List.mem_append]
      rcases h2 with h2 | ⟨q, hq, rfl⟩
      · exact .inr (ownL_mem (getD_mem hv.1) b h2)
      · obtain ⟨q0, hq0, rfl⟩ := Option.map_eq_some_iff.1 hq
        exact .inl (show q0.1 ∈ blk hd from mem_blk hq0)
end Go.Tree

/- Trees of values in memory: what is laid open, read and written at a path. -/
namespace Go.Tree
set_option linter.unusedSectionVars false
set_option linter.unusedVariables false
set_option linter.unusedSimpArgs false
variable {α : Type} {r : α} {P : Program} {w : World}
variable [Pol]
theorem er_fl_inv {T : LT} {v : Value} (h : er T = .fl v) : T = .fl v := by
  cases T <;> simp only [er_st, er_sl, er_pt, er_fl, er_cl, er_dead] at h <;> cases h
  rfl
theorem er_sl_inv {T : LT} {ro : Bool} {k : Ek} {h : Unit} {xs : List TV} (e : er T = .sl ro k h xs) : ∃ hd ys, T = .sl ro k hd ys ∧ xs = ys.map er := by
  cases T <;> simp only [er_st, er_sl, er_pt, er_fl, er_cl, er_dead] at e <;> cases e
  exact ⟨_, _, rfl, rfl⟩
theorem er_pt_inv {T : LT} {ro : Bool} {h : Unit} {x : TV} (e : er T = .pt ro h x) : ∃ hd y, T = .pt ro hd y ∧ x = er y := by
  cases T <;> simp only [er_st, er_sl, er_pt, er_fl, er_cl, er_dead] at e <;> cases e
  exact ⟨_, _, rfl, rfl⟩
theorem er_st_inv {T : LT} {xs : List TV} (e : er T = .st xs) : ∃ ys, T = .st ys ∧ xs = ys.map er := by
  cases T <;> simp only [er_st, er_sl, er_pt, er_fl, er_cl, er_dead] at e <;> cases e
  exact ⟨_, rfl, rfl⟩
theorem er_cl_inv {T : LT} {f : FuncId} {xs : List TV} (e : er T = .cl f xs) : ∃ ys, T = .cl f ys ∧ xs = ys.map er := by
  cases T <;> simp only [er_st, er_sl, er_pt, er_fl, er_cl, er_dead] at e <;> cases e
  exact ⟨_, rfl, rfl⟩
theorem mInt_some {k : IntKind} {t : TV} {K : Int → Option α} (h : mInt k t K = some r) : ∃ n, t = .fl (.int k n) ∧ K n = some r := by
  unfold mInt at h
  split at h
  · split at h
    · subst_vars; exact ⟨_, rfl, h⟩
    · cases h
  · cases h
theorem mBool_some {t : TV} {K : Bool → Option α} (h : mBool t K = some r) : ∃ b, t = .fl (.bool b) ∧ K b = some r := by
  unfold mBool at h
  split at h
  · exact ⟨_, rfl, h⟩
  · cases h
theorem mStr_some {t : TV} {K : ByteArray → Option α} (h : mStr t K = some r) : ∃ s, t = .fl (.string s) ∧ K s = some r := by
  unfold mStr at h
  split at h
  · exact ⟨_, rfl, h⟩
  · cases h
theorem mSl_some {ro : Bool} {n : Ek} {t : TV} {K : Bool → List TV → Option α} (h : mSl ro n t K = some r) : ∃ r' hd xs, t = .sl r' n hd xs ∧ K (ro || r') xs = some r := by
  unfold mSl at h
  split at h
  · rename_i r' m hd xs
    split at h
    · subst_vars
      refine ⟨r', hd, xs, rfl, ?_⟩
      cases hb : (ro || r') <;> simpa [hb] using h
    · cases h
  · cases h
theorem mSlV_some {q : Bool → Bool} {ro : Bool} {n : Ek} {t : TV} {K : Bool → List TV → Option α} (h : mSlV q ro n t K = some r) : ∃ r' hd xs, t = .sl r' n hd xs ∧ K (ro || r') xs = some r := by
  unfold mSlV at h
  split at h
  · rename_i r' m hd xs
    split at h
    · subst_vars
      refine ⟨r', hd, xs, rfl, ?_⟩
      cases ro with
      | true => simpa using h
      | false =>
        cases r' with
        | true => cases hq : q true with
          | true => simpa [hq] using h
          | false => rw [hq] at h; cases h
        | false => cases hq : q false with
          | true => simpa [hq] using h
          | false => rw [hq] at h; cases h
    · cases h
  · cases h
theorem mPtV_some {q : Bool → Bool} {ro : Bool} {t : TV} {N : Option α} {K : Bool → TV → Option α} (h : mPtV q ro t N K = some r) : (t = .fl (.pointer none) ∧ N = some r) ∨ ∃ r' hd x, t = .pt r' hd x ∧ K (ro || r') x = some r := by
  unfold mPtV at h
  split at h
  · exact .inl ⟨rfl, h⟩
  · rename_i r' hd x
    refine .inr ⟨r', hd, x, rfl, ?_⟩
    cases ro with
    | true => simpa using h
    | false =>
      cases r' with
      | true => cases hq : q true with
        | true => simpa [hq] using h
        | false => rw [hq] at h; cases h
      | false => cases hq : q false with
        | true => simpa [hq] using h
        | false => rw [hq] at h; cases h
  · cases h
theorem mSt_some {t : TV} {K : List TV → Option α} (h : mSt t K = some r) : ∃ xs, t = .st xs ∧ K xs = some r := by
  unfold mSt at h
  split at h
  · exact ⟨_, rfl, h⟩
  · cases h
theorem mPt_some {ro : Bool} {t : TV} {N : Option α} {K : Bool → TV → Option α} (h : mPt ro t N K = some r) : (t = .fl (.pointer none) ∧ N = some r) ∨ ∃ r' hd x, t = .pt r' hd x ∧ K (ro || r') x = some r := by
  unfold mPt at h
  split at h
  · exact .inl ⟨rfl, h⟩
  · rename_i r' hd x
    refine .inr ⟨r', hd, x, rfl, ?_⟩
    cases hb : (ro || r') <;> simpa [hb] using h
  · cases h
theorem mCons_some {ts : List TV} {K : TV → List TV → Option α} (h : mCons ts K = some r) : ∃ t ts', ts = t :: ts' ∧ K t ts' = some r := by
  unfold mCons at h
  split at h
  · exact ⟨_, _, rfl, h⟩
  · cases h
theorem mNil_some {ts : List TV} {K : Option α} (h : mNil ts K = some r) : ts = [] ∧ K = some r := by
  unfold mNil at h
  split at h
  · exact ⟨rfl, h⟩
  · cases h

mutual
def Lk : LT → LT → Prop
  | .fl v, t => t = .fl v
  | .st xs, t => ∃ ys, t = .st ys ∧ LkL xs ys
  | .sl _ k h xs, t => ∃ r ys, t = .sl r k h ys ∧ LkL xs ys
  | .pt _ h x, t => ∃ r y, t = .pt r h y ∧ Lk x y
  | .cl f xs, t => ∃ ys, t = .cl f ys ∧ LkL xs ys
  | .dead h, t => t = .dead h
def LkL : List LT → List LT → Prop
  | [], ys => ys = []
  | x :: xs, ys => ∃ y ys', ys = y :: ys' ∧ Lk x y ∧ LkL xs ys'
end
mutual
theorem Lk.refl : ∀ (t : LT), Lk t t
  | .fl _ => rfl
  | .st xs => ⟨_, rfl, LkL.refl xs⟩
  | .sl _ _ _ xs => ⟨_, _, rfl, LkL.refl xs⟩
  | .pt _ _ x => ⟨_, _, rfl, Lk.refl x⟩
  | .cl _ xs => ⟨_, rfl, LkL.refl xs⟩
  | .dead _ => rfl
theorem LkL.refl : ∀ (ts : List LT), LkL ts ts
  | [] => rfl
  | x :: xs => ⟨_, _, rfl, Lk.refl x, LkL.refl xs⟩
end
mutual
theorem Lk.cells : ∀ {t u : LT}, Lk t u → cells u = cells t
  | .fl _, _, h => by rw [show _ = _ from h]
  | .st xs, _, ⟨ys, e, h⟩ => by rw [e]; exact LkL.cells h
  | .sl _ _ _ xs, _, ⟨_, _, e, _⟩ => by rw [e]; rfl
  | .pt _ _ x, _, ⟨_, _, e, _⟩ => by rw [e]; rfl
  | .cl _ xs, _, ⟨ys, e, h⟩ => by rw [e, Tree.cells, Tree.cells, LkL.cells h]
  | .dead _, _, h => by rw [show _ = _ from h]
theorem LkL.cells : ∀ {ts us : List LT}, LkL ts us → cellsL us = cellsL ts
  | [], _, h => by rw [show _ = _ from h]
  | x :: xs, _, ⟨y, ys, e, h1, h2⟩ => by rw [e, cellsL, cellsL, Lk.cells h1, LkL.cells h2]
end
theorem Lk.valOf : ∀ {t u : LT}, Lk t u → valOf u = valOf t
  | .fl _, _, h => by rw [show _ = _ from h]
  | .st xs, _, ⟨ys, e, h⟩ => by rw [e, Tree.valOf, Tree.valOf, LkL.cells h]
  | .sl _ _ _ xs, _, ⟨_, _, e, _⟩ => by rw [e]; rfl
  | .pt _ _ x, _, ⟨_, _, e, _⟩ => by rw [e]; rfl
  | .cl _ xs, _, ⟨ys, e, h⟩ => by rw [e, Tree.valOf, Tree.valOf, LkL.cells h]
  | .dead _, _, h => by rw [show _ = _ from h]
mutual
theorem Lk.all : ∀ {t u : LT}, Lk t u → all u = all t
  | .fl _, _, h => by rw [show _ = _ from h]
  | .st xs, _, ⟨ys, e, h⟩ => by rw [e]; exact LkL.all h
  | .sl _ _ _ xs, _, ⟨_, _, e, h⟩ => by rw [e, Tree.all, Tree.all, LkL.all h]
  | .pt _ _ x, _, ⟨_, _, e, h⟩ => by rw [e, Tree.all, Tree.all, Lk.all h]
  | .cl _ xs, _, ⟨ys, e, h⟩ => by rw [e]; exact LkL.all h
  | .dead _, _, h => by rw [show _ = _ from h]
theorem LkL.all : ∀ {ts us : List LT}, LkL ts us → allL us = allL ts
  | [], _, h => by rw [show _ = _ from h]
  | x :: xs, _, ⟨y, ys, e, h1, h2⟩ => by rw [e, allL, allL, Lk.all h1, LkL.all h2]
end
theorem LkL.length : ∀ {ts us : List LT}, LkL ts us → us.length = ts.length
  | [], _, h => by rw [show _ = _ from h]
  | x :: xs, _, ⟨y, ys, e, h1, h2⟩ => by rw [e, List.length_cons, List.length_cons, LkL.length h2]
theorem LkL.getD : ∀ {ts us : List LT} (i : Nat) (d : LT), LkL ts us → Lk (ts.getD i d) (us.getD i d)
  | [], _, i, d, h => by rw [show _ = _ from h]; exact Lk.refl _
  | x :: xs, _, 0, d, ⟨y, ys, e, h1, h2⟩ => by rw [e]; exact h1
  | x :: xs, _, i + 1, d, ⟨y, ys, e, h1, h2⟩ => by rw [e]; exact LkL.getD i d h2
theorem LkL.take : ∀ {ts us : List LT} (i : Nat), LkL ts us → LkL (ts.take i) (us.take i)
  | [], _, i, h => by rw [show _ = _ from h]; exact LkL.refl _
  | x :: xs, _, 0, ⟨y, ys, e, h1, h2⟩ => by rw [e]; exact LkL.refl _
  | x :: xs, _, i + 1, ⟨y, ys, e, h1, h2⟩ => by rw [e]; exact ⟨_, _, rfl, h1, LkL.take i h2⟩
theorem LkL.set : ∀ {ts us : List LT} (i : Nat) (x y : LT), LkL ts us → Lk x y → LkL (ts.set i x) (us.set i y)
  | [], _, i, x, y, h, _ => by rw [show _ = _ from h]; exact LkL.refl _
  | z :: xs, _, 0, x, y, ⟨y', ys, e, h1, h2⟩, h => by rw [e]; exact ⟨_, _, rfl, h, h2⟩
  | z :: xs, _, i + 1, x, y, ⟨y', ys, e, h1, h2⟩, h => by rw [e]; exact ⟨_, _, rfl, h1, LkL.set i x y h2 h⟩
theorem Lk.valid : ∀ {p : List Stp} {t u : LT}, Lk t u → Valid t p → Valid u p
  | [], _, _, _, _ => trivial
  | .f s i :: p, .st xs, _, ⟨ys, e, h⟩, hv => by rw [e]; exact ⟨by rw [h.length]; exact hv.1, Lk.valid (h.getD i _) hv.2⟩
  | .d s :: p, .pt _ hd x, _, ⟨_, y, e, h⟩, hv => by rw [e]; exact Lk.valid (p := p) h hv
  | .i s n :: p, .sl _ k hd xs, _, ⟨_, ys, e, h⟩, hv => by rw [e]; exact ⟨by rw [h.length]; exact hv.1, Lk.valid (h.getD n _) hv.2⟩
mutual
theorem Lk.symm : ∀ {t u : LT}, Lk t u → Lk u t
  | .fl _, _, h => by rw [show _ = _ from h]; exact rfl
  | .st xs, _, ⟨ys, e, h⟩ => by rw [e]; exact ⟨_, rfl, LkL.symm h⟩
  | .sl _ _ _ xs, _, ⟨_, _, e, h⟩ => by rw [e]; exact ⟨_, _, rfl, LkL.symm h⟩
  | .pt _ _ x, _, ⟨_, _, e, h⟩ => by rw [e]; exact ⟨_, _, rfl, Lk.symm h⟩
  | .cl _ xs, _, ⟨ys, e, h⟩ => by rw [e]; exact ⟨_, rfl, LkL.symm h⟩
  | .dead _, _, h => by rw [show _ = _ from h]; exact rfl
theorem LkL.symm : ∀ {ts us : List LT}, LkL ts us → LkL us ts
  | [], _, h => by rw [show _ = _ from h]; exact rfl
  | x :: xs, _, ⟨y, ys, e, h1, h2⟩ => by rw [e]; exact ⟨_, _, rfl, Lk.symm h1, LkL.symm h2⟩
end
mutual
theorem Lk.trans : ∀ {t u v : LT}, Lk t u → Lk u v → Lk t v
  | .fl _, _, _, h, h' => by rw [show _ = _ from h] at h'; exact h'
  | .st xs, _, _, ⟨ys, e, h⟩, h' => by rw [e] at h'; obtain ⟨zs, e', h'⟩ := h'; exact ⟨zs, e', LkL.trans h h'⟩
  | .sl _ _ _ xs, _, _, ⟨_, ys, e, h⟩, h' => by rw [e] at h'; obtain ⟨_, zs, e', h'⟩ := h'; exact ⟨_, zs, e', LkL.trans h h'⟩
  | .pt _ _ x, _, _, ⟨_, y, e, h⟩, h' => by rw [e] at h'; obtain ⟨_, z, e', h'⟩ := h'; exact ⟨_, z, e', Lk.trans h h'⟩
  | .cl _ xs, _, _, ⟨ys, e, h⟩, h' => by rw [e] at h'; obtain ⟨zs, e', h'⟩ := h'; exact ⟨zs, e', LkL.trans h h'⟩
  | .dead _, _, _, h, h' => by rw [show _ = _ from h] at h'; exact h'
theorem LkL.trans : ∀ {ts us vs : List LT}, LkL ts us → LkL us vs → LkL ts vs
  | [], _, _, h, h' => by rw [show _ = _ from h] at h'; exact h'
  | x :: xs, _, _, ⟨y, ys, e, h1, h2⟩, h' => by rw [e] at h'; obtain ⟨z, zs, e', h3, h4⟩ := h'; exact ⟨z, zs, e', Lk.trans h1 h3, LkL.trans h2 h4⟩
end
theorem Lk.addr : ∀ {p : List Stp} {t u : LT} (base : Option (Nat × Nat)), Lk t u → Valid t p → addr base u p = addr base t p
  | [], _, _, _, _, _ => rfl
  | .f s i :: p, .st xs, _, base, ⟨ys, e, h⟩, hv => by rw [e, Tree.addr, Tree.addr, (h.take i).cells]; exact Lk.addr _ (h.getD i _) hv.2
  | .d s :: p, .pt _ hd x, _, base, ⟨_, y, e, h⟩, hv => by rw [e, Tree.addr, Tree.addr]; exact Lk.addr _ h hv
  | .i s n :: p, .sl _ k hd xs, _, base, ⟨_, ys, e, h⟩, hv => by rw [e, Tree.addr, Tree.addr]; exact Lk.addr _ (h.getD n _) hv.2
theorem Lk.get : ∀ {p : List Stp} {t u : LT} (ro ro' : Bool), Lk t u → Valid t p → Lk (get default ro t p).2 (get default ro' u p).2
  | [], _, _, _, _, h, _ => h
  | .f s i :: p, .st xs, _, ro, ro', ⟨ys, e, h⟩, hv => by rw [e]; exact Lk.get (p := p) ro ro' (h.getD i _) hv.2
  | .d s :: p, .pt _ hd x, _, ro, ro', ⟨_, y, e, h⟩, hv => by rw [e]; exact Lk.get (p := p) _ _ h hv
  | .i s n :: p, .sl _ k hd xs, _, ro, ro', ⟨_, ys, e, h⟩, hv => by rw [e]; exact Lk.get (p := p) _ _ (h.getD n _) hv.2
mutual
theorem csz_er : ∀ (t : LT), csz (er t) = (cells t).length
  | .fl _ => rfl
  | .st xs => by rw [er_st, csz, cells]; exact cszL_er xs
  | .sl .. => by rw [er_sl]; rfl
  | .pt .. => rfl
  | .cl .. => by rw [er_cl]; rfl
  | .dead _ => rfl
theorem cszL_er : ∀ (ts : List LT), cszL (ts.map er) = (cellsL ts).length
  | [] => rfl
  | x :: xs => by rw [List.map_cons, cszL, cellsL, List.length_append, csz_er x, cszL_er xs]
end
mutual
/-- A tree laid open, for reading ('ro') or not: below what is for reading alone anything may be so. -/
def Vk : Bool → LT → LT → Prop
  | _, .fl v, t => t = .fl v
  | ro, .st xs, t => ∃ ys, t = .st ys ∧ VkL ro xs ys
  | ro, .sl r k h xs, t => ∃ ys, t = .sl (ro || r) k h ys ∧ ((ro || r) = true → LkL xs ys) ∧ ((ro || r) = false → VkL false xs ys)
  | ro, .pt r h x, t => ∃ y, t = .pt (ro || r) h y ∧ ((ro || r) = true → Lk x y) ∧ ((ro || r) = false → Vk false x y)
  | ro, .cl f xs, t => ∃ ys, t = .cl f ys ∧ VkL ro xs ys
  | _, .dead h, t => t = .dead h
def VkL : Bool → List LT → List LT → Prop
  | _, [], ys => ys = []
  | ro, x :: xs, ys => ∃ y ys', ys = y :: ys' ∧ Vk ro x y ∧ VkL ro xs ys'
end
mutual
theorem Vk.lk : ∀ {ro : Bool} {t u : LT}, Vk ro t u → Lk t u
  | _, .fl _, _, h => h
  | _, .st xs, _, ⟨ys, e, h⟩ => ⟨ys, e, VkL.lk h⟩
  | ro, .sl r _ _ xs, _, ⟨ys, e, h1, h2⟩ => ⟨_, ys, e, by
    cases hb : (ro || r) with
    | true => exact h1 hb
    | false => exact VkL.lk (h2 hb)⟩
  | ro, .pt r _ x, _, ⟨y, e, h1, h2⟩ => ⟨_, y, e, by
    cases hb : (ro || r) with
    | true => exact h1 hb
    | false => exact Vk.lk (h2 hb)⟩
  | _, .cl _ xs, _, ⟨ys, e, h⟩ => ⟨ys, e, VkL.lk h⟩
  | _, .dead _, _, h => h
theorem VkL.lk : ∀ {ro : Bool} {ts us : List LT}, VkL ro ts us → LkL ts us
  | _, [], _, h => h
  | _, x :: xs, _, ⟨y, ys, e, h1, h2⟩ => ⟨y, ys, e, Vk.lk h1, VkL.lk h2⟩
end
mutual
theorem Vk.rd : ∀ {t u : LT}, Vk true t u → own u = [] ∧ shr u = all t
  | .fl _, _, h => by rw [show _ = _ from h]; exact ⟨rfl, rfl⟩
  | .st xs, _, ⟨ys, e, h⟩ => by rw [e]; exact VkL.rd h
  | .sl r _ _ xs, _, ⟨ys, e, h1, h2⟩ => by rw [e]; refine ⟨rfl, ?_⟩; simp only [Bool.true_or, shr, if_true, all]; rw [(h1 rfl).all]
  | .pt r _ x, _, ⟨y, e, h1, h2⟩ => by rw [e]; refine ⟨rfl, ?_⟩; simp only [Bool.true_or, shr, if_true, all]; rw [(h1 rfl).all]
  | .cl _ xs, _, ⟨ys, e, h⟩ => by rw [e]; exact VkL.rd h
  | .dead _, _, h => by rw [show _ = _ from h]; exact ⟨rfl, rfl⟩
theorem VkL.rd : ∀ {ts us : List LT}, VkL true ts us → ownL us = [] ∧ shrL us = allL ts
  | [], _, h => by rw [show _ = _ from h]; exact ⟨rfl, rfl⟩
  | x :: xs, _, ⟨y, ys, e, h1, h2⟩ => by rw [e]; simp [ownL, shrL, allL, Vk.rd h1, VkL.rd h2]
end
mutual
theorem Vk.wr : ∀ {t u : LT}, Vk false t u → own u = own t ∧ shr u = shr t
  | .fl _, _, h => by rw [show _ = _ from h]; exact ⟨rfl, rfl⟩
  | .st xs, _, ⟨ys, e, h⟩ => by rw [e]; exact VkL.wr h
  | .sl r _ _ xs, _, ⟨ys, e, h1, h2⟩ => by
    rw [e]
    cases r with
    | true => refine ⟨rfl, ?_⟩; simp only [Bool.or_true, shr, if_true]; rw [(h1 rfl).all]
    | false => simp [own, shr, VkL.wr (h2 rfl)]
  | .pt r _ x, _, ⟨y, e, h1, h2⟩ => by
    rw [e]
    cases r with
    | true => refine ⟨rfl, ?_⟩; simp only [Bool.or_true, shr, if_true]; rw [(h1 rfl).all]
    | false => simp [own, shr, Vk.wr (h2 rfl)]
  | .cl _ xs, _, ⟨ys, e, h⟩ => by rw [e]; exact VkL.wr h
  | .dead _, _, h => by rw [show _ = _ from h]; exact ⟨rfl, rfl⟩
theorem VkL.wr : ∀ {ts us : List LT}, VkL false ts us → ownL us = ownL ts ∧ shrL us = shrL ts
  | [], _, h => by rw [show _ = _ from h]; exact ⟨rfl, rfl⟩
  | x :: xs, _, ⟨y, ys, e, h1, h2⟩ => by rw [e]; simp [ownL, shrL, Vk.wr h1, VkL.wr h2]
end
mutual
theorem Vk.refl : ∀ (t : LT), Vk false t t
  | .fl _ => rfl
  | .st xs => ⟨_, rfl, VkL.refl xs⟩
  | .sl _ _ _ xs => ⟨_, rfl, fun _ => LkL.refl xs, fun _ => VkL.refl xs⟩
  | .pt _ _ x => ⟨_, rfl, fun _ => Lk.refl x, fun _ => Vk.refl x⟩
  | .cl _ xs => ⟨_, rfl, VkL.refl xs⟩
  | .dead _ => rfl
theorem VkL.refl : ∀ (ts : List LT), VkL false ts ts
  | [] => rfl
  | x :: xs => ⟨_, _, rfl, Vk.refl x, VkL.refl xs⟩
end
mutual
theorem vk_roTop : ∀ (t : LT), Vk true t (roTop t)
  | .fl _ => rfl
  | .st xs => ⟨_, rfl, vk_roTopL xs⟩
  | .sl _ _ _ xs => ⟨_, rfl, fun _ => LkL.refl xs, fun h => by cases h⟩
  | .pt _ _ x => ⟨_, rfl, fun _ => Lk.refl x, fun h => by cases h⟩
  | .cl _ xs => ⟨_, rfl, vk_roTopL xs⟩
  | .dead _ => rfl
theorem vk_roTopL : ∀ (ts : List LT), VkL true ts (roTopL ts)
  | [] => rfl
  | x :: xs => ⟨_, _, rfl, vk_roTop x, vk_roTopL xs⟩
end
theorem VkL.getD : ∀ {ro : Bool} {ts us : List LT} (i : Nat) (h : Value), VkL ro ts us → Vk ro (ts.getD i (.dead h)) (us.getD i (.dead h))
  | _, [], _, i, d, h => by rw [show _ = _ from h]; exact rfl
  | _, x :: xs, _, 0, d, ⟨y, ys, e, h1, h2⟩ => by rw [e]; exact h1
  | _, x :: xs, _, i + 1, d, ⟨y, ys, e, h1, h2⟩ => by rw [e]; exact VkL.getD i d h2
theorem VkL.set : ∀ {ro : Bool} {ts us : List LT} (i : Nat) (y : LT), VkL ro ts us → Vk ro (ts.getD i (.dead default)) y → VkL ro ts (us.set i y)
  | _, [], _, i, y, h, _ => by rw [show _ = _ from h]; exact rfl
  | _, z :: xs, _, 0, y, ⟨y', ys, e, h1, h2⟩, h => by rw [e]; exact ⟨_, _, rfl, h, h2⟩
  | _, z :: xs, _, i + 1, y, ⟨y', ys, e, h1, h2⟩, h => by rw [e]; exact ⟨_, _, rfl, h1, VkL.set i y h2 h⟩
mutual
theorem Vk.trans : ∀ {ro : Bool} {t u v : LT}, Vk ro t u → Vk ro u v → Vk ro t v
  | _, .fl _, _, _, h, h' => by rw [show _ = _ from h] at h'; exact h'
  | _, .st xs, _, _, ⟨ys, e, h⟩, h' => by rw [e] at h'; obtain ⟨zs, e', h'⟩ := h'; exact ⟨zs, e', VkL.trans h h'⟩
  | ro, .sl r _ _ xs, _, _, ⟨ys, e, h1, h2⟩, h' => by
    rw [e] at h'
    obtain ⟨zs, e', h3, h4⟩ := h'
    rw [← Bool.or_assoc, Bool.or_self] at e' h3 h4
    exact ⟨zs, e', fun h => (h1 h).trans (h3 h), fun h => VkL.trans (h2 h) (h4 h)⟩
  | ro, .pt r _ x, _, _, ⟨y, e, h1, h2⟩, h' => by
    rw [e] at h'
    obtain ⟨z, e', h3, h4⟩ := h'
    rw [← Bool.or_assoc, Bool.or_self] at e' h3 h4
    exact ⟨z, e', fun h => (h1 h).trans (h3 h), fun h => Vk.trans (h2 h) (h4 h)⟩
  | _, .cl _ xs, _, _, ⟨ys, e, h⟩, h' => by rw [e] at h'; obtain ⟨zs, e', h'⟩ := h'; exact ⟨zs, e', VkL.trans h h'⟩
  | _, .dead _, _, _, h, h' => by rw [show _ = _ from h] at h'; exact h'
theorem VkL.trans : ∀ {ro : Bool} {ts us vs : List LT}, VkL ro ts us → VkL ro us vs → VkL ro ts vs
  | _, [], _, _, h, h' => by rw [show _ = _ from h] at h'; exact h'
  | _, x :: xs, _, _, ⟨y, ys, e, h1, h2⟩, h' => by rw [e] at h'; obtain ⟨z, zs, e', h3, h4⟩ := h'; exact ⟨z, zs, e', Vk.trans h1 h3, VkL.trans h2 h4⟩
end
/-- Laid open, and a part of it. -/
theorem Vk.get : ∀ {p : List Stp} {ro : Bool} {t u : LT}, Vk ro t u → Valid t p → (Tree.get default ro u p).1 = (Tree.get default ro t p).1 ∧ ((Tree.get default ro t p).1 = false → Vk false (Tree.get default ro t p).2 (Tree.get default ro u p).2)
  | [], ro, t, u, h, _ => ⟨rfl, fun e => by simp only [Tree.get] at e; subst e; exact h⟩
  | .f s i :: p, ro, .st xs, _, ⟨ys, e, h⟩, hv => by rw [e]; exact Vk.get (p := p) (h.getD i default) hv.2
  | .d s :: p, ro, .pt r hd x, _, ⟨y, e, h1, h2⟩, hv => by
    rw [e]
    simp only [Tree.get, ← Bool.or_assoc, Bool.or_self]
    cases hb : (ro || r) with
    | true => exact ⟨by rw [get_true, get_true], fun h => by rw [get_true] at h; cases h⟩
    | false => exact Vk.get (p := p) (h2 hb) hv
  | .i s n :: p, ro, .sl r k hd xs, _, ⟨ys, e, h1, h2⟩, hv => by
    rw [e]
    simp only [Tree.get, ← Bool.or_assoc, Bool.or_self]
    cases hb : (ro || r) with
    | true => exact ⟨by rw [get_true, get_true], fun h => by rw [get_true] at h; cases h⟩
    | false => exact Vk.get (p := p) ((h2 hb).getD n default) hv.2
theorem viewQ_ok : ∀ (n : Nat), (∀ (ro : Bool) (q : Bool → Bool) (ty : TypeId) (T : LT) (k : TV → Option α), Mem w T → viewQ P ro n q ty (er T) k = some r → ∃ T', k (er T') = some r ∧ Vk ro T T' ∧ Mem w T') ∧
    (∀ (ro : Bool) (s i : Nat) (tys : List TypeId) (Ts : List LT) (k : List TV → Option α), MemL w Ts → viewL P ro n s i tys (Ts.map er) k = some r → ∃ Ts', k (Ts'.map er) = some r ∧ VkL ro Ts Ts' ∧ MemL w Ts')
  | 0 => by
    refine ⟨fun ro q ty T k hm h => by simp [viewQ] at h, fun ro s i tys Ts k hm h => ?_⟩
    cases tys with
    | cons => simp [viewL] at h
    | nil =>
      simp only [viewL] at h
      obtain ⟨h1, h2⟩ := mNil_some h
      have : Ts = [] := by simpa using h1
      subst this
      exact ⟨[], h2, rfl, trivial⟩
  | n + 1 => by
    obtain ⟨ih1, ih2⟩ := viewQ_ok n
    constructor
    · intro ro q ty T k hm h
      simp only [viewQ] at h
      split at h
      · obtain ⟨m, e, h2⟩ := mInt_some h
        rw [er_fl_inv e]
        exact ⟨.fl _, h2, rfl, rfl⟩
      · obtain ⟨m, e, h2⟩ := mBool_some h
        rw [er_fl_inv e]
        exact ⟨.fl _, h2, rfl, rfl⟩
      · obtain ⟨m, e, h2⟩ := mStr_some h
        rw [er_fl_inv e]
        exact ⟨.fl _, h2, rfl, rfl⟩
      · obtain ⟨r', hd, xs, e, h⟩ := mSlV_some h
        obtain ⟨hd, ys, rfl, rfl⟩ := er_sl_inv e
        refine ⟨.sl (ro || r') _ hd ys, by rw [er_sl]; exact h, ⟨_, rfl, fun _ => LkL.refl _, fun _ => VkL.refl _⟩, ?_⟩
        refine ⟨?_, hm.2⟩
        cases ro with
        | true => exact hm.1.toRo
        | false => exact hm.1
      · obtain ⟨xs, e, h⟩ := mSt_some h
        obtain ⟨ys, rfl, rfl⟩ := er_st_inv e
        obtain ⟨zs, h, hv, hm'⟩ := ih2 ro _ _ _ ys _ hm h
        exact ⟨.st zs, by rw [er_st]; exact h, ⟨_, rfl, hv⟩, hm'⟩
      · rcases mPtV_some h with ⟨e, h2⟩ | ⟨r', hd, x, e, h⟩
        · rw [er_fl_inv e]
          cases hnl : Pol.nl ty with
          | false => rw [hnl] at h2; cases h2
          | true => rw [hnl] at h2; exact ⟨.fl _, h2, rfl, rfl⟩
        · obtain ⟨hd, y, rfl, rfl⟩ := er_pt_inv e
          obtain ⟨z, h, hv, hm'⟩ := ih1 _ _ _ y _ hm.2 h
          refine ⟨.pt (ro || r') hd z, h, ⟨_, rfl, fun _ => hv.lk, fun hb => by rw [hb] at hv; exact hv⟩, ?_, hm'⟩
          rw [hv.lk.cells]
          cases ro with
          | true => exact hm.1.toRo
          | false => exact hm.1
      · cases h
    · intro ro s i tys Ts k hm h
      cases tys with
      | nil =>
        simp only [viewL] at h
        obtain ⟨h1, h2⟩ := mNil_some h
        have : Ts = [] := by simpa using h1
        subst this
        exact ⟨[], h2, rfl, trivial⟩
      | cons ty tys =>
        simp only [viewL] at h
        obtain ⟨t, ts, e, h⟩ := mCons_some h
        cases Ts with
        | nil => cases e
        | cons T Ts =>
          rw [List.map_cons] at e
          obtain ⟨rfl, rfl⟩ := List.cons.inj e
          obtain ⟨T', h, hv, hm1⟩ := ih1 _ _ _ T _ hm.1 h
          obtain ⟨Ts', h, hvs, hm2⟩ := ih2 _ _ _ _ Ts _ hm.2 h
          exact ⟨T' :: Ts', h, ⟨_, _, rfl, hv, hvs⟩, hm1, hm2⟩
theorem view_ok (n : Nat) {ro : Bool} {ty : TypeId} {T : LT} {k : TV → Option α} (hm : Mem w T) (h : view P ro n ty (er T) k = some r) : ∃ T', k (er T') = some r ∧ Vk ro T T' ∧ Mem w T' := (viewQ_ok n).1 _ _ _ _ _ hm h
theorem lay_ok {ty : TypeId} {opq ro : Bool} {T : LT} {K : TV → Option α} (hm : Mem w T) (h : lay P ty opq ro (er T) K = some r) : ∃ T', K (er T') = some r ∧ Vk ro T T' ∧ Mem w T' := by
  unfold lay at h
  cases opq with
  | true => exact view_ok _ hm h
  | false =>
    cases ro with
    | true => exact ⟨roTop T, by rw [← er_roTop]; exact h, vk_roTop T, mem_roTop T hm⟩
    | false => exact ⟨T, h, Vk.refl T, hm⟩

mutual
theorem er_deaden : ∀ (t : LT), deaden (er t) = er (deaden t)
  | .fl _ => rfl
  | .st xs => by rw [er_st, deaden, deaden, er_st, er_deadenL xs]
  | .sl ro .. => by rw [er_sl, deaden, deaden]; cases ro <;> simp [er_sl, er_dead]
  | .pt ro .. => by rw [er_pt, deaden, deaden]; cases ro <;> simp [er_pt, er_dead]
  | .cl _ xs => by rw [er_cl, deaden, deaden, er_cl, er_deadenL xs]
  | .dead _ => rfl
theorem er_deadenL : ∀ (xs : List LT), deadenL (xs.map er) = (deadenL xs).map er
  | [] => rfl
  | x :: xs => by rw [List.map_cons, deadenL, deadenL, er_deaden x, er_deadenL xs, List.map_cons]
end
mutual
theorem cells_deaden : ∀ (t : LT), cells (deaden t) = cells t
  | .fl _ => rfl
  | .st xs => by rw [deaden, cells, cells, cells_deadenL xs]
  | .sl ro .. => by rw [deaden]; cases ro <;> rfl
  | .pt ro .. => by rw [deaden]; cases ro <;> rfl
  | .cl _ xs => by rw [deaden, cells, cells, cells_deadenL xs]
  | .dead _ => rfl
theorem cells_deadenL : ∀ (xs : List LT), cellsL (deadenL xs) = cellsL xs
  | [] => rfl
  | x :: xs => by rw [deadenL, cellsL, cellsL, cells_deaden x, cells_deadenL xs]
end
mutual
theorem mem_deaden : ∀ (t : LT), Mem w t → Mem w (deaden t)
  | .fl _, h => h
  | .st xs, h => mem_deadenL xs h
  | .sl ro .., h => by
    rw [deaden]
    cases ro with
    | true => exact h
    | false => obtain ⟨⟨A, c, rfl, _⟩, _⟩ := h; rfl
  | .pt ro .., h => by
    rw [deaden]
    cases ro with
    | true => exact h
    | false => obtain ⟨⟨b, o, rfl, _⟩, _⟩ := h; rfl
  | .cl _ xs, h => mem_deadenL xs h
  | .dead _, h => h
theorem mem_deadenL : ∀ (xs : List LT), MemL w xs → MemL w (deadenL xs)
  | [], _ => trivial
  | x :: xs, h => ⟨mem_deaden x h.1, mem_deadenL xs h.2⟩
end
mutual
theorem own_deaden : ∀ (t : LT), own (deaden t) = []
  | .fl _ => rfl
  | .st xs => own_deadenL xs
  | .sl ro .. => by rw [deaden]; cases ro <;> rfl
  | .pt ro .. => by rw [deaden]; cases ro <;> rfl
  | .cl _ xs => own_deadenL xs
  | .dead _ => rfl
theorem own_deadenL : ∀ (xs : List LT), ownL (deadenL xs) = []
  | [] => rfl
  | x :: xs => by rw [deadenL, ownL, own_deaden x, own_deadenL xs]; rfl
end
mutual
theorem shr_deaden : ∀ (t : LT), ∀ b ∈ shr (deaden t), b ∈ shr t
  | .fl _, _, h => h
  | .st xs, b, h => shr_deadenL xs b h
  | .sl ro .., b, h => by
    rw [deaden] at h
    cases ro with
    | true => exact h
    | false => cases h
  | .pt ro .., b, h => by
    rw [deaden] at h
    cases ro with
    | true => exact h
    | false => cases h
  | .cl _ xs, b, h => shr_deadenL xs b h
  | .dead _, _, h => h
theorem shr_deadenL : ∀ (xs : List LT), ∀ b ∈ shrL (deadenL xs), b ∈ shrL xs
  | [], _, h => h
  | x :: xs, b, h => by
    simp only [deadenL, shrL, List.mem_append] at *
    exact h.imp (shr_deaden x b) (shr_deadenL xs b)
end
end Go.Tree

/- Trees of values in memory: read and written at a path, as the evaluator does it. -/
namespace Go.Tree
set_option linter.unusedSectionVars false
set_option linter.unusedVariables false
set_option linter.unusedSimpArgs false
variable {α : Type} {r : α} {P : Program} {w : World}
variable [Pol]
/-- Every element on the way is there. -/
def Bd : LT → List Stp → Prop
  | _, [] => True
  | .st xs, .f s i :: p => Bd (xs.getD i (.dead default)) p
  | .pt _ h x, .d s :: p => Bd x p
  | .sl _ k h xs, .i s n :: p => n < xs.length ∧ Bd (xs.getD n (.dead default)) p
  | _, _ :: _ => True
/-- Where a part lies, by the types alone. -/
def addrS (P : Program) : Option (Nat × Nat) → LT → List Stp → Option (Nat × Nat)
  | base, _, [] => base
  | base, .st xs, .f s i :: p => addrS P (base.map fun q => (q.1, q.2 + (offs P s i).getD 0)) (xs.getD i (.dead default)) p
  | base, t, .f s i :: p => addrS P (base.map fun q => (q.1, q.2 + (offs P s i).getD 0)) (.dead default) p
  | _, .pt _ h x, .d s :: p => addrS P (plc h) x p
  | _, .dead (.pointer a), .d s :: p => addrS P (plc (.pointer a)) (.dead default) p
  | _, .sl _ k h xs, .i e n :: p => if n < xs.length then addrS P ((plc h).map fun q => (q.1, q.2 + n * P.cellsOf e)) (xs.getD n (.dead default)) p else none
  | _, _, _ :: _ => none
theorem Valid.bd : ∀ {p : List Stp} {t : LT}, Valid t p → Bd t p
  | [], _, _ => trivial
  | .f s i :: p, .st xs, h => Valid.bd (p := p) h.2
  | .d s :: p, .pt _ hd x, h => Valid.bd (p := p) h
  | .i s n :: p, .sl _ k hd xs, h => ⟨h.1, Valid.bd (p := p) h.2⟩
theorem addrS_bd : ∀ {p : List Stp} {t : LT} {base : Option (Nat × Nat)} {q : Nat × Nat}, addrS P base t p = some q → Bd t p
  | [], _, _, _, _ => trivial
  | .f s i :: p, .st xs, base, q, h => by
    simp only [addrS] at h
    exact addrS_bd (p := p) h
  | .d s :: p, .pt _ hd x, base, q, h => addrS_bd (p := p) h
  | .i s n :: p, .sl _ k hd xs, base, q, h => by
    simp only [addrS] at h
    split at h
    · rename_i hn
      exact ⟨hn, addrS_bd (p := p) h⟩
    · cases h
  | .f _ _ :: _, .fl _, _, _, _ | .f _ _ :: _, .sl .., _, _, _ | .f _ _ :: _, .pt .., _, _, _ | .f _ _ :: _, .cl .., _, _, _ | .f _ _ :: _, .dead _, _, _, _ => trivial
  | .d _ :: _, .fl _, _, _, _ | .d _ :: _, .sl .., _, _, _ | .d _ :: _, .st .., _, _, _ | .d _ :: _, .cl .., _, _, _ | .d _ :: _, .dead _, _, _, _ => trivial
  | .i _ _ :: _, .fl _, _, _, _ | .i _ _ :: _, .pt .., _, _, _ | .i _ _ :: _, .st .., _, _, _ | .i _ _ :: _, .cl .., _, _, _ | .i _ _ :: _, .dead _, _, _, _ => trivial
theorem Lk.bd : ∀ {p : List Stp} {t u : LT}, Lk t u → Bd t p → Bd u p
  | [], _, _, _, _ => trivial
  | .f s i :: p, .st xs, _, ⟨ys, e, h⟩, hv => by rw [e]; exact Lk.bd (p := p) (h.getD i _) hv
  | .d s :: p, .pt _ hd x, _, ⟨_, y, e, h⟩, hv => by rw [e]; exact Lk.bd (p := p) h hv
  | .i s n :: p, .sl _ k hd xs, _, ⟨_, ys, e, h⟩, hv => by rw [e]; exact ⟨by rw [h.length]; exact hv.1, Lk.bd (p := p) (h.getD n _) hv.2⟩
  | .f _ _ :: _, .fl _, _, h, _ => by rw [show _ = _ from h]; trivial
  | .f _ _ :: _, .sl .., _, ⟨_, _, e, _⟩, _ => by rw [e]; trivial
  | .f _ _ :: _, .pt .., _, ⟨_, _, e, _⟩, _ => by rw [e]; trivial
  | .f _ _ :: _, .cl .., _, ⟨_, e, _⟩, _ => by rw [e]; trivial
  | .f _ _ :: _, .dead _, _, h, _ => by rw [show _ = _ from h]; trivial
  | .d _ :: _, .fl _, _, h, _ => by rw [show _ = _ from h]; trivial
  | .d _ :: _, .sl .., _, ⟨_, _, e, _⟩, _ => by rw [e]; trivial
  | .d _ :: _, .st .., _, ⟨_, e, _⟩, _ => by rw [e]; trivial
  | .d _ :: _, .cl .., _, ⟨_, e, _⟩, _ => by rw [e]; trivial
  | .d _ :: _, .dead _, _, h, _ => by rw [show _ = _ from h]; trivial
  | .i _ _ :: _, .fl _, _, h, _ => by rw [show _ = _ from h]; trivial
  | .i _ _ :: _, .pt .., _, ⟨_, _, e, _⟩, _ => by rw [e]; trivial
  | .i _ _ :: _, .st .., _, ⟨_, e, _⟩, _ => by rw [e]; trivial
  | .i _ _ :: _, .cl .., _, ⟨_, e, _⟩, _ => by rw [e]; trivial
  | .i _ _ :: _, .dead _, _, h, _ => by rw [show _ = _ from h]; trivial
theorem Lk.addrS : ∀ {p : List Stp} {t u : LT} (base : Option (Nat × Nat)), Lk t u → addrS P base u p = addrS P base t p
  | [], _, _, _, _ => rfl
  | .f s i :: p, .st xs, _, base, ⟨ys, e, h⟩ => by
    rw [e, Tree.addrS, Tree.addrS]
    exact Lk.addrS _ (h.getD i _)
  | .d s :: p, .pt _ hd x, _, base, ⟨_, y, e, h⟩ => by rw [e, Tree.addrS, Tree.addrS]; exact Lk.addrS _ h
  | .i s n :: p, .sl _ k hd xs, _, base, ⟨_, ys, e, h⟩ => by rw [e, Tree.addrS, Tree.addrS, h.length, Lk.addrS _ (h.getD n _)]
  | .f _ _ :: _, .fl _, _, _, h => by rw [show _ = _ from h]
  | .f _ _ :: _, .sl .., _, _, ⟨_, _, e, _⟩ => by rw [e]; rfl
  | .f _ _ :: _, .pt .., _, _, ⟨_, _, e, _⟩ => by rw [e]; rfl
  | .f _ _ :: _, .cl .., _, _, ⟨_, e, _⟩ => by rw [e]; rfl
  | .f _ _ :: _, .dead _, _, _, h => by rw [show _ = _ from h]
  | .d _ :: _, .fl _, _, _, h => by rw [show _ = _ from h]
  | .d _ :: _, .sl .., _, _, ⟨_, _, e, _⟩ => by rw [e]; rfl
  | .d _ :: _, .st .., _, _, ⟨_, e, _⟩ => by rw [e]; rfl
  | .d _ :: _, .cl .., _, _, ⟨_, e, _⟩ => by rw [e]; rfl
  | .d _ :: _, .dead _, _, _, h => by rw [show _ = _ from h]
  | .i _ _ :: _, .fl _, _, _, h => by rw [show _ = _ from h]
  | .i _ _ :: _, .pt .., _, _, ⟨_, _, e, _⟩ => by rw [e]; rfl
  | .i _ _ :: _, .st .., _, _, ⟨_, e, _⟩ => by rw [e]; rfl
  | .i _ _ :: _, .cl .., _, _, ⟨_, e, _⟩ => by rw [e]; rfl
  | .i _ _ :: _, .dead _, _, _, h => by rw [show _ = _ from h]
theorem fieldOk_spec {s : TypeId} {i : Nat} {ys : List LT} (h : fieldOk P s i (ys.map er) = true) : i < ys.length ∧ offs P s i = some (cellsL (ys.take i)).length := by
  unfold fieldOk at h
  simp only [Bool.and_eq_true, decide_eq_true_eq, beq_iff_eq, List.length_map, ← List.map_take, cszL_er] at h
  exact h

/-- A part is read: what is found there. -/
theorem getK_ok : ∀ (p : List Stp) (opq ro : Bool) (T : LT) (K : Bool → Bool → TV → Option α), Mem w T → Bd T p → getK P opq ro (er T) p K = some r →
    Valid T p ∧ (∀ base, addr base T p = addrS P base T p) ∧ ∃ opq' u, K opq' (get default ro T p).1 (er u) = some r ∧ Lk (get default ro T p).2 u ∧ Mem w u ∧ ((get default ro T p).1 = false → Vk false (get default ro T p).2 u)
  | [], opq, ro, T, K, hm, hb, h => ⟨trivial, fun _ => rfl, opq, T, h, Lk.refl T, hm, fun _ => Vk.refl T⟩
  | .f s i :: p, opq, ro, T, K, hm, hb, h => by
    have key : ∀ ys : List LT, MemL w ys → Bd (ys.getD i (.dead default)) p → (bif fieldOk P s i (ys.map er) then getK P false ro ((ys.map er).getD i (.dead ())) p K else none) = some r →
        Valid (.st ys) (.f s i :: p) ∧ (∀ base, addr base (.st ys) (.f s i :: p) = addrS P base (.st ys) (.f s i :: p)) ∧ ∃ opq' u, K opq' (get default ro (.st ys) (.f s i :: p)).1 (er u) = some r ∧ Lk (get default ro (.st ys) (.f s i :: p)).2 u ∧ Mem w u ∧ ((get default ro (.st ys) (.f s i :: p)).1 = false → Vk false (get default ro (.st ys) (.f s i :: p)).2 u) := by
      intro ys hm hb h
      cases hf : fieldOk P s i (ys.map er) with
      | false => rw [hf] at h; cases h
      | true =>
        rw [hf] at h
        obtain ⟨hi, ho⟩ := fieldOk_spec hf
        rw [getD_er] at h
        obtain ⟨h1, h2, h3⟩ := getK_ok p false ro _ K (memL_iff.1 hm _ (getD_mem hi)) hb h
        exact ⟨⟨hi, h1⟩, fun base => by rw [addr, addrS, ho, h2]; rfl, h3⟩
    cases opq with
    | true =>
      simp only [getK, cond_true] at h
      obtain ⟨T', h, hv, hm'⟩ := view_ok _ hm h
      obtain ⟨xs, e, h⟩ := mSt_some h
      obtain ⟨ys, rfl, rfl⟩ := er_st_inv e
      have hbd : Bd (.st ys) (.f s i :: p) := hv.lk.bd hb
      obtain ⟨h1, h2, opq', u, h3, h4, h5, h6⟩ := key ys hm' hbd h
      have hv1 : Valid T (.f s i :: p) := hv.lk.symm.valid h1
      obtain ⟨hg1, hg2⟩ := hv.get hv1
      refine ⟨hv1, fun base => ?_, opq', u, by rw [← hg1]; exact h3, (hv.lk.get ro ro hv1).trans h4, h5, fun h0 => ?_⟩
      · rw [← hv.lk.addr base hv1, h2, hv.lk.addrS]
      · have a := hg2 h0
        have b := h6 (by rw [hg1]; exact h0)
        exact a.trans b
    | false =>
      simp only [getK, cond_false] at h
      obtain ⟨xs, e, h⟩ := mSt_some h
      obtain ⟨ys, rfl, rfl⟩ := er_st_inv e
      exact key ys hm hb h
  | .d s :: p, opq, ro, T, K, hm, hb, h => by
    simp only [getK] at h
    rcases mPt_some h with ⟨_, h⟩ | ⟨r', hd, x, e, h⟩
    · cases h
    · obtain ⟨hd, y, rfl, rfl⟩ := er_pt_inv e
      obtain ⟨h1, h2, h3⟩ := getK_ok p false _ y K hm.2 hb h
      exact ⟨h1, fun base => by rw [addr, addrS, h2], h3⟩
  | .i e n :: p, opq, ro, T, K, hm, hb, h => by
    simp only [getK] at h
    obtain ⟨r', hd, xs, e', h⟩ := mSl_some h
    obtain ⟨hd, ys, rfl, rfl⟩ := er_sl_inv e'
    rw [getD_er] at h
    obtain ⟨h1, h2, h3⟩ := getK_ok p true _ _ K (memL_iff.1 hm.2.2 _ (getD_mem hb.1)) hb.2 h
    exact ⟨⟨hb.1, h1⟩, fun base => by rw [addr, addrS, h2, if_pos hb.1]; rfl, h3⟩
theorem take_set_self {β : Type} (xs : List β) (i : Nat) (x : β) : (xs.set i x).take i = xs.take i := by
  apply List.ext_getElem?
  intro j
  simp only [List.getElem?_take, List.getElem?_set]
  split
  · rw [if_neg (by omega)]
  · rfl
theorem getD_set_self {xs : List LT} {i : Nat} {x d : LT} (h : i < xs.length) : (xs.set i x).getD i d = x := by
  rw [List.getD_eq_getElem?_getD, List.getElem?_set_self h]
  rfl
theorem memL_set {xs : List LT} {i : Nat} {x : LT} (h : MemL w xs) (hx : Mem w x) : MemL w (xs.set i x) := memL_iff.2 fun y hy => by
  rcases List.mem_or_eq_of_mem_set hy with h' | rfl
  · exact memL_iff.1 h _ h'
  · exact hx
mutual
theorem noMem_all : ∀ (t : LT), noMem (er t) = true → all t = []
  | .fl _, _ => rfl
  | .st xs, h => by rw [er_st, noMem] at h; exact noMemL_all xs h
  | .sl .., h => by rw [er_sl] at h; cases h
  | .pt .., h => by rw [er_pt] at h; cases h
  | .cl .., h => by rw [er_cl] at h; cases h
  | .dead _, _ => rfl
theorem noMemL_all : ∀ (ts : List LT), noMemL (ts.map er) = true → allL ts = []
  | [], _ => rfl
  | x :: xs, h => by
    simp only [List.map_cons, noMemL, Bool.and_eq_true] at h
    rw [allL, noMem_all x h.1, noMemL_all xs h.2]; rfl
end
/-- A part is written: the tree behind it. -/
theorem putK_ok (U : LT) : ∀ (p : List Stp) (opq : Bool) (T : LT) (K : TV → Option α), Mem w T → Bd T p → (opq = true → p = [] → (cells U).length = (cells T).length) → putK P opq (er T) p (er U) K = some r →
    ∃ T2 T', K (er T') = some r ∧ Vk false T T2 ∧ Mem w T2 ∧ Valid T2 p ∧ put default T2 p U = some T' ∧ (cells U).length = (cells (get default false T2 p).2).length ∧ (get default false T2 p).1 = false ∧ (∀ base, addr base T2 p = addrS P base T2 p) ∧ Flt U T2 p
  | [], opq, T, K, hm, hb, hs, h => by
    refine ⟨T, U, ?_, Vk.refl T, hm, trivial, rfl, ?_, rfl, fun _ => rfl, by simp [Flt]⟩
    all_goals
      cases opq with
      | true => first | exact hs rfl rfl | exact h
      | false =>
        simp only [putK, Bool.false_or, csz_er] at h
        cases hc : ((cells T).length == (cells U).length) with
        | false => rw [hc] at h; cases h
        | true => first | exact (by simpa using hc : (cells T).length = (cells U).length).symm | (rw [hc] at h; exact h)
  | .f s i :: p, opq, T, K, hm, hb, hs, h => by
    have key : ∀ ys : List LT, MemL w ys → Bd (ys.getD i (.dead default)) p → (bif fieldOk P s i (ys.map er) then putK P false ((ys.map er).getD i (.dead ())) p (er U) fun x => K (.st ((ys.map er).set i x)) else none) = some r →
        ∃ T2 T', K (er T') = some r ∧ Vk false (.st ys) T2 ∧ Mem w T2 ∧ Valid T2 (.f s i :: p) ∧ put default T2 (.f s i :: p) U = some T' ∧ (cells U).length = (cells (get default false T2 (.f s i :: p)).2).length ∧ (get default false T2 (.f s i :: p)).1 = false ∧ (∀ base, addr base T2 (.f s i :: p) = addrS P base T2 (.f s i :: p)) ∧ Flt U T2 (.f s i :: p) := by
      intro ys hm hb h
      cases hf : fieldOk P s i (ys.map er) with
      | false => rw [hf] at h; cases h
      | true =>
        rw [hf] at h
        obtain ⟨hi, ho⟩ := fieldOk_spec hf
        rw [getD_er] at h
        obtain ⟨y2, y', h1, h2, h3, h4, h5, h6, h7, h8, h9⟩ := putK_ok U p false _ _ (memL_iff.1 hm _ (getD_mem hi)) hb (fun h => by cases h) h
        refine ⟨.st (ys.set i y2), .st (ys.set i y'), by rw [er_st, map_set_er]; exact h1, ⟨_, rfl, (VkL.refl ys).set i y2 h2⟩, memL_set hm h3, ⟨by simpa using hi, by rw [getD_set_self hi]; exact h4⟩, ?_, ?_, ?_, fun base => ?_, by simp only [Flt, getD_set_self hi]; exact h9⟩
        · rw [put, getD_set_self hi, h5]; simp
        · rw [get, getD_set_self hi]; exact h6
        · rw [get, getD_set_self hi]; exact h7
        · rw [addr, addrS, getD_set_self hi, take_set_self, ho, h8]; rfl
    cases opq with
    | true =>
      simp only [putK, cond_true] at h
      obtain ⟨T1, h, hv, hm'⟩ := view_ok _ hm h
      obtain ⟨xs, e, h⟩ := mSt_some h
      obtain ⟨ys, rfl, rfl⟩ := er_st_inv e
      have hbd : Bd (.st ys) (.f s i :: p) := hv.lk.bd hb
      obtain ⟨T2, T', h1, h2, h3⟩ := key ys hm' hbd h
      exact ⟨T2, T', h1, hv.trans h2, h3⟩
    | false =>
      simp only [putK, cond_false] at h
      obtain ⟨xs, e, h⟩ := mSt_some h
      obtain ⟨ys, rfl, rfl⟩ := er_st_inv e
      exact key ys hm hb h
  | .d s :: p, opq, T, K, hm, hb, hs, h => by
    simp only [putK] at h
    rcases mPt_some h with ⟨_, h⟩ | ⟨r', hd, x, e, h⟩
    · cases h
    · obtain ⟨hd, y, rfl, rfl⟩ := er_pt_inv e
      cases r' with
      | true => cases h
      | false =>
        obtain ⟨y2, y', h1, h2, h3, h4, h5, h6, h7, h8, h9⟩ := putK_ok U p false y _ hm.2 hb (fun h => by cases h) h
        refine ⟨.pt false hd y2, .pt false hd y', h1, ⟨_, rfl, fun _ => h2.lk, fun _ => h2⟩, ⟨by rw [h2.lk.cells]; exact hm.1, h3⟩, h4, by rw [put, h5]; rfl, h6, h7, fun base => by rw [addr, addrS, h8], h9⟩
  | .i e n :: p, opq, T, K, hm, hb, hs, h => by
    simp only [putK] at h
    obtain ⟨r', hd, xs, e', hh⟩ := mSl_some h
    clear h
    obtain ⟨hd, ys, rfl, rfl⟩ := er_sl_inv e'
    cases hc : (r' || p.isEmpty && csz (er U) != P.cellsOf e || !((ekOf P e).m || noMem (er U))) with
    | true => rw [Bool.false_or, hc] at hh; cases hh
    | false =>
      rw [Bool.false_or, hc] at hh
      obtain ⟨hc, hfl⟩ := Bool.or_eq_false_iff.1 hc
      obtain ⟨rfl, hc⟩ := Bool.or_eq_false_iff.1 hc
      have hfl : (ekOf P e).m = false → all U = [] := fun h0 => by
        rw [h0] at hfl
        exact noMem_all U (by simpa using hfl)
      simp only [cond_false] at hh
      rw [getD_er] at hh
      have hn := hb.1
      obtain ⟨y2, y', h1, h2, h3, h4, h5, h6, h7, h8, h9⟩ := putK_ok U p true _ _ (memL_iff.1 hm.2.2 _ (getD_mem hn)) hb.2 (fun _ hp => by
        subst hp
        rw [(hm.2.1 _ (getD_mem hn)).1]
        simpa [csz_er, ekOf] using hc) hh
      refine ⟨.sl false _ hd (ys.set n y2), .sl false _ hd (ys.set n y'), by rw [er_sl, map_set_er]; exact h1, ⟨_, rfl, fun _ => ((VkL.refl ys).set n y2 h2).lk, fun _ => (VkL.refl ys).set n y2 h2⟩, ?_, ⟨by simpa using hn, by rw [getD_set_self hn]; exact h4⟩, ?_, ?_, ?_, fun base => ?_, by simp only [Flt, getD_set_self hn]; exact ⟨hfl, h9⟩⟩
      · have hl := ((VkL.refl ys).set n y2 h2).lk
        refine ⟨by rw [hl.cells, hl.length]; exact hm.1, fun z hz => ?_, memL_set hm.2.2 h3⟩
        rcases List.mem_or_eq_of_mem_set hz with h' | rfl
        · exact hm.2.1 _ h'
        · rw [h2.lk.cells, h2.lk.all]; exact hm.2.1 _ (getD_mem hn)
      · rw [put, getD_set_self hn, h5]; simp
      · rw [get, getD_set_self hn]; exact h6
      · rw [get, getD_set_self hn]; exact h7
      · rw [addr, addrS, getD_set_self hn, List.length_set, if_pos hn, h8]; rfl
/-- A part comes back. -/
theorem putB_ok (U : LT) : ∀ (p : List Stp) (opq : Bool) (T : LT) (K : TV → Option α), Mem w T → Bd T p → (opq = true → p = [] → (cells U).length = (cells T).length) → putB P opq (er T) p (er U) K = some r →
    ∃ T2 T', K (er T') = some r ∧ Vk false T T2 ∧ Mem w T2 ∧ Valid T2 p ∧ put default T2 p U = some T' ∧ (cells U).length = (cells (get default false T2 p).2).length ∧ (get default false T2 p).1 = false ∧ (∀ base, addr base T2 p = addrS P base T2 p) ∧ Flt U T2 p
  | [], opq, T, K, hm, hb, hs, h => by
    refine ⟨T, U, ?_, Vk.refl T, hm, trivial, rfl, ?_, rfl, fun _ => rfl, by simp [Flt]⟩
    all_goals
      cases opq with
      | true => first | exact hs rfl rfl | exact h
      | false =>
        simp only [putB, Bool.false_or, csz_er] at h
        cases hc : ((cells T).length == (cells U).length) with
        | false => rw [hc] at h; cases h
        | true => first | exact (by simpa using hc : (cells T).length = (cells U).length).symm | (rw [hc] at h; exact h)
  | .f s i :: p, opq, T, K, hm, hb, hs, h => by
    have key : ∀ ys : List LT, MemL w ys → Bd (ys.getD i (.dead default)) p → (bif fieldOk P s i (ys.map er) then putB P false ((ys.map er).getD i (.dead ())) p (er U) fun x => K (.st ((ys.map er).set i x)) else none) = some r →
        ∃ T2 T', K (er T') = some r ∧ Vk false (.st ys) T2 ∧ Mem w T2 ∧ Valid T2 (.f s i :: p) ∧ put default T2 (.f s i :: p) U = some T' ∧ (cells U).length = (cells (get default false T2 (.f s i :: p)).2).length ∧ (get default false T2 (.f s i :: p)).1 = false ∧ (∀ base, addr base T2 (.f s i :: p) = addrS P base T2 (.f s i :: p)) ∧ Flt U T2 (.f s i :: p) := by
      intro ys hm hb h
      cases hf : fieldOk P s i (ys.map er) with
      | false => rw [hf] at h; cases h
      | true =>
        rw [hf] at h
        obtain ⟨hi, ho⟩ := fieldOk_spec hf
        rw [getD_er] at h
        obtain ⟨y2, y', h1, h2, h3, h4, h5, h6, h7, h8, h9⟩ := putB_ok U p false _ _ (memL_iff.1 hm _ (getD_mem hi)) hb (fun h => by cases h) h
        refine ⟨.st (ys.set i y2), .st (ys.set i y'), by rw [er_st, map_set_er]; exact h1, ⟨_, rfl, (VkL.refl ys).set i y2 h2⟩, memL_set hm h3, ⟨by simpa using hi, by rw [getD_set_self hi]; exact h4⟩, ?_, ?_, ?_, fun base => ?_, by simp only [Flt, getD_set_self hi]; exact h9⟩
        · rw [put, getD_set_self hi, h5]; simp
        · rw [get, getD_set_self hi]; exact h6
        · rw [get, getD_set_self hi]; exact h7
        · rw [addr, addrS, getD_set_self hi, take_set_self, ho, h8]; rfl
    simp only [putB] at h
    obtain ⟨xs, e, h⟩ := mSt_some h
    obtain ⟨ys, rfl, rfl⟩ := er_st_inv e
    exact key ys hm hb h
  | .d s :: p, opq, T, K, hm, hb, hs, h => by
    simp only [putB] at h
    rcases mPt_some h with ⟨_, h⟩ | ⟨r', hd, x, e, h⟩
    · cases h
    · obtain ⟨hd, y, rfl, rfl⟩ := er_pt_inv e
      cases r' with
      | true => cases h
      | false =>
        obtain ⟨y2, y', h1, h2, h3, h4, h5, h6, h7, h8, h9⟩ := putB_ok U p false y _ hm.2 hb (fun h => by cases h) h
        refine ⟨.pt false hd y2, .pt false hd y', h1, ⟨_, rfl, fun _ => h2.lk, fun _ => h2⟩, ⟨by rw [h2.lk.cells]; exact hm.1, h3⟩, h4, by rw [put, h5]; rfl, h6, h7, fun base => by rw [addr, addrS, h8], h9⟩
  | .i e n :: p, opq, T, K, hm, hb, hs, h => by
    simp only [putB] at h
    obtain ⟨r', hd, xs, e', hh⟩ := mSl_some h
    clear h
    obtain ⟨hd, ys, rfl, rfl⟩ := er_sl_inv e'
    cases hc : (r' || p.isEmpty && csz (er U) != P.cellsOf e || !((ekOf P e).m || noMem (er U))) with
    | true => rw [Bool.false_or, hc] at hh; cases hh
    | false =>
      rw [Bool.false_or, hc] at hh
      obtain ⟨hc, hfl⟩ := Bool.or_eq_false_iff.1 hc
      obtain ⟨rfl, hc⟩ := Bool.or_eq_false_iff.1 hc
      have hfl : (ekOf P e).m = false → all U = [] := fun h0 => by
        rw [h0] at hfl
        exact noMem_all U (by simpa using hfl)
      simp only [cond_false] at hh
      rw [getD_er] at hh
      have hn := hb.1
      obtain ⟨y2, y', h1, h2, h3, h4, h5, h6, h7, h8, h9⟩ := putB_ok U p true _ _ (memL_iff.1 hm.2.2 _ (getD_mem hn)) hb.2 (fun _ hp => by
        subst hp
        rw [(hm.2.1 _ (getD_mem hn)).1]
        simpa [csz_er, ekOf] using hc) hh
      refine ⟨.sl false _ hd (ys.set n y2), .sl false _ hd (ys.set n y'), by rw [er_sl, map_set_er]; exact h1, ⟨_, rfl, fun _ => ((VkL.refl ys).set n y2 h2).lk, fun _ => (VkL.refl ys).set n y2 h2⟩, ?_, ⟨by simpa using hn, by rw [getD_set_self hn]; exact h4⟩, ?_, ?_, ?_, fun base => ?_, by simp only [Flt, getD_set_self hn]; exact ⟨hfl, h9⟩⟩
      · have hl := ((VkL.refl ys).set n y2 h2).lk
        refine ⟨by rw [hl.cells, hl.length]; exact hm.1, fun z hz => ?_, memL_set hm.2.2 h3⟩
        rcases List.mem_or_eq_of_mem_set hz with h' | rfl
        · exact hm.2.1 _ h'
        · rw [h2.lk.cells, h2.lk.all]; exact hm.2.1 _ (getD_mem hn)
      · rw [put, getD_set_self hn, h5]; simp
      · rw [get, getD_set_self hn]; exact h6
      · rw [get, getD_set_self hn]; exact h7
      · rw [addr, addrS, getD_set_self hn, List.length_set, if_pos hn, h8]; rfl
end Go.Tree

/- Trees of values in memory: what a written tree leaves as it was. -/
namespace Go.Tree
set_option linter.unusedSectionVars false
set_option linter.unusedVariables false
set_option linter.unusedSimpArgs false
variable {P : Program} {w : World}
variable [Pol]
def isSt : LT → Bool
  | .st _ => true
  | _ => false
theorem getD_set_ne {xs : List LT} {i j : Nat} {x d : LT} (h : i ≠ j) : (xs.set i x).getD j d = xs.getD j d := by
  simp only [List.getD_eq_getElem?_getD, List.getElem?_set_ne h]
/-- What stands elsewhere, or above, leads where it led. -/
theorem put_keep (u' : LT) : ∀ (p : List Stp) (t T' : LT), put default t p u' = some T' → ∀ (q : List Stp), Valid t q → above p q = false →
    Valid T' q ∧ (isSt (get default false t q).2 = false → valOf (get default false T' q).2 = valOf (get default false t q).2 ∧ isSt (get default false T' q).2 = false) ∧ (above q p = false → (get default false T' q).2 = (get default false t q).2)
  | [], t, T', h, q, hv, ha => by simp [above] at ha
  | .f s i :: p, .st xs, T', h, q, hv, ha => by
    simp only [put, Option.map_eq_some_iff] at h
    obtain ⟨x', h, rfl⟩ := h
    match q, hv, ha with
    | [], _, _ => exact ⟨trivial, (fun h => by simp [get, isSt] at h), fun h => by simp [above] at h⟩
    | .f s' j :: q, hv, ha =>
      by_cases c : i = j
      · subst c
        simp only [above, beq_self_eq_true, Bool.true_and] at ha
        obtain ⟨h1, h2, h3⟩ := put_keep u' p _ x' h q hv.2 ha
        refine ⟨⟨by simpa using hv.1, by rw [getD_set_self hv.1]; exact h1⟩, ?_, ?_⟩
        · simp only [get, getD_set_self hv.1]; exact h2
        · simp only [get, getD_set_self hv.1, above, beq_self_eq_true, Bool.true_and]; exact h3
      · refine ⟨⟨by simpa using hv.1, by rw [getD_set_ne c]; exact hv.2⟩, ?_, ?_⟩
        · simp only [get, getD_set_ne c]; exact fun h => ⟨trivial, h⟩
        · simp only [get, getD_set_ne c]; exact fun _ => trivial
  | .d s :: p, .pt false hd x, T', h, q, hv, ha => by
    simp only [put, Option.map_eq_some_iff] at h
    obtain ⟨x', h, rfl⟩ := h
    match q, hv, ha with
    | [], _, _ => exact ⟨trivial, fun _ => ⟨rfl, rfl⟩, fun h => by simp [above] at h⟩
    | .d s' :: q, hv, ha =>
      simp only [above] at ha
      exact put_keep u' p _ x' h q hv ha
  | .i s n :: p, .sl false k hd xs, T', h, q, hv, ha => by
    simp only [put, Option.map_eq_some_iff] at h
    obtain ⟨x', h, rfl⟩ := h
    match q, hv, ha with
    | [], _, _ => exact ⟨trivial, fun _ => ⟨rfl, rfl⟩, fun h => by simp [above] at h⟩
    | .i s' j :: q, hv, ha =>
      simp only [above] at ha
      by_cases c : n = j
      · subst c
        obtain ⟨h1, h2, h3⟩ := put_keep u' p _ x' h q hv.2 ha
        refine ⟨⟨by simpa using hv.1, by rw [getD_set_self hv.1]; exact h1⟩, ?_, ?_⟩
        · simp only [get, getD_set_self hv.1, Bool.or_false]; exact h2
        · simp only [get, getD_set_self hv.1, Bool.or_false, above]; exact h3
      · refine ⟨⟨by simpa using hv.1, by rw [getD_set_ne c]; exact hv.2⟩, ?_, ?_⟩
        · simp only [get, getD_set_ne c]; exact fun h => ⟨trivial, h⟩
        · simp only [get, getD_set_ne c]; exact fun _ => trivial
  | .f _ _ :: _, .fl _, _, hp, _, _, _ | .f _ _ :: _, .sl .., _, hp, _, _, _ | .f _ _ :: _, .pt .., _, hp, _, _, _ | .f _ _ :: _, .cl .., _, hp, _, _, _ | .f _ _ :: _, .dead _, _, hp, _, _, _
  | .d _ :: _, .fl _, _, hp, _, _, _ | .d _ :: _, .sl .., _, hp, _, _, _ | .d _ :: _, .st .., _, hp, _, _, _ | .d _ :: _, .cl .., _, hp, _, _, _ | .d _ :: _, .dead _, _, hp, _, _, _ | .d _ :: _, .pt true _ _, _, hp, _, _, _
  | .i _ _ :: _, .fl _, _, hp, _, _, _ | .i _ _ :: _, .st .., _, hp, _, _, _ | .i _ _ :: _, .pt .., _, hp, _, _, _ | .i _ _ :: _, .cl .., _, hp, _, _, _ | .i _ _ :: _, .dead _, _, hp, _, _, _ | .i _ _ :: _, .sl true _ _ _, _, hp, _, _, _ => by simp [put] at hp
theorem addrS_fs (P : Program) (t : LT) (s : TypeId) (i : Nat) (q : List Stp) (base : Option (Nat × Nat)) : ∃ t', addrS P base t (.f s i :: q) = addrS P (base.map fun x => (x.1, x.2 + (offs P s i).getD 0)) t' q := by
  cases t <;> exact ⟨_, rfl⟩
theorem addrS_tail (P : Program) : ∀ (q : List Stp) (t t' : LT) (base : Option (Nat × Nat)), tailF [] q = true → addrS P base t q = addrS P base t' q
  | [], t, t', base, _ => by cases t <;> cases t' <;> rfl
  | .f s i :: q, t, t', base, h => by
    obtain ⟨u, e⟩ := addrS_fs P t s i q base
    obtain ⟨u', e'⟩ := addrS_fs P t' s i q base
    rw [e, e']
    exact addrS_tail P q u u' _ h
  | .d _ :: q, t, t', base, h => by simp [tailF] at h
  | .i _ _ :: q, t, t', base, h => by simp [tailF] at h
theorem tailF_both : ∀ (p q : List Stp), above p q = true → above q p = true → tailF p q = true
  | [], [], _, _ => rfl
  | [], _ :: _, _, h => by simp [above] at h
  | _ :: _, [], h, _ => by simp [above] at h
  | .f _ i :: p, .f _ j :: q, h, g => by
    simp only [above, Bool.and_eq_true, tailF] at h g ⊢
    exact ⟨h.1, tailF_both p q h.2 g.2⟩
  | .d _ :: p, .d _ :: q, h, g => by
    simp only [above, tailF] at h g ⊢
    exact tailF_both p q h g
  | .i _ _ :: p, .i _ _ :: q, h, g => by
    simp only [above, tailF] at h g ⊢
    exact tailF_both p q h g
  | .f _ _ :: _, .d _ :: _, h, _ | .f _ _ :: _, .i _ _ :: _, h, _ | .d _ :: _, .f _ _ :: _, h, _ | .d _ :: _, .i _ _ :: _, h, _ | .i _ _ :: _, .f _ _ :: _, h, _ | .i _ _ :: _, .d _ :: _, h, _ => by simp [above] at h
/-- An address that is not strictly below what is written, or below it by fields alone, is as it was. -/
theorem put_addrS (u' : LT) : ∀ (p : List Stp) (t T' : LT), put default t p u' = some T' → ∀ (q : List Stp) (base : Option (Nat × Nat)), (above p q = false ∨ tailF p q = true) → addrS P base T' q = addrS P base t q
  | [], t, T', h, q, base, ha => by
    rcases ha with ha | ha
    · simp [above] at ha
    · exact addrS_tail P q _ _ base ha
  | .f s i :: p, .st xs, T', h, q, base, ha => by
    simp only [put, Option.map_eq_some_iff] at h
    obtain ⟨x', h, rfl⟩ := h
    match q, ha with
    | [], _ => rfl
    | .f s' j :: q, ha =>
      simp only [addrS]
      by_cases c : i = j
      · subst c
        simp only [above, tailF, beq_self_eq_true, Bool.true_and] at ha
        by_cases hi : i < xs.length
        · rw [getD_set_self hi]
          exact put_addrS u' p _ x' h q _ ha
        · rw [List.set_eq_of_length_le (by omega)]
      · rw [getD_set_ne c]
    | .d _ :: _, _ => rfl
    | .i _ _ :: _, _ => rfl
  | .d s :: p, .pt false hd x, T', h, q, base, ha => by
    simp only [put, Option.map_eq_some_iff] at h
    obtain ⟨x', h, rfl⟩ := h
    match q, ha with
    | [], _ => rfl
    | .d s' :: q, ha =>
      simp only [above, tailF] at ha
      simp only [addrS]
      exact put_addrS u' p _ x' h q _ ha
    | .f _ _ :: _, _ => rfl
    | .i _ _ :: _, _ => rfl
  | .i s n :: p, .sl false k hd xs, T', h, q, base, ha => by
    simp only [put, Option.map_eq_some_iff] at h
    obtain ⟨x', h, rfl⟩ := h
    match q, ha with
    | [], _ => rfl
    | .i s' j :: q, ha =>
      simp only [above, tailF] at ha
      simp only [addrS, List.length_set]
      by_cases hj : j < xs.length
      · rw [if_pos hj, if_pos hj]
        by_cases c : n = j
        · subst c
          rw [getD_set_self hj]
          exact put_addrS u' p _ x' h q _ ha
        · rw [getD_set_ne c]
      · rw [if_neg hj, if_neg hj]
    | .f _ _ :: _, _ => rfl
    | .d _ :: _, _ => rfl
  | .f _ _ :: _, .fl _, _, hp, _, _, _ | .f _ _ :: _, .sl .., _, hp, _, _, _ | .f _ _ :: _, .pt .., _, hp, _, _, _ | .f _ _ :: _, .cl .., _, hp, _, _, _ | .f _ _ :: _, .dead _, _, hp, _, _, _
  | .d _ :: _, .fl _, _, hp, _, _, _ | .d _ :: _, .sl .., _, hp, _, _, _ | .d _ :: _, .st .., _, hp, _, _, _ | .d _ :: _, .cl .., _, hp, _, _, _ | .d _ :: _, .dead _, _, hp, _, _, _ | .d _ :: _, .pt true _ _, _, hp, _, _, _
  | .i _ _ :: _, .fl _, _, hp, _, _, _ | .i _ _ :: _, .st .., _, hp, _, _, _ | .i _ _ :: _, .pt .., _, hp, _, _, _ | .i _ _ :: _, .cl .., _, hp, _, _, _ | .i _ _ :: _, .dead _, _, hp, _, _, _ | .i _ _ :: _, .sl true _ _ _, _, hp, _, _, _ => by simp [put] at hp
/-- A pointer's own word, where it is there or was taken away. -/
def hdP : LT → Option Value
  | .pt _ h _ => some h
  | .dead (.pointer a) => some (.pointer a)
  | _ => none
theorem addrS_hd (P : Program) {t : LT} {s : TypeId} {q : List Stp} {base : Option (Nat × Nat)} {x : Nat × Nat} (h : addrS P base t (.d s :: q) = some x) (hq : tailF [] q = true) : ∃ v, hdP t = some v ∧ addrS P (plc v) (.dead default) q = some x := by
  cases t with
  | pt ro hd y =>
    simp only [addrS] at h
    exact ⟨hd, rfl, by rw [addrS_tail P q _ y _ hq]; exact h⟩
  | dead v =>
    cases v with
    | pointer a => exact ⟨_, rfl, h⟩
    | _ => cases h
  | _ => cases h
theorem addrS_hd' (P : Program) {t : LT} {s : TypeId} {q : List Stp} {base : Option (Nat × Nat)} {x : Nat × Nat} {v : Value} (hv : hdP t = some v) (h : addrS P (plc v) (.dead default) q = some x) (hq : tailF [] q = true) : addrS P base t (.d s :: q) = some x := by
  cases t with
  | pt ro hd y =>
    cases hv
    simp only [addrS]
    rw [addrS_tail P q y (.dead default) _ hq]; exact h
  | dead u =>
    cases u with
    | pointer a => cases hv; exact h
    | _ => cases hv
  | _ => cases hv
theorem tailD_nil {q : List Stp} (h : tailD [] q = true) : tailF [] q = true ∨ ∃ s q', q = .d s :: q' ∧ tailF [] q' = true := by
  cases q with
  | nil => exact .inl rfl
  | cons x q =>
    cases x with
    | d s => exact .inr ⟨s, q, rfl, h⟩
    | _ => exact .inl h
/-- The same for an address through a pointer that is put there. -/
theorem put_addrD (u' : LT) : ∀ (p : List Stp) (t T' : LT), put default t p u' = some T' → (∀ v, hdP (get default false t p).2 = some v → hdP u' = some v) → ∀ (q : List Stp) (base : Option (Nat × Nat)) (x : Nat × Nat), (above p q = false ∨ tailD p q = true) → addrS P base t q = some x → addrS P base T' q = some x
  | [], t, T', h, hv, q, base, x, ha, hx => by
    simp only [put, Option.some.injEq] at h
    subst h
    rcases ha with ha | ha
    · simp [above] at ha
    · rcases tailD_nil ha with hq | ⟨s, q', rfl, hq⟩
      · rw [addrS_tail P q u' t base hq]; exact hx
      · obtain ⟨v, h1, h2⟩ := addrS_hd P hx hq
        exact addrS_hd' P (hv v h1) h2 hq
  | .f s i :: p, .st xs, T', h, hv, q, base, x, ha, hx => by
    simp only [put, Option.map_eq_some_iff] at h
    obtain ⟨x', h, rfl⟩ := h
    match q, ha, hx with
    | [], _, hx => exact hx
    | .f s' j :: q, ha, hx =>
      simp only [addrS] at hx ⊢
      by_cases c : i = j
      · subst c
        simp only [above, tailD, beq_self_eq_true, Bool.true_and] at ha
        by_cases hi : i < xs.length
        · rw [getD_set_self hi]
          exact put_addrD u' p _ x' h hv q _ x ha hx
        · rw [List.set_eq_of_length_le (by omega)]; exact hx
      · rw [getD_set_ne c]; exact hx
    | .d _ :: _, _, hx => cases hx
    | .i _ _ :: _, _, hx => cases hx
  | .d s :: p, .pt false hd y, T', h, hv, q, base, x, ha, hx => by
    simp only [put, Option.map_eq_some_iff] at h
    obtain ⟨x', h, rfl⟩ := h
    match q, ha, hx with
    | [], _, hx => exact hx
    | .d s' :: q, ha, hx =>
      simp only [above, tailD] at ha
      simp only [addrS] at hx ⊢
      exact put_addrD u' p _ x' h hv q _ x ha hx
    | .f _ _ :: _, _, hx => exact hx
    | .i _ _ :: _, _, hx => cases hx
  | .i s n :: p, .sl false k hd xs, T', h, hv, q, base, x, ha, hx => by
    simp only [put, Option.map_eq_some_iff] at h
    obtain ⟨x', h, rfl⟩ := h
    match q, ha, hx with
    | [], _, hx => exact hx
    | .i s' j :: q, ha, hx =>
      simp only [above, tailD] at ha
      simp only [addrS, List.length_set] at hx ⊢
      by_cases hj : j < xs.length
      · rw [if_pos hj] at hx ⊢
        by_cases c : n = j
        · subst c
          rw [getD_set_self hj]
          exact put_addrD u' p _ x' h hv q _ x ha hx
        · rw [getD_set_ne c]; exact hx
      · rw [if_neg hj] at hx; cases hx
    | .f _ _ :: _, _, hx => exact hx
    | .d _ :: _, _, hx => cases hx
  | .f _ _ :: _, .fl _, _, hp, _, _, _, _, _, _ | .f _ _ :: _, .sl .., _, hp, _, _, _, _, _, _ | .f _ _ :: _, .pt .., _, hp, _, _, _, _, _, _ | .f _ _ :: _, .cl .., _, hp, _, _, _, _, _, _ | .f _ _ :: _, .dead _, _, hp, _, _, _, _, _, _
  | .d _ :: _, .fl _, _, hp, _, _, _, _, _, _ | .d _ :: _, .sl .., _, hp, _, _, _, _, _, _ | .d _ :: _, .st .., _, hp, _, _, _, _, _, _ | .d _ :: _, .cl .., _, hp, _, _, _, _, _, _ | .d _ :: _, .dead _, _, hp, _, _, _, _, _, _ | .d _ :: _, .pt true _ _, _, hp, _, _, _, _, _, _
  | .i _ _ :: _, .fl _, _, hp, _, _, _, _, _, _ | .i _ _ :: _, .st .., _, hp, _, _, _, _, _, _ | .i _ _ :: _, .pt .., _, hp, _, _, _, _, _, _ | .i _ _ :: _, .cl .., _, hp, _, _, _, _, _, _ | .i _ _ :: _, .dead _, _, hp, _, _, _, _, _, _ | .i _ _ :: _, .sl true _ _ _, _, hp, _, _, _, _, _, _ => by simp [put] at hp
theorem hdP_lk {t u : LT} (h : Lk t u) {v : Value} (hv : hdP t = some v) : hdP u = some v := by
  cases t with
  | pt ro hd x => obtain ⟨_, y, e, _⟩ := h; rw [e]; exact hv
  | dead w => rw [show u = .dead w from h]; exact hv
  | _ => cases hv
/-- A part is put where one of the same cells stood: nothing is written. -/
theorem put_same {u' : LT} (hu : Mem w u') : ∀ (p : List Stp) (t T' : LT), put default t p u' = some T' → Valid t p → Flt u' t p → Mem w t → cells u' = cells (get default false t p).2 → Mem w T' ∧ cells T' = cells t
  | [], t, T', h, _, _, _, hc => by
    simp only [put, Option.some.injEq] at h
    subst h
    exact ⟨hu, hc⟩
  | .f s i :: p, .st xs, T', h, hv, hfl, hm, hc => by
    simp only [put, Option.map_eq_some_iff] at h
    obtain ⟨x', h, rfl⟩ := h
    obtain ⟨h1, h2⟩ := put_same hu p _ x' h hv.2 hfl (memL_iff.1 hm _ (getD_mem hv.1)) hc
    obtain ⟨A, x, B, hxs, hA, hA', hx, hset⟩ := split_at xs i (.dead default) hv.1
    refine ⟨memL_set hm h1, ?_⟩
    rw [hx] at h2
    rw [hset]
    simp [cells, hxs, cellsL_append, cellsL, h2]
  | .d s :: p, .pt false hd x, T', h, hv, hfl, hm, hc => by
    simp only [put, Option.map_eq_some_iff] at h
    obtain ⟨x', h, rfl⟩ := h
    obtain ⟨h1, h2⟩ := put_same hu p _ x' h hv hfl hm.2 hc
    exact ⟨⟨by rw [h2]; exact hm.1, h1⟩, rfl⟩
  | .i s n :: p, .sl false k hd xs, T', h, hv, hfl, hm, hc => by
    simp only [put, Option.map_eq_some_iff] at h
    obtain ⟨x', h, rfl⟩ := h
    simp only [get, Bool.or_false] at hc
    obtain ⟨h1, h2⟩ := put_same hu p _ x' h hv.2 hfl.2 (memL_iff.1 hm.2.2 _ (getD_mem hv.1)) hc
    obtain ⟨A, x, B, hxs, hA, hA', hx, hset⟩ := split_at xs n (.dead default) hv.1
    refine ⟨⟨?_, fun z hz => ?_, memL_set hm.2.2 h1⟩, rfl⟩
    · have e : cellsL (xs.set n x') = cellsL xs := by
        rw [hx] at h2
        rw [hset]
        simp [hxs, cellsL_append, cellsL, h2]
      rw [e, List.length_set]; exact hm.1
    · rcases List.mem_or_eq_of_mem_set hz with h' | rfl
      · exact hm.2.1 _ h'
      · rw [h2]; exact ⟨(hm.2.1 _ (getD_mem hv.1)).1, fun h0 => all_put_nil h ((hm.2.1 _ (getD_mem hv.1)).2 h0) (hfl.1 h0)⟩
  | .f _ _ :: _, .fl _, _, hp, _, _, _, _ | .f _ _ :: _, .sl .., _, hp, _, _, _, _ | .f _ _ :: _, .pt .., _, hp, _, _, _, _ | .f _ _ :: _, .cl .., _, hp, _, _, _, _ | .f _ _ :: _, .dead _, _, hp, _, _, _, _
  | .d _ :: _, .fl _, _, hp, _, _, _, _ | .d _ :: _, .sl .., _, hp, _, _, _, _ | .d _ :: _, .st .., _, hp, _, _, _, _ | .d _ :: _, .cl .., _, hp, _, _, _, _ | .d _ :: _, .dead _, _, hp, _, _, _, _ | .d _ :: _, .pt true _ _, _, hp, _, _, _, _
  | .i _ _ :: _, .fl _, _, hp, _, _, _, _ | .i _ _ :: _, .st .., _, hp, _, _, _, _ | .i _ _ :: _, .pt .., _, hp, _, _, _, _ | .i _ _ :: _, .cl .., _, hp, _, _, _, _ | .i _ _ :: _, .dead _, _, hp, _, _, _, _ | .i _ _ :: _, .sl true _ _ _, _, hp, _, _, _, _ => by simp [put] at hp
/-- At the very place. -/
theorem put_at (u' : LT) : ∀ (p : List Stp) (t T' : LT), put default t p u' = some T' → Valid t p → Valid T' p ∧ (get default false T' p) = (false, u')
  | [], t, T', h, _ => by
    simp only [put, Option.some.injEq] at h
    subst h
    exact ⟨trivial, rfl⟩
  | .f s i :: p, .st xs, T', h, hv => by
    simp only [put, Option.map_eq_some_iff] at h
    obtain ⟨x', h, rfl⟩ := h
    obtain ⟨h1, h2⟩ := put_at u' p _ x' h hv.2
    exact ⟨⟨by simpa using hv.1, by rw [getD_set_self hv.1]; exact h1⟩, by rw [get, getD_set_self hv.1]; exact h2⟩
  | .d s :: p, .pt false hd x, T', h, hv => by
    simp only [put, Option.map_eq_some_iff] at h
    obtain ⟨x', h, rfl⟩ := h
    exact put_at u' p _ x' h hv
  | .i s n :: p, .sl false k hd xs, T', h, hv => by
    simp only [put, Option.map_eq_some_iff] at h
    obtain ⟨x', h, rfl⟩ := h
    obtain ⟨h1, h2⟩ := put_at u' p _ x' h hv.2
    exact ⟨⟨by simpa using hv.1, by rw [getD_set_self hv.1]; exact h1⟩, by rw [get, getD_set_self hv.1]; exact h2⟩
  | .f _ _ :: _, .fl _, _, hp, _ | .f _ _ :: _, .sl .., _, hp, _ | .f _ _ :: _, .pt .., _, hp, _ | .f _ _ :: _, .cl .., _, hp, _ | .f _ _ :: _, .dead _, _, hp, _
  | .d _ :: _, .fl _, _, hp, _ | .d _ :: _, .sl .., _, hp, _ | .d _ :: _, .st .., _, hp, _ | .d _ :: _, .cl .., _, hp, _ | .d _ :: _, .dead _, _, hp, _ | .d _ :: _, .pt true _ _, _, hp, _
  | .i _ _ :: _, .fl _, _, hp, _ | .i _ _ :: _, .st .., _, hp, _ | .i _ _ :: _, .pt .., _, hp, _ | .i _ _ :: _, .cl .., _, hp, _ | .i _ _ :: _, .dead _, _, hp, _ | .i _ _ :: _, .sl true _ _ _, _, hp, _ => by simp [put] at hp
/-- Where one of the same value is put, and what is read stands not below it. -/
theorem put_same_keep {u' : LT} : ∀ (p : List Stp) (t T' : LT), put default t p u' = some T' → Valid t p → valOf u' = valOf (get default false t p).2 → isSt u' = isSt (get default false t p).2 →
    ∀ (q : List Stp), Valid t q → (above p q = false ∨ above q p = true) → isSt (get default false t q).2 = false → Valid T' q ∧ valOf (get default false T' q).2 = valOf (get default false t q).2 ∧ isSt (get default false T' q).2 = false
  | [], t, T', h, _, hc, hs, q, hv, ha, hn => by
    simp only [put, Option.some.injEq] at h
    subst h
    rcases ha with ha | ha
    · simp [above] at ha
    · match q, ha with
      | [], _ => exact ⟨trivial, hc, hs.trans hn⟩
  | .f s i :: p, .st xs, T', h, hvp, hc, hs, q, hv, ha, hn => by
    simp only [put, Option.map_eq_some_iff] at h
    obtain ⟨x', h, rfl⟩ := h
    match q, hv, ha, hn with
    | [], _, _, hn => cases hn
    | .f s' j :: q, hv, ha, hn =>
      by_cases c : i = j
      · subst c
        simp only [above, beq_self_eq_true, Bool.true_and] at ha
        obtain ⟨h1, h2, h3⟩ := put_same_keep p _ x' h hvp.2 hc hs q hv.2 ha hn
        exact ⟨⟨by simpa using hv.1, by rw [getD_set_self hv.1]; exact h1⟩, by simp only [get, getD_set_self hv.1]; exact h2, by simp only [get, getD_set_self hv.1]; exact h3⟩
      · exact ⟨⟨by simpa using hv.1, by rw [getD_set_ne c]; exact hv.2⟩, by simp only [get, getD_set_ne c], by simp only [get, getD_set_ne c]; exact hn⟩
  | .d s :: p, .pt false hd x, T', h, hvp, hc, hs, q, hv, ha, hn => by
    simp only [put, Option.map_eq_some_iff] at h
    obtain ⟨x', h, rfl⟩ := h
    match q, hv, ha, hn with
    | [], _, _, hn => exact ⟨trivial, rfl, rfl⟩
    | .d s' :: q, hv, ha, hn =>
      simp only [above] at ha
      exact put_same_keep p _ x' h hvp hc hs q hv ha hn
  | .i s n :: p, .sl false k hd xs, T', h, hvp, hc, hs, q, hv, ha, hn => by
    simp only [put, Option.map_eq_some_iff] at h
    obtain ⟨x', h, rfl⟩ := h
    match q, hv, ha, hn with
    | [], _, _, hn => exact ⟨trivial, rfl, rfl⟩
    | .i s' j :: q, hv, ha, hn =>
      simp only [above] at ha
      by_cases c : n = j
      · subst c
        simp only [get, Bool.or_false] at hc hs hn
        obtain ⟨h1, h2, h3⟩ := put_same_keep p _ x' h hvp.2 hc hs q hv.2 ha hn
        exact ⟨⟨by simpa using hv.1, by rw [getD_set_self hv.1]; exact h1⟩, by simp only [get, getD_set_self hv.1, Bool.or_false]; exact h2, by simp only [get, getD_set_self hv.1, Bool.or_false]; exact h3⟩
      · exact ⟨⟨by simpa using hv.1, by rw [getD_set_ne c]; exact hv.2⟩, by simp only [get, getD_set_ne c], by simp only [get, getD_set_ne c]; exact hn⟩
  | .f _ _ :: _, .fl _, _, hp, _, _, _, _, _, _, _ | .f _ _ :: _, .sl .., _, hp, _, _, _, _, _, _, _ | .f _ _ :: _, .pt .., _, hp, _, _, _, _, _, _, _ | .f _ _ :: _, .cl .., _, hp, _, _, _, _, _, _, _ | .f _ _ :: _, .dead _, _, hp, _, _, _, _, _, _, _
  | .d _ :: _, .fl _, _, hp, _, _, _, _, _, _, _ | .d _ :: _, .sl .., _, hp, _, _, _, _, _, _, _ | .d _ :: _, .st .., _, hp, _, _, _, _, _, _, _ | .d _ :: _, .cl .., _, hp, _, _, _, _, _, _, _ | .d _ :: _, .dead _, _, hp, _, _, _, _, _, _, _ | .d _ :: _, .pt true _ _, _, hp, _, _, _, _, _, _, _
  | .i _ _ :: _, .fl _, _, hp, _, _, _, _, _, _, _ | .i _ _ :: _, .st .., _, hp, _, _, _, _, _, _, _ | .i _ _ :: _, .pt .., _, hp, _, _, _, _, _, _, _ | .i _ _ :: _, .cl .., _, hp, _, _, _, _, _, _, _ | .i _ _ :: _, .dead _, _, hp, _, _, _, _, _, _, _ | .i _ _ :: _, .sl true _ _ _, _, hp, _, _, _, _, _, _, _ => by simp [put] at hp
end Go.Tree

/- Trees of values in memory: the slots of a function and the world, told together. -/
namespace Go.Tree
set_option linter.unusedSectionVars false
set_option linter.unusedVariables false
set_option linter.unusedSimpArgs false
variable {P : Program}
variable [Pol]
def erA : AV Value → AV Unit
  | .un => .un
  | .val d t => .val d (er t)
  | .ref r p s ty sn => .ref r p s ty sn
  | .adr r p => .adr r p
  | .tu d ts => .tu d (ts.map er)
def ownA : AV Value → List Nat
  | .val _ t => own t
  | .tu _ ts => ownL ts
  | _ => []
def shrA : AV Value → List Nat
  | .val _ t => shr t
  | .tu _ ts => shrL ts
  | _ => []
def depsA : AV Value → List Nat
  | .val d _ => d
  | .tu d _ => d
  | _ => []
def MemA (w : World) : AV Value → Prop
  | .val _ t => Mem w t
  | .tu _ ts => MemL w ts
  | _ => True
def RefV (P : Program) (ty : TypeId) : Option (Nat × Nat) → Value → Value → Prop
  | none, h, v => v = h
  | some (lo, n), h, v => ∃ A len c k A', h = .slice A len c ∧ lo + n ≤ len ∧ elemSz P ty = some k ∧ v = .slice A' n (c - lo) ∧ (c - lo ≠ 0 → A' = A.map (·.add (lo * k.n)))
def SlotOk (P : Program) (L : List (AV Value)) (v : Value) : AV Value → Prop
  | .un => True
  | .val _ t => v = valOf t
  | .tu _ ts => v = .tuple (ts.map valOf).toArray
  | .ref r p sub ty sn => ∀ deps t, slot L r = .val deps t → Valid t p ∧ RefV P ty sub (valOf (get default false t p).2) v ∧ (sn = false → isSt (get default false t p).2 = false)
  | .adr r p => ∀ deps t, slot L r = .val deps t → ∃ b o, addrS P none t p = some (b, o) ∧ v = .pointer (some ⟨b, o, none⟩)
/-- Of the old world only the blocks F may have turned. -/
structure Fr (w0 : World) (F : List Nat) (w : World) : Prop where
  os : w.os = w0.os
  tape : w.tape = w0.tape
  output : w.output = w0.output
  size : w0.heap.size ≤ w.heap.size
  block : ∀ k, k < w0.heap.size → k ∉ F → w.heap[k]? = w0.heap[k]?
/-- Whose memory is whose. 'X': trees that have been taken out. -/
structure Dj (L : List (AV Value)) (XD : List Nat) (X : List LT) : Prop where
  nd : ∀ i, (ownA (slot L i)).Nodup
  dj : ∀ i j b, b ∈ ownA (slot L i) → b ∈ ownA (slot L j) → i = j
  ss : ∀ i b, b ∈ shrA (slot L i) → b ∉ ownA (slot L i)
  sh : ∀ i j b, b ∈ shrA (slot L i) → b ∈ ownA (slot L j) → j ∈ depsA (slot L i)
  xn : (ownL X).Nodup
  xo : ∀ i b, b ∈ ownL X → b ∉ ownA (slot L i)
  xs : ∀ i b, b ∈ shrA (slot L i) → b ∉ ownL X
  xx : ∀ b, b ∈ shrL X → b ∉ ownL X
  xd : ∀ j b, b ∈ shrL X → b ∈ ownA (slot L j) → j ∈ XD
/-- The blocks of a call: those that it may turn, and those that it sees. -/
structure Fm where
  o : List Nat
  r : List Nat
def Bs (F : Fm) (w0 : World) (b : Nat) : Prop := b ∈ F.r ∨ b ∈ F.o ∨ w0.heap.size ≤ b
structure G (P : Program) (w0 : World) (F : Fm) (nt : Nat) (H : List Value) (L : List (AV Value)) (XD : List Nat) (X : List LT) (a : Act) (w : World) : Prop where
  defers : a.defers = []
  size : a.tmps.size = nt
  len : nt ≤ L.length
  slots : ∀ i, i < nt → SlotOk P L (a.tmps.getD i undef) (slot L i)
  hid : ∀ j v, H[j]? = some v → SlotOk P L v (slot L (nt + j))
  mem : ∀ i, MemA w (slot L i)
  memX : MemL w X
  dj : Dj L XD X
  mine : ∀ i b, b ∈ ownA (slot L i) → b ∈ F.o ∨ w0.heap.size ≤ b
  mineX : ∀ b, b ∈ ownL X → b ∈ F.o ∨ w0.heap.size ≤ b
  fr : Fr w0 F.o w
  sees : ∀ i b, b ∈ shrA (slot L i) → Bs F w0 b
  seesX : ∀ b, b ∈ shrL X → Bs F w0 b

theorem slot_map {η θ : Type} (L : List (AV η)) (g : AV η → AV θ) (hg : g .un = .un) (i : Nat) : slot (L.map g) i = g (slot L i) := by
  simp only [slot, List.getD_eq_getElem?_getD, List.getElem?_map]
  cases L[i]? <;> simp [hg]
theorem slot_set {η : Type} (L : List (AV η)) (i j : Nat) (v : AV η) : slot (L.set i v) j = if i = j ∧ i < L.length then v else slot L j := by
  simp only [slot, List.getD_eq_getElem?_getD, List.getElem?_set]
  by_cases c : i = j
  · subst c
    by_cases hl : i < L.length
    · simp [hl]
    · simp [hl, List.getElem?_eq_none (Nat.le_of_not_lt hl)]
  · simp [c]
theorem slot_lt {η : Type} {L : List (AV η)} {i : Nat} (h : slot L i ≠ .un) : i < L.length := by
  rcases Nat.lt_or_ge i L.length with h' | h'
  · exact h'
  · exact absurd (by simp [slot, List.getD_eq_getElem?_getD, List.getElem?_eq_none h']) h
theorem slot_er (L : List (AV Value)) (i : Nat) : slot (L.map erA) i = erA (slot L i) := slot_map L erA rfl i
theorem killC_un {η : Type} (r : Nat) (p : List Stp) : killC r p (.un : AV η) = .un := rfl
theorem killS_un {η : Type} (r : Nat) : killS r (.un : AV η) = .un := rfl
theorem killW_un {η : Type} (r : Nat) (p : List Stp) : killW r p (.un : AV η) = .un := rfl
theorem killC_er (r : Nat) (p : List Stp) (v : AV Value) : killC r p (erA v) = erA (killC r p v) := by
  cases v <;> simp only [erA, killC] <;> split <;> rfl
theorem killW_er (r : Nat) (p : List Stp) (v : AV Value) : killW r p (erA v) = erA (killW r p v) := by
  cases v <;> simp only [erA, killW] <;> split <;> rfl
theorem killS_er (r : Nat) (v : AV Value) : killS r (erA v) = erA (killS r v) := by
  cases v <;> simp only [erA, killS] <;> split <;> rfl
theorem map_er (L : List (AV Value)) (g : {η : Type} → AV η → AV η) (hg : ∀ v, g (erA v) = erA (g v)) : (L.map erA).map g = (L.map g).map erA := by
  simp only [List.map_map]
  exact List.map_congr_left fun v _ => hg v
theorem putS_er (L : List (AV Value)) (d : Nat) (v : AV Value) : putS (L.map erA) d (erA v) = (putS L d v).map erA := by
  unfold putS
  rw [map_er L (killS d) (killS_er d), List.map_set]
/-- A slot that a kill leaves, is as it was. -/
theorem killC_val {r : Nat} {p : List Stp} {v : AV Value} {d : List Nat} {t : LT} (h : killC r p v = .val d t) : v = .val d t ∧ r ∉ d := by
  cases v <;> simp only [killC] at h <;> (try split at h) <;> (try (cases h; done))
  cases h
  rename_i hc
  exact ⟨rfl, by simpa using hc⟩
theorem killS_val {r : Nat} {v : AV Value} {d : List Nat} {t : LT} (h : killS r v = .val d t) : v = .val d t ∧ r ∉ d := by
  cases v <;> simp only [killS] at h <;> (try split at h) <;> (try (cases h; done))
  cases h
  rename_i hc
  exact ⟨rfl, by simpa using hc⟩
theorem killW_val {r : Nat} {p : List Stp} {v : AV Value} {d : List Nat} {t : LT} (h : killW r p v = .val d t) : v = .val d t ∧ r ∉ d := by
  cases v <;> simp only [killW] at h <;> (try split at h) <;> (try (cases h; done))
  cases h
  rename_i hc
  exact ⟨rfl, by simpa using hc⟩
/-- What a kill does: a slot is emptied, or as it was. -/
def Kills (g : AV Value → AV Value) : Prop := ∀ v, g v = .un ∨ g v = v
theorem kills_C (r : Nat) (p : List Stp) : Kills (killC r p) := fun v => by
  cases v <;> simp only [killC] <;> (try split) <;> simp
theorem kills_W (r : Nat) (p : List Stp) : Kills (killW r p) := fun v => by
  cases v <;> simp only [killW] <;> (try split) <;> simp
theorem kills_S (r : Nat) : Kills (killS r) := fun v => by
  cases v <;> simp only [killS] <;> (try split) <;> simp
theorem Kills.un {g : AV Value → AV Value} (hg : Kills g) : g .un = .un := by rcases hg .un with h | h <;> exact h
theorem Kills.own {g : AV Value → AV Value} (hg : Kills g) {v : AV Value} {b : Nat} (h : b ∈ ownA (g v)) : g v = v ∧ b ∈ ownA v := by
  rcases hg v with h1 | h1
  · rw [h1] at h; cases h
  · rw [h1] at h; exact ⟨h1, h⟩
theorem Kills.shr {g : AV Value → AV Value} (hg : Kills g) {v : AV Value} {b : Nat} (h : b ∈ shrA (g v)) : g v = v ∧ b ∈ shrA v := by
  rcases hg v with h1 | h1
  · rw [h1] at h; cases h
  · rw [h1] at h; exact ⟨h1, h⟩
theorem Kills.mem {g : AV Value → AV Value} (hg : Kills g) {w : World} {v : AV Value} (h : MemA w v) : MemA w (g v) := by
  rcases hg v with h1 | h1
  · rw [h1]; trivial
  · rw [h1]; exact h

theorem Dj.kill {L : List (AV Value)} {XD : List Nat} {X : List LT} {g : AV Value → AV Value} (hg : Kills g) (h : Dj L XD X) : Dj (L.map g) XD X := by
  have e : ∀ i, slot (L.map g) i = g (slot L i) := slot_map L g hg.un
  constructor
  · intro i
    rw [e]
    rcases hg (slot L i) with h1 | h1
    · rw [h1]; exact List.nodup_nil
    · rw [h1]; exact h.nd i
  · intro i j b hi hj
    rw [e] at hi hj
    exact h.dj i j b (hg.own hi).2 (hg.own hj).2
  · intro i b hs ho
    rw [e] at hs ho
    exact h.ss i b (hg.shr hs).2 (hg.own ho).2
  · intro i j b hs ho
    rw [e] at hs ho ⊢
    rw [(hg.shr hs).1]
    exact h.sh i j b (hg.shr hs).2 (hg.own ho).2
  · exact h.xn
  · intro i b hx ho
    rw [e] at ho
    exact h.xo i b hx (hg.own ho).2
  · intro i b hs
    rw [e] at hs
    exact h.xs i b (hg.shr hs).2
  · exact h.xx
  · intro j b hx ho
    rw [e] at ho
    exact h.xd j b hx (hg.own ho).2
/-- A tree that is taken out leads where it led. -/
theorem G.flight' {w0 : World} {F : Fm} {nt : Nat} {H : List Value} {L : List (AV Value)} {XD : List Nat} {X : List LT} {a : Act} {w : World} (g : G P w0 F nt H L XD X a w) {X' : List LT} {w' : World}
    (hm : MemL w' X') (hnd : (ownL X').Nodup) (ho : ∀ b ∈ ownL X', b ∈ ownL X ∨ w.heap.size ≤ b) (hs : ∀ b ∈ shrL X', b ∈ shrL X ∨ b ∈ ownL X ∨ w.heap.size ≤ b) (hxx : ∀ b ∈ shrL X', b ∉ ownL X')
    (hw : ∀ k, k < w.heap.size → k ∉ ownL X → w'.heap[k]? = w.heap[k]?) (hsz : w.heap.size ≤ w'.heap.size) (hos : w'.os = w.os) (htp : w'.tape = w.tape) (hout : w'.output = w.output) : G P w0 F nt H L XD X' a w' := by
  have hlt : ∀ i b, b ∈ ownA (slot L i) ∨ b ∈ shrA (slot L i) → b < w.heap.size := by
    intro i b hb
    have := g.mem i
    cases e : slot L i with
    | val d t =>
      rw [e] at this hb
      exact all_lt t this (hb.elim (own_all t) (shr_all t))
    | tu d ts =>
      rw [e] at this hb
      exact all_ltL ts this (hb.elim (own_allL ts) (shr_allL ts))
    | un => rw [e] at hb; rcases hb with hb | hb <;> cases hb
    | ref => rw [e] at hb; rcases hb with hb | hb <;> cases hb
    | adr => rw [e] at hb; rcases hb with hb | hb <;> cases hb
  have hnx : ∀ i b, b ∈ ownA (slot L i) ∨ b ∈ shrA (slot L i) → b ∉ ownL X := fun i b hb hx => hb.elim (fun h => g.dj.xo i b hx h) (fun h => g.dj.xs i b h hx)
  constructor
  · exact g.defers
  · exact g.size
  · exact g.len
  · exact g.slots
  · exact g.hid
  · intro i
    have := g.mem i
    cases e : slot L i with
    | val d t =>
      rw [e] at this
      exact Mem.congr t (fun b hb => hw b (all_lt t this hb) (hnx i b (by rw [e]; exact all_of t hb))) this
    | tu d ts =>
      rw [e] at this
      exact MemL.congr ts (fun b hb => hw b (all_ltL ts this hb) (hnx i b (by rw [e]; exact all_ofL ts hb))) this
    | un => trivial
    | ref => trivial
    | adr => trivial
  · exact hm
  · refine ⟨g.dj.nd, g.dj.dj, g.dj.ss, g.dj.sh, hnd, fun i b hb hi => ?_, fun i b hb hx => ?_, hxx, fun j b hb hj => ?_⟩
    · rcases ho b hb with h | h
      · exact g.dj.xo i b h hi
      · have := hlt i b (.inl hi); omega
    · rcases ho b hx with h | h
      · exact g.dj.xs i b hb h
      · have := hlt i b (.inr hb); omega
    · rcases hs b hb with h | h | h
      · exact g.dj.xd j b h hj
      · exact absurd hj (g.dj.xo j b h)
      · have := hlt j b (.inl hj); omega
  · exact g.mine
  · intro b hb
    rcases ho b hb with h | h
    · exact g.mineX b h
    · exact .inr (Nat.le_trans g.fr.size h)
  · refine ⟨hos.trans g.fr.os, htp.trans g.fr.tape, hout.trans g.fr.output, Nat.le_trans g.fr.size hsz, fun k hk hF => ?_⟩
    rw [hw k (Nat.lt_of_lt_of_le hk g.fr.size) (fun hx => (g.mineX k hx).elim hF (fun h => by omega))]
    exact g.fr.block k hk hF
  · exact g.sees
  · intro b hb
    rcases hs b hb with h | h | h
    · exact g.seesX b h
    · exact .inr (g.mineX b h)
    · exact .inr (.inr (Nat.le_trans g.fr.size h))
theorem G.flight {w0 : World} {F : Fm} {nt : Nat} {H : List Value} {L : List (AV Value)} {XD : List Nat} {X : List LT} {a : Act} {w : World} (g : G P w0 F nt H L XD X a w) {X' : List LT} {w' : World}
    (hm : MemL w' X') (hnd : (ownL X').Nodup) (ho : ∀ b ∈ ownL X', b ∈ ownL X ∨ w.heap.size ≤ b) (hs : ∀ b ∈ shrL X', b ∈ shrL X ∨ w.heap.size ≤ b) (hxx : ∀ b ∈ shrL X', b ∉ ownL X')
    (hw : ∀ k, k < w.heap.size → k ∉ ownL X → w'.heap[k]? = w.heap[k]?) (hsz : w.heap.size ≤ w'.heap.size) (hos : w'.os = w.os) (htp : w'.tape = w.tape) (hout : w'.output = w.output) : G P w0 F nt H L XD X' a w' :=
  g.flight' hm hnd ho (fun b hb => (hs b hb).imp id .inr) hxx hw hsz hos htp hout
theorem getD_setIf (xs : Array Value) (i j : Nat) (v d : Value) (h : i < xs.size) : (xs.setIfInBounds i v).getD j d = if i = j then v else xs.getD j d := by
  simp only [Array.getD_eq_getD_getElem?, Array.getElem?_setIfInBounds]
  by_cases c : i = j
  · subst c
    simp [h]
  · simp [c]
/-- What has been taken out comes to stand in a slot. -/
theorem G.land {w0 : World} {F : Fm} {nt : Nat} {H : List Value} {L : List (AV Value)} {XD : List Nat} {X : List LT} {a : Act} {w : World} (g : G P w0 F nt H L XD X a w) {d : Nat} (hd : d < nt) {v : Value} {av : AV Value}
    (ho : ownA av = ownL X) (hs : shrA av = shrL X) (hdp : depsA av = XD) (hm : MemA w av) (hv : ∀ L', SlotOk P L' v av) : G P w0 F nt H (putS L d av) [] [] (a.put (some d) v) w := by
  have hdl : d < L.length := Nat.lt_of_lt_of_le hd g.len
  have e : ∀ i, slot (putS L d av) i = if d = i then av else killS d (slot L i) := fun i => by
    rw [putS, slot_set, slot_map L _ (killS_un d)]
    simp [hdl]
  have dk := g.dj.kill (kills_S d)
  have ek : ∀ i, slot (L.map (killS d)) i = killS d (slot L i) := slot_map L _ (killS_un d)
  constructor
  · exact g.defers
  · show (a.tmps.setIfInBounds d v).size = nt
    rw [Array.size_setIfInBounds]; exact g.size
  · rw [putS, List.length_set, List.length_map]; exact g.len
  · intro i hi
    show SlotOk P _ ((a.tmps.setIfInBounds d v).getD i undef) _
    rw [getD_setIf _ _ _ _ _ (by rw [g.size]; exact hd), e]
    by_cases c : d = i
    · rw [if_pos c, if_pos c]; exact hv _
    · rw [if_neg c, if_neg c]
      have h := g.slots i hi
      cases ev : slot L i with
      | un => trivial
      | val dp t => rw [ev] at h; simp only [killS]; split <;> first | trivial | exact h
      | tu dp t => rw [ev] at h; simp only [killS]; split <;> first | trivial | exact h
      | ref r p s ty sn =>
        rw [ev] at h
        simp only [killS]
        split
        · trivial
        · rename_i hr
          intro deps t ht
          rw [e] at ht
          rw [if_neg (by simpa using fun h => hr (by simp [h])), ] at ht
          exact h deps t (killS_val ht).1
      | adr r p =>
        rw [ev] at h
        simp only [killS]
        split
        · trivial
        · rename_i hr
          intro deps t ht
          rw [e] at ht
          rw [if_neg (by simpa using fun h => hr (by simp [h])), ] at ht
          exact h deps t (killS_val ht).1
  · intro j u hj
    rw [e, if_neg (by omega)]
    have h := g.hid j u hj
    generalize nt + j = i at h ⊢
    cases ev : slot L i with
    | un => trivial
    | val dp t => rw [ev] at h; simp only [killS]; split <;> first | trivial | exact h
    | tu dp t => rw [ev] at h; simp only [killS]; split <;> first | trivial | exact h
    | ref r p s ty sn =>
      rw [ev] at h
      simp only [killS]
      split
      · trivial
      · rename_i hr
        intro deps t ht
        rw [e] at ht
        rw [if_neg (by simpa using fun h => hr (by simp [h])), ] at ht
        exact h deps t (killS_val ht).1
    | adr r p =>
      rw [ev] at h
      simp only [killS]
      split
      · trivial
      · rename_i hr
        intro deps t ht
        rw [e] at ht
        rw [if_neg (by simpa using fun h => hr (by simp [h])), ] at ht
        exact h deps t (killS_val ht).1
  · intro i
    rw [e]
    split
    · exact hm
    · exact (kills_S d).mem (g.mem i)
  · trivial
  · refine ⟨fun i => ?_, fun i j b hi hj => ?_, fun i b hi hi' => ?_, fun i j b hi hj => ?_, List.nodup_nil, (fun i b hx => by cases hx), (fun i b _ hx => by cases hx), (fun b hx => by cases hx), (fun j b hx => by cases hx)⟩
    · rw [e]
      split
      · rw [ho]; exact g.dj.xn
      · rw [← ek]; exact dk.nd i
    · rw [e] at hi hj
      split at hi <;> split at hj
      · omega
      · rw [ho] at hi; rw [← ek] at hj; exact absurd hj (dk.xo j b hi)
      · rw [ho] at hj; rw [← ek] at hi; exact absurd hi (dk.xo i b hj)
      · rw [← ek] at hi hj; exact dk.dj i j b hi hj
    · rw [e] at hi hi'
      split at hi
      · rename_i c; rw [if_pos c, ho] at hi'; rw [hs] at hi; exact g.dj.xx b hi hi'
      · rename_i c; rw [if_neg c, ← ek] at hi'; rw [← ek] at hi; exact dk.ss i b hi hi'
    · rw [e] at hi hj ⊢
      split at hi
      · rename_i c
        rw [if_pos c, hdp]
        rw [hs] at hi
        split at hj
        · rw [ho] at hj; exact absurd hj (g.dj.xx b hi)
        · rw [← ek] at hj; exact dk.xd j b hi hj
      · rename_i c
        rw [if_neg c]
        rw [← ek] at hi ⊢
        split at hj
        · rw [ho] at hj; exact absurd hj (dk.xs i b hi)
        · rw [← ek] at hj; exact dk.sh i j b hi hj
  · intro i b hb
    rw [e] at hb
    split at hb
    · rw [ho] at hb; exact g.mineX b hb
    · exact g.mine i b ((kills_S d).own hb).2
  · intro b hb; cases hb
  · exact g.fr
  · intro i b hb
    rw [e] at hb
    split at hb
    · rw [hs] at hb; exact g.seesX b hb
    · exact g.sees i b ((kills_S d).shr hb).2
  · intro b hb; cases hb
/-- A slot that owns nothing itself is written. -/
theorem G.landR {w0 : World} {F : Fm} {nt : Nat} {H : List Value} {L : List (AV Value)} {a : Act} {w : World} (g : G P w0 F nt H L [] [] a w) {d : Nat} (hd : d < nt) {v : Value} {av : AV Value}
    (ho : ownA av = []) (hs : shrA av = []) (hdp : depsA av = []) (hm : MemA w av) (hv : ∀ L', (∀ r deps t, slot L' r = .val deps t → r ≠ d → slot L r = .val deps t) → (∀ deps t, slot L' d ≠ .val deps t) ∨ (∀ L', SlotOk P L' v av) → SlotOk P L' v av) (hnv : (∀ deps t, av ≠ .val deps t) ∨ (∀ L', SlotOk P L' v av)) :
    G P w0 F nt H (putS L d av) [] [] (a.put (some d) v) w := by
  by_cases hall : ∀ L', SlotOk P L' v av
  · exact g.land hd (by rw [ho]; rfl) (by rw [hs]; rfl) hdp hm hall
  · have hnv := hnv.resolve_right hall
    -- first an empty slot, then the slot's own word
    have g1 := g.land (d := d) hd (v := v) (av := .un) rfl rfl rfl trivial (fun _ => trivial)
    have hdl : d < L.length := Nat.lt_of_lt_of_le hd g.len
    have e1 : ∀ i, slot (putS L d .un) i = if d = i then .un else killS d (slot L i) := fun i => by
      rw [putS, slot_set, slot_map L _ (killS_un d)]; simp [hdl]
    have e : ∀ i, slot (putS L d av) i = if d = i then av else killS d (slot L i) := fun i => by
      rw [putS, slot_set, slot_map L _ (killS_un d)]; simp [hdl]
    have same : ∀ i, ownA (slot (putS L d av) i) = ownA (slot (putS L d .un) i) ∧ shrA (slot (putS L d av) i) = shrA (slot (putS L d .un) i) ∧ depsA (slot (putS L d av) i) = depsA (slot (putS L d .un) i) := fun i => by
      rw [e, e1]
      split
      · exact ⟨ho, hs, hdp⟩
      · exact ⟨rfl, rfl, rfl⟩
    have vals : ∀ r deps t, slot (putS L d av) r = .val deps t → slot (putS L d .un) r = .val deps t := fun r deps t h => by
      rw [e] at h
      rw [e1]
      split at h
      · exact absurd h (hnv deps t)
      · rename_i c; rw [if_neg c]; exact h
    constructor
    · exact g1.defers
    · exact g1.size
    · rw [putS, List.length_set, List.length_map]; exact g.len
    · intro i hi
      have h := g1.slots i hi
      rw [e1] at h
      rw [e]
      by_cases c : d = i
      · rw [if_pos c]
        have : (a.put (some d) v).tmps.getD i undef = v := by
          show (a.tmps.setIfInBounds d v).getD i undef = v
          rw [getD_setIf _ _ _ _ _ (by rw [g.size]; exact hd), if_pos c]
        rw [this]
        refine hv _ (fun r deps t h hr => ?_) (.inl fun deps t h => ?_)
        · rw [e, if_neg (fun h => hr h.symm)] at h; exact (killS_val h).1
        · rw [e, if_pos rfl] at h; exact hnv deps t h
      · rw [if_neg c] at h ⊢
        cases ev : killS d (slot L i) with
        | un => trivial
        | val dp t => rw [ev] at h; exact h
        | tu dp t => rw [ev] at h; exact h
        | ref r p s ty sn => rw [ev] at h; exact fun deps t ht => h deps t (vals r deps t ht)
        | adr r p => rw [ev] at h; exact fun deps t ht => h deps t (vals r deps t ht)
    · intro j u hj
      have h := g1.hid j u hj
      rw [e1, if_neg (by omega)] at h
      rw [e, if_neg (by omega)]
      generalize nt + j = i at h ⊢
      cases ev : killS d (slot L i) with
      | un => trivial
      | val dp t => rw [ev] at h; exact h
      | tu dp t => rw [ev] at h; exact h
      | ref r p s ty sn => rw [ev] at h; exact fun deps t ht => h deps t (vals r deps t ht)
      | adr r p => rw [ev] at h; exact fun deps t ht => h deps t (vals r deps t ht)
    · intro i
      have h := g1.mem i
      rw [e1] at h
      rw [e]
      split
      · exact hm
      · rename_i c; rw [if_neg c] at h; exact h
    · trivial
    · have h := g1.dj
      refine ⟨fun i => by rw [(same i).1]; exact h.nd i, fun i j b hi hj => ?_, fun i b hi => ?_, fun i j b hi hj => ?_, h.xn, (fun i b hx => by cases hx), (fun i b _ hx => by cases hx), (fun b hx => by cases hx), (fun j b hx => by cases hx)⟩
      · rw [(same i).1] at hi; rw [(same j).1] at hj; exact h.dj i j b hi hj
      · rw [(same i).2.1] at hi; rw [(same i).1]; exact h.ss i b hi
      · rw [(same i).2.1] at hi; rw [(same j).1] at hj; rw [(same i).2.2]; exact h.sh i j b hi hj
    · intro i b hb
      rw [(same i).1] at hb
      exact g1.mine i b hb
    · intro b hb; cases hb
    · exact g1.fr
    · intro i b hb
      rw [(same i).2.1] at hb
      exact g1.sees i b hb
    · intro b hb; cases hb
instance : Inhabited LT := ⟨.dead default⟩
end Go.Tree

/- Trees of values in memory: a slot's value is read, taken out, lent, put back. -/
namespace Go.Tree
set_option linter.unusedSectionVars false
set_option linter.unusedVariables false
set_option linter.unusedSimpArgs false
variable {P : Program} {w0 : World} {F : Fm} {nt : Nat} {H : List Value} {L : List (AV Value)} {XD : List Nat} {X : List LT} {a : Act} {w : World} {α : Type} {res : α}
variable [Pol]
theorem cells_one {t : LT} (h : isSt t = false) : cells t = [valOf t] := by
  cases t <;> first | rfl | (cases h; done)
theorem valOf_of {t u : LT} (hs : isSt t = isSt u) (hc : cells t = cells u) : valOf t = valOf u := by
  cases hst : isSt u with
  | false =>
    rw [hst] at hs
    rw [cells_one hs, cells_one hst] at hc
    exact (List.cons.inj hc).1
  | true =>
    rw [hst] at hs
    cases t <;> first | (cases hs; done) | skip
    cases u <;> first | (cases hst; done) | skip
    simp only [cells] at hc
    simp only [valOf, hc]
theorem isSt_deaden (t : LT) : isSt (deaden t) = isSt t := by
  cases t with
  | sl ro => rw [deaden]; cases ro <;> rfl
  | pt ro => rw [deaden]; cases ro <;> rfl
  | _ => rfl
theorem Lk.isSt {t u : LT} (h : Lk t u) : isSt u = isSt t := by
  cases t with
  | fl => rw [show _ = _ from h]
  | dead => rw [show _ = _ from h]
  | st => obtain ⟨_, e, _⟩ := h; rw [e]; rfl
  | cl => obtain ⟨_, e, _⟩ := h; rw [e]; rfl
  | sl => obtain ⟨_, _, e, _⟩ := h; rw [e]; rfl
  | pt => obtain ⟨_, _, e, _⟩ := h; rw [e]; rfl
theorem put_isSt {u' : LT} : ∀ {p : List Stp} {t T' : LT}, put default t p u' = some T' → Valid t p → isSt u' = isSt (get default false t p).2 → isSt T' = isSt t
  | [], t, T', h, _, hs => by simp only [put, Option.some.injEq] at h; subst h; exact hs
  | .f s i :: p, .st xs, T', h, _, _ => by simp only [put, Option.map_eq_some_iff] at h; obtain ⟨x', h, rfl⟩ := h; rfl
  | .d s :: p, .pt ro hd x, T', h, _, _ => by
    cases ro <;> simp only [put, Option.map_eq_some_iff] at h
    · obtain ⟨x', h, rfl⟩ := h; rfl
    · cases h
  | .i s n :: p, .sl ro k hd xs, T', h, _, _ => by
    cases ro <;> simp only [put, Option.map_eq_some_iff] at h
    · obtain ⟨x', h, rfl⟩ := h; rfl
    · cases h
theorem killC_deps {r : Nat} {p : List Stp} {v : AV Value} {b : Nat} (h : b ∈ shrA (killC r p v)) : r ∉ depsA v := by
  cases v <;> simp only [killC] at h <;> (try split at h) <;> (try (cases h; done)) <;> (rename_i hc; simpa [depsA] using hc)
theorem hdP_dead {t : LT} (hm : Mem w t) {v : Value} (h : hdP t = some v) : hdP (deaden t) = some v := by
  cases t with
  | pt ro hd x =>
    cases ro with
    | true => exact h
    | false =>
      obtain ⟨⟨b, o, rfl, _⟩, _⟩ := hm
      exact h
  | dead u => exact h
  | _ => cases h
/-- A tree is taken out of where it stands. -/
theorem take_core (g : G P w0 F nt H L XD X a w) {r : Nat} {deps : List Nat} {t T2 T' u' : LT} {p : List Stp} (hr : slot L r = .val deps t) (hX : r ∉ XD) (hv2 : Vk false t T2) (hm2 : Mem w T2) (hval : Valid T2 p)
    (hu : Vk false (get default false t p).2 u') (hmu : Mem w u') (hput : put default T2 p (deaden u') = some T') (hfl : Flt (deaden u') T2 p) (hown : (get default false T2 p).1 = false) :
    G P w0 F nt H ((L.map (killC r p)).set r (.val deps T')) (XD ++ deps) (X ++ [u']) a w := by
  have hrl : r < L.length := slot_lt (by rw [hr]; simp)
  have hvt : Valid t p := hv2.lk.symm.valid hval
  obtain ⟨hg1, hg2⟩ := hv2.get hvt
  have hg2 := hg2 (by rw [← hg1]; exact hown)
  obtain ⟨⟨l, rr, ho1, ho2⟩, ⟨l', r', hs1, hs2⟩⟩ := own_get p T2 hval hown
  have ho2 := ho2 _ _ hput
  have hs2 := hs2 _ _ hput
  rw [own_deaden] at ho2
  have eou : own u' = own (get default false T2 p).2 := by rw [hu.wr.1, hg2.wr.1]
  have esu : shr u' = shr (get default false T2 p).2 := by rw [hu.wr.2, hg2.wr.2]
  have eot : own t = l ++ own u' ++ rr := by rw [← hv2.wr.1, ho1, eou]
  have est : shr t = l' ++ shr u' ++ r' := by rw [← hv2.wr.2, hs1, esu]
  have eoT : own T' = l ++ rr := by rw [ho2]; simp
  have hsT : ∀ b ∈ shr T', b ∈ shr t := fun b hb => by
    rw [hs2] at hb
    rw [est]
    simp only [List.mem_append] at hb ⊢
    rcases hb with (hb | hb) | hb
    · exact .inl (.inl hb)
    · exact .inl (.inr (shr_deaden u' b hb))
    · exact .inr hb
  have hoT : ∀ b ∈ own T', b ∈ own t := fun b hb => by
    rw [eoT] at hb; rw [eot]
    simp only [List.mem_append] at hb ⊢
    rcases hb with hb | hb
    · exact .inl (.inl hb)
    · exact .inr hb
  have hou : ∀ b ∈ own u', b ∈ own t := fun b hb => by rw [eot]; simp [hb]
  have hsu : ∀ b ∈ shr u', b ∈ shr t := fun b hb => by rw [est]; simp [hb]
  have hnd : (l ++ own u' ++ rr).Nodup := by have := g.dj.nd r; rw [hr] at this; rw [← eot]; exact this
  obtain ⟨hnd1, hnd2, hnd3⟩ := List.nodup_append.1 hnd
  obtain ⟨hnd4, hnd5, hnd6⟩ := List.nodup_append.1 hnd1
  have hnotT : ∀ b ∈ own u', b ∉ own T' := fun b hb hb' => by
    rw [eoT] at hb'
    rcases List.mem_append.1 hb' with h | h
    · exact hnd6 b h b hb rfl
    · exact hnd3 b (by simp [hb]) b h rfl
  have ecell : cells (deaden u') = cells (get default false T2 p).2 := by rw [cells_deaden, hu.lk.cells, hg2.lk.cells]
  have eisst : isSt (deaden u') = isSt (get default false T2 p).2 := by rw [isSt_deaden, hu.lk.isSt, hg2.lk.isSt]
  obtain ⟨hmT, hcT⟩ := put_same (mem_deaden u' hmu) p T2 T' hput hval hfl hm2 ecell
  have evT : valOf T' = valOf t := by rw [valOf_of (put_isSt hput hval eisst) hcT, hv2.lk.valOf]
  have evd : valOf (deaden u') = valOf (get default false T2 p).2 := valOf_of eisst ecell
  have e : ∀ i, slot ((L.map (killC r p)).set r (.val deps T')) i = if r = i then .val deps T' else killC r p (slot L i) := fun i => by
    rw [slot_set, slot_map L _ (killC_un r p)]; simp [hrl]
  have hoi : ∀ i b, b ∈ ownA (slot ((L.map (killC r p)).set r (.val deps T')) i) → b ∈ ownA (slot L i) := fun i b hb => by
    rw [e] at hb
    split at hb
    · rename_i c; subst c; rw [hr]; exact hoT b hb
    · exact ((kills_C r p).own hb).2
  have hsi : ∀ i b, b ∈ shrA (slot ((L.map (killC r p)).set r (.val deps T')) i) → b ∈ shrA (slot L i) := fun i b hb => by
    rw [e] at hb
    split at hb
    · rename_i c; subst c; rw [hr]; exact hsT b hb
    · exact ((kills_C r p).shr hb).2
  have hotr : ∀ b ∈ own t, b ∈ ownA (slot L r) := fun b hb => by rw [hr]; exact hb
  have hstr : ∀ b ∈ shr t, b ∈ shrA (slot L r) := fun b hb => by rw [hr]; exact hb
  constructor
  · exact g.defers
  · exact g.size
  · rw [List.length_set, List.length_map]; exact g.len
  · intro i hi
    have h := g.slots i hi
    rw [e]
    by_cases c : r = i
    · subst c
      rw [if_pos rfl]
      rw [hr] at h
      show _ = _
      rw [evT]; exact h
    · rw [if_neg c]
      cases ev : slot L i with
      | un => trivial
      | val dp x => rw [ev] at h; simp only [killC]; split <;> first | trivial | exact h
      | tu dp x => rw [ev] at h; simp only [killC]; split <;> first | trivial | exact h
      | ref r2 q s ty sn =>
        rw [ev] at h
        simp only [killC]
        split
        · trivial
        · rename_i hk
          intro deps' t' ht'
          rw [e] at ht'
          split at ht'
          · rename_i c2
            subst c2
            cases ht'
            obtain ⟨h1, h2, h3⟩ := h deps t hr
            simp only [beq_self_eq_true, Bool.true_and, Bool.or_eq_true, Bool.and_eq_true, Bool.not_eq_true'] at hk
            have h1' : Valid T2 q := hv2.lk.valid h1
            have elk := hv2.lk.get false false h1
            cases hsn : sn with
            | false =>
              have hns := h3 hsn
              have hpos : above p q = false ∨ above q p = true := by
                by_cases c3 : above p q = true
                · right
                  by_cases c4 : above q p = true
                  · exact c4
                  · exact absurd (Or.inl ⟨c3, Or.inr (by simpa using c4)⟩) hk
                · exact .inl (by simpa using c3)
              obtain ⟨k1, k2, k3⟩ := put_same_keep p T2 T' hput hval evd eisst q h1' hpos (by rw [elk.isSt]; exact hns)
              exact ⟨k1, by rw [k2, elk.valOf]; exact h2, fun _ => k3⟩
            | true =>
              have hpq : above p q = false := by
                cases c3 : above p q with
                | false => rfl
                | true => exact absurd (Or.inl ⟨c3, Or.inl hsn⟩) hk
              have hqp : above q p = false := by
                cases c3 : above q p with
                | false => rfl
                | true => exact absurd (Or.inr ⟨hsn, c3⟩) hk
              obtain ⟨k1, _, k3⟩ := put_keep _ p T2 T' hput q h1' hpq
              refine ⟨k1, ?_, fun h => by cases h⟩
              rw [k3 hqp, elk.valOf]; exact h2
          · exact h deps' t' (killC_val ht').1
      | adr r2 q =>
        rw [ev] at h
        simp only [killC]
        split
        · trivial
        · rename_i hk
          intro deps' t' ht'
          rw [e] at ht'
          split at ht'
          · rename_i c2
            subst c2
            cases ht'
            obtain ⟨b, o, h1, h2⟩ := h deps t hr
            simp only [beq_self_eq_true, Bool.true_and, Bool.and_eq_true, Bool.not_eq_true'] at hk
            refine ⟨b, o, put_addrD _ p T2 T' hput (fun v hv => hdP_dead hmu (hdP_lk (hg2.lk.symm.trans hu.lk) hv)) q none _ (by
              by_cases c3 : above p q = true
              · right
                by_cases c4 : tailD p q = true
                · exact c4
                · exact absurd ⟨c3, by simpa using c4⟩ hk
              · exact .inl (by simpa using c3)) ?_, h2⟩
            rw [hv2.lk.addrS]
            exact h1
          · exact h deps' t' (killC_val ht').1
  · intro j v hj
    have h := g.hid j v hj
    generalize nt + j = i at h ⊢
    rw [e]
    by_cases c : r = i
    · subst c
      rw [if_pos rfl]
      rw [hr] at h
      show _ = _
      rw [evT]; exact h
    · rw [if_neg c]
      cases ev : slot L i with
      | un => trivial
      | val dp x => rw [ev] at h; simp only [killC]; split <;> first | trivial | exact h
      | tu dp x => rw [ev] at h; simp only [killC]; split <;> first | trivial | exact h
      | ref r2 q s ty sn =>
        rw [ev] at h
        simp only [killC]
        split
        · trivial
        · rename_i hk
          intro deps' t' ht'
          rw [e] at ht'
          split at ht'
          · rename_i c2
            subst c2
            cases ht'
            obtain ⟨h1, h2, h3⟩ := h deps t hr
            simp only [beq_self_eq_true, Bool.true_and, Bool.or_eq_true, Bool.and_eq_true, Bool.not_eq_true'] at hk
            have h1' : Valid T2 q := hv2.lk.valid h1
            have elk := hv2.lk.get false false h1
            cases hsn : sn with
            | false =>
              have hns := h3 hsn
              have hpos : above p q = false ∨ above q p = true := by
                by_cases c3 : above p q = true
                · right
                  by_cases c4 : above q p = true
                  · exact c4
                  · exact absurd (Or.inl ⟨c3, Or.inr (by simpa using c4)⟩) hk
                · exact .inl (by simpa using c3)
              obtain ⟨k1, k2, k3⟩ := put_same_keep p T2 T' hput hval evd eisst q h1' hpos (by rw [elk.isSt]; exact hns)
              exact ⟨k1, by rw [k2, elk.valOf]; exact h2, fun _ => k3⟩
            | true =>
              have hpq : above p q = false := by
                cases c3 : above p q with
                | false => rfl
                | true => exact absurd (Or.inl ⟨c3, Or.inl hsn⟩) hk
              have hqp : above q p = false := by
                cases c3 : above q p with
                | false => rfl
                | true => exact absurd (Or.inr ⟨hsn, c3⟩) hk
              obtain ⟨k1, _, k3⟩ := put_keep _ p T2 T' hput q h1' hpq
              refine ⟨k1, ?_, fun h => by cases h⟩
              rw [k3 hqp, elk.valOf]; exact h2
          · exact h deps' t' (killC_val ht').1
      | adr r2 q =>
        rw [ev] at h
        simp only [killC]
        split
        · trivial
        · rename_i hk
          intro deps' t' ht'
          rw [e] at ht'
          split at ht'
          · rename_i c2
            subst c2
            cases ht'
            obtain ⟨b, o, h1, h2⟩ := h deps t hr
            simp only [beq_self_eq_true, Bool.true_and, Bool.and_eq_true, Bool.not_eq_true'] at hk
            refine ⟨b, o, put_addrD _ p T2 T' hput (fun v hv => hdP_dead hmu (hdP_lk (hg2.lk.symm.trans hu.lk) hv)) q none _ (by
              by_cases c3 : above p q = true
              · right
                by_cases c4 : tailD p q = true
                · exact c4
                · exact absurd ⟨c3, by simpa using c4⟩ hk
              · exact .inl (by simpa using c3)) ?_, h2⟩
            rw [hv2.lk.addrS]
            exact h1
          · exact h deps' t' (killC_val ht').1
  · intro i
    rw [e]
    split
    · exact hmT
    · exact (kills_C r p).mem (g.mem i)
  · exact memL_iff.2 fun x hx => by
      rcases List.mem_append.1 hx with h | h
      · exact memL_iff.1 g.memX x h
      · rw [List.mem_singleton.1 h]; exact hmu
  · refine ⟨fun i => ?_, fun i j b hi hj => g.dj.dj i j b (hoi i b hi) (hoi j b hj), fun i b hs ho => g.dj.ss i b (hsi i b hs) (hoi i b ho), fun i j b hs ho => ?_, ?_, fun i b hx hi => ?_, fun i b hs hx => ?_, fun b hs hx => ?_, fun j b hs hj => ?_⟩
    · rw [e]
      split
      · show (own T').Nodup
        rw [eoT]
        exact List.nodup_append.2 ⟨hnd4, hnd2, fun x hx y hy => hnd3 x (by simp [hx]) y hy⟩
      · have := (g.dj.kill (kills_C r p)).nd i
        rwa [slot_map L _ (killC_un r p)] at this
    · have := g.dj.sh i j b (hsi i b hs) (hoi j b ho)
      rw [e] at hs ⊢
      split
      · rename_i c; rw [← c, hr] at this; exact this
      · rename_i c; rw [if_neg c] at hs; rw [((kills_C r p).shr hs).1]; exact this
    · rw [ownL_append]
      refine List.nodup_append.2 ⟨g.dj.xn, by simpa [ownL] using hnd5, fun x hx y hy hxy => ?_⟩
      subst hxy
      simp only [ownL, List.append_nil] at hy
      exact g.dj.xo r x hx (hotr x (hou x hy))
    · rw [ownL_append] at hx
      rcases List.mem_append.1 hx with h | h
      · exact g.dj.xo i b h (hoi i b hi)
      · simp only [ownL, List.append_nil] at h
        have := g.dj.dj r i b (hotr b (hou b h)) (hoi i b hi)
        subst this
        rw [e, if_pos rfl] at hi
        exact hnotT b h hi
    · rw [ownL_append] at hx
      rcases List.mem_append.1 hx with h | h
      · exact g.dj.xs i b (hsi i b hs) h
      · simp only [ownL, List.append_nil] at h
        rw [e] at hs
        split at hs
        · exact g.dj.ss r b (hstr b (hsT b hs)) (hotr b (hou b h))
        · exact killC_deps hs (g.dj.sh i r b ((kills_C r p).shr hs).2 (hotr b (hou b h)))
    · rw [shrL_append] at hs
      rw [ownL_append] at hx
      rcases List.mem_append.1 hs with h | h <;> rcases List.mem_append.1 hx with h' | h'
      · exact g.dj.xx b h h'
      · simp only [ownL, List.append_nil] at h'
        exact hX (g.dj.xd r b h (hotr b (hou b h')))
      · simp only [shrL, List.append_nil] at h
        exact g.dj.xs r b (hstr b (hsu b h)) h'
      · simp only [ownL, shrL, List.append_nil] at h h'
        exact g.dj.ss r b (hstr b (hsu b h)) (hotr b (hou b h'))
    · rw [shrL_append] at hs
      rcases List.mem_append.1 hs with h | h
      · exact List.mem_append.2 (.inl (g.dj.xd j b h (hoi j b hj)))
      · simp only [shrL, List.append_nil] at h
        have := g.dj.sh r j b (hstr b (hsu b h)) (hoi j b hj)
        rw [hr] at this
        exact List.mem_append.2 (.inr this)
  · exact fun i b hb => g.mine i b (hoi i b hb)
  · intro b hb
    rw [ownL_append] at hb
    rcases List.mem_append.1 hb with h | h
    · exact g.mineX b h
    · simp only [ownL, List.append_nil] at h
      exact g.mine r b (hotr b (hou b h))
  · exact g.fr
  · exact fun i b hb => g.sees i b (hsi i b hb)
  · intro b hb
    rw [shrL_append] at hb
    rcases List.mem_append.1 hb with h | h
    · exact g.seesX b h
    · simp only [shrL, List.append_nil] at h
      exact g.sees r b (hstr b (hsu b h))
/-- A copy of what owns nothing is held beside what has been taken out. -/
theorem G.addRo (g : G P w0 F nt H L XD X a w) {T : LT} {D : List Nat} (hm : Mem w T) (ho : own T = []) (hs : ∀ j b, b ∈ shr T → b ∈ ownA (slot L j) → j ∈ D) (hx : ∀ b, b ∈ shr T → b ∉ ownL X) (hse : ∀ b, b ∈ shr T → Bs F w0 b) : G P w0 F nt H L (XD ++ D) (X ++ [T]) a w := by
  have eo : ownL (X ++ [T]) = ownL X := by simp [ownL_append, ownL, ho]
  have es : ∀ b, b ∈ shrL (X ++ [T]) → b ∈ shrL X ∨ b ∈ shr T := fun b hb => by
    rw [shrL_append] at hb
    simpa [shrL] using List.mem_append.1 hb
  refine ⟨g.defers, g.size, g.len, g.slots, g.hid, g.mem, ?_, ⟨g.dj.nd, g.dj.dj, g.dj.ss, g.dj.sh, by rw [eo]; exact g.dj.xn, fun i b hb => g.dj.xo i b (by rw [eo] at hb; exact hb), fun i b hb hx' => g.dj.xs i b hb (by rw [eo] at hx'; exact hx'), fun b hb hx' => ?_, fun j b hb hj => ?_⟩, g.mine, fun b hb => g.mineX b (by rw [eo] at hb; exact hb), g.fr, g.sees, fun b hb => (es b hb).elim (g.seesX b) (hse b)⟩
  · exact memL_iff.2 fun x hx => by
      rcases List.mem_append.1 hx with h | h
      · exact memL_iff.1 g.memX x h
      · rw [List.mem_singleton.1 h]; exact hm
  · rw [eo] at hx'
    rcases es b hb with h | h
    · exact g.dj.xx b h hx'
    · exact hx b h hx'
  · rcases es b hb with h | h
    · exact List.mem_append.2 (.inl (g.dj.xd j b h hj))
    · exact List.mem_append.2 (.inr (hs j b h hj))
end Go.Tree

/- Trees of values in memory: the evaluator's readings and takings. -/
namespace Go.Tree
set_option linter.unusedSectionVars false
set_option linter.unusedVariables false
set_option linter.unusedSimpArgs false
variable {P : Program} {w0 : World} {F : Fm} {nt : Nat} {H : List Value} {L : List (AV Value)} {XD : List Nat} {X : List LT} {a : Act} {w : World} {α : Type} {res : α}
variable [Pol]
theorem sub_split {β : Type} (xs : List β) (lo n : Nat) : xs = xs.take lo ++ ((xs.drop lo).take n ++ (xs.drop lo).drop n) := by
  rw [List.take_append_drop, List.take_append_drop]
/-- A slice's part. -/
theorem sub_ok {ro : Bool} {k : Ek} {h v : Value} {xs : List LT} {lo n : Nat} {ty : TypeId} (hm : Mem w (.sl ro k h xs)) (hr : RefV P ty (some (lo, n)) h v) (hk : elemSz P ty = some k) :
    Mem w (.sl ro k v ((xs.drop lo).take n)) ∧ (own (.sl ro k v ((xs.drop lo).take n))).Sublist (own (.sl ro k h xs)) ∧ (∀ b ∈ shr (.sl ro k v ((xs.drop lo).take n)), b ∈ shr (.sl ro k h xs)) ∧ (∀ b ∈ all (.sl ro k v ((xs.drop lo).take n)), b ∈ all (.sl ro k h xs)) := by
  obtain ⟨A, len, c, k', A', rfl, hlo, hk', rfl, hA⟩ := hr
  obtain rfl : k' = k := by rw [hk] at hk'; exact (Option.some.inj hk').symm
  obtain ⟨⟨A2, c2, he, hc, hl, hx⟩, hks, hmx⟩ := hm
  simp only [Value.slice.injEq] at he
  obtain ⟨rfl, rfl, rfl⟩ := he
  have hsp := sub_split xs lo n
  have hlen : ((xs.drop lo).take n).length = n := by simp; omega
  have hsub : ∀ x ∈ (xs.drop lo).take n, x ∈ xs := fun x hx => List.mem_of_mem_drop (List.mem_of_mem_take hx)
  have hks' : ∀ x ∈ (xs.drop lo).take n, (cells x).length = k'.n ∧ (k'.m = false → all x = []) := fun x hx => hks x (hsub x hx)
  have hlo' : (cellsL (xs.take lo)).length = lo * k'.n := by
    rw [cellsL_len (fun x hx => (hks x (List.mem_of_mem_take hx)).1), List.length_take, Nat.min_eq_left (by omega)]
  have hblk : ∀ b ∈ blk (.slice A' n (c - lo)), b ∈ blk (.slice A xs.length c) := fun b hb => by
    by_cases h0 : c - lo = 0
    · cases A' <;> simp [blk, plc, h0] at hb
    · obtain ⟨b', o, rfl, _⟩ := hx (by omega)
      have := hA h0
      rw [this] at hb
      simp only [Option.map_some, Addr.add_mid, blk, plc, h0, if_false] at hb
      simp only [blk, plc, show c ≠ 0 by omega, if_false]
      exact hb
  have hblkS : (blk (.slice A' n (c - lo))).Sublist (blk (.slice A xs.length c)) := by
    by_cases h0 : c - lo = 0
    · have : blk (.slice A' n (c - lo)) = [] := by cases A' <;> simp [blk, plc, h0]
      rw [this]; exact List.nil_sublist _
    · obtain ⟨b', o, rfl, _⟩ := hx (by omega)
      rw [hA h0]
      simp only [Option.map_some, Addr.add_mid, blk, plc, h0, show c ≠ 0 by omega, if_false]
      exact List.Sublist.refl _
  have hsubO : (ownL ((xs.drop lo).take n)).Sublist (ownL xs) := by
    conv => rhs; rw [hsp, ownL_append, ownL_append]
    exact List.Sublist.trans (List.sublist_append_left _ _) (List.sublist_append_right _ _)
  have hsubS : ∀ b ∈ shrL ((xs.drop lo).take n), b ∈ shrL xs := fun b hb => by
    rw [hsp, shrL_append, shrL_append]; simp [hb]
  have hsubA : ∀ b ∈ allL ((xs.drop lo).take n), b ∈ allL xs := fun b hb => by
    rw [hsp, allL_append, allL_append]; simp [hb]
  refine ⟨⟨⟨A', c - lo, by rw [hlen], by rw [hlen]; omega, cellsL_len (fun x hx => (hks' x hx).1), fun h0 => ?_⟩, hks', memL_iff.2 fun x hx' => memL_iff.1 hmx x (hsub x hx')⟩, ?_, ?_, ?_⟩
  · obtain ⟨b, o, rfl, hs, hra, hth⟩ := hx (by omega)
    refine ⟨b, o + lo * k'.n, by rw [hA h0]; simp [Addr.add_mid], hs, ?_, fun hro => there_sub (hth hro) (by omega) ?_⟩
    · rw [hsp, cellsL_append, cellsL_append] at hra
      have := (rangeAt_append.1 (rangeAt_append.1 hra).2).1
      rwa [hlo'] at this
    · rw [Nat.add_assoc, ← Nat.add_mul]
      exact Nat.add_le_add_left (Nat.mul_le_mul_right _ (by omega)) _
  · cases ro with
    | true => exact List.nil_sublist _
    | false => exact List.Sublist.append hblkS hsubO
  · intro b hb
    cases ro with
    | true =>
      simp only [shr, if_true, List.mem_append] at hb ⊢
      exact hb.imp (hblk b) (hsubA b)
    | false => exact hsubS b hb
  · intro b hb
    simp only [all, List.mem_append] at hb ⊢
    exact hb.imp (hblk b) (hsubA b)
theorem subK_ok {ty : TypeId} {sub : Option (Nat × Nat)} {u : LT} {v : Value} {K : TV → Option α} (hm : Mem w u) (hr : RefV P ty sub (valOf u) v) (h : subK P ty sub (er u) K = some res) :
    ∃ T, K (er T) = some res ∧ Mem w T ∧ valOf T = v ∧ (own T).Sublist (own u) ∧ (∀ b ∈ shr T, b ∈ shr u) ∧ (∀ b ∈ all T, b ∈ all u) := by
  cases sub with
  | none => exact ⟨u, h, hm, hr.symm, List.Sublist.refl _, fun _ h => h, fun _ h => h⟩
  | some q =>
    obtain ⟨lo, n⟩ := q
    simp only [subK] at h
    cases hk : elemSz P ty with
    | none => rw [hk] at h; cases h
    | some k =>
      rw [hk] at h
      obtain ⟨r', hd, xs, e, h⟩ := mSl_some h
      obtain ⟨hd, ys, rfl, rfl⟩ := er_sl_inv e
      obtain ⟨h1, h2, h3, h4⟩ := sub_ok hm hr hk
      exact ⟨.sl r' k v ((ys.drop lo).take n), by rw [er_sl, List.map_take, List.map_drop]; exact h, h1, rfl, h2, h3, h4⟩
/-- The last of what has been taken out is made less. -/
theorem G.less {T : LT} (g : G P w0 F nt H L XD (X ++ [T]) a w) {T' : LT} (hm : Mem w T') (ho : (own T').Sublist (own T)) (hs : ∀ b ∈ shr T', b ∈ shr T) : G P w0 F nt H L XD (X ++ [T']) a w := by
  have eo : ∀ x : LT, ownL (X ++ [x]) = ownL X ++ own x := fun x => by simp [ownL_append, ownL]
  have es : ∀ x : LT, shrL (X ++ [x]) = shrL X ++ shr x := fun x => by simp [shrL_append, shrL]
  have hsub : (ownL (X ++ [T'])).Sublist (ownL (X ++ [T])) := by rw [eo, eo]; exact List.Sublist.append (List.Sublist.refl _) ho
  have hss : ∀ b ∈ shrL (X ++ [T']), b ∈ shrL (X ++ [T]) := fun b hb => by
    rw [es] at hb ⊢
    exact List.mem_append.2 ((List.mem_append.1 hb).imp id (hs b))
  refine g.flight ?_ (hsub.nodup g.dj.xn) (fun b hb => .inl (hsub.subset hb)) (fun b hb => .inl (hss b hb)) (fun b hb hb' => g.dj.xx b (hss b hb) (hsub.subset hb')) (fun _ _ _ => rfl) (Nat.le_refl _) rfl rfl rfl
  exact memL_iff.2 fun x hx => by
    rcases List.mem_append.1 hx with h | h
    · exact memL_iff.1 g.memX x (by simp [h])
    · rw [List.mem_singleton.1 h]; exact hm
/-- The slot whose memory a slot's value is. -/
def rootS (L : List (AV Value)) (s : Nat) : Nat := match slot L s with | .ref r _ _ _ _ => r | _ => s
theorem erA_val {v : AV Value} {d : List Nat} {t : TV} (h : erA v = .val d t) : ∃ T, v = .val d T ∧ t = er T := by
  cases v <;> simp only [erA] at h <;> cases h
  exact ⟨_, rfl, rfl⟩
theorem erA_ref {v : AV Value} {r : Nat} {p : List Stp} {s : Option (Nat × Nat)} {ty : TypeId} {sn : Bool} (h : erA v = .ref r p s ty sn) : v = .ref r p s ty sn := by
  cases v <;> simp only [erA] at h <;> cases h
  rfl
theorem erA_adr {v : AV Value} {r : Nat} {p : List Stp} (h : erA v = .adr r p) : v = .adr r p := by
  cases v <;> simp only [erA] at h <;> cases h
  rfl
theorem erA_tu {v : AV Value} {d : List Nat} {ts : List TV} (h : erA v = .tu d ts) : ∃ Ts, v = .tu d Ts ∧ ts = Ts.map er := by
  cases v <;> simp only [erA] at h <;> cases h
  exact ⟨_, rfl, rfl⟩
/-- A slot's value is read. -/
theorem look_ok (g : G P w0 F nt H L XD X a w) {s : Nat} (hs : s < nt) {K : List Nat → TV → Option α} (h : look P (L.map erA) s K = some res) :
    ∃ D T, K D (er T) = some res ∧ Mem w T ∧ a.tmps.getD s undef = valOf T ∧ (∀ j b, b ∈ all T → b ∈ ownA (slot L j) → j = rootS L s ∨ j ∈ D) ∧ (∀ b ∈ all T, b ∉ ownL X) ∧ (∀ j b, b ∈ shr T → b ∈ ownA (slot L j) → j ∈ D) ∧ (∀ b ∈ own T, b ∈ ownA (slot L (rootS L s))) ∧ (∀ b ∈ all T, Bs F w0 b) := by
  have hso := g.slots s hs
  unfold look at h
  rw [slot_er] at h
  split at h
  · rename_i deps t ht
    obtain ⟨T, e, rfl⟩ := erA_val ht
    have hm := g.mem s
    rw [e] at hso hm
    refine ⟨deps, T, h, hm, hso, fun j b hb hj => ?_, fun b hb hx => ?_, fun j b hb hj => ?_, fun b hb => ?_, fun b hb => ?_⟩
    · rcases all_of T hb with h' | h'
      · left
        have := g.dj.dj j s b hj (by rw [e]; exact h')
        rw [this, rootS, e]
      · right
        have := g.dj.sh s j b (by rw [e]; exact h') hj
        rwa [e] at this
    · rcases all_of T hb with h' | h'
      · exact g.dj.xo s b hx (by rw [e]; exact h')
      · exact g.dj.xs s b (by rw [e]; exact h') hx
    · have := g.dj.sh s j b (by rw [e]; exact hb) hj
      rwa [e] at this
    · rw [rootS, e]; simp only [e]; exact hb
    · rcases all_of T hb with h' | h'
      · exact .inr (g.mine s b (by rw [e]; exact h'))
      · exact g.sees s b (by rw [e]; exact h')
  · rename_i r p sub ty sn ht
    have e := erA_ref ht
    rw [slot_er] at h
    split at h
    · rename_i deps t hr
      obtain ⟨T, er', rfl⟩ := erA_val hr
      rw [e] at hso
      obtain ⟨hv, hrv, _⟩ := hso deps T er'
      have hm := g.mem r
      rw [er'] at hm
      obtain ⟨_, _, opq, u, h, hlk, hmu, hvk⟩ := getK_ok p false false T _ hm hv.bd h
      obtain ⟨u', h, hv', hmu'⟩ := lay_ok hmu h
      have evu : valOf u' = valOf (get default false T p).2 := by rw [hv'.lk.valOf, hlk.valOf]
      obtain ⟨T', h, hmT, hvT, hoT, hsT, haT⟩ := subK_ok hmu' (by rw [evu]; exact hrv) h
      have hal : ∀ b ∈ all T', b ∈ all T := fun b hb => by
        have := haT b hb
        rw [hv'.lk.all, hlk.all] at this
        exact all_get p false T hv b this
      have hsh : ∀ b ∈ shr T', b ∈ shr T := fun b hb => by
        have hb := hsT b hb
        cases hro : (get default false T p).1 with
        | true =>
          rw [hro] at hv'
          rw [hv'.rd.2, hlk.all] at hb
          exact shr_get p T hv hro b hb
        | false =>
          rw [hro] at hv'
          rw [hv'.wr.2, (hvk hro).wr.2] at hb
          obtain ⟨_, ⟨l, rr, h1, _⟩⟩ := own_get p T hv hro
          rw [h1]; simp [hb]
      have how : ∀ b ∈ own T', b ∈ own T := fun b hb => by
        have hb := hoT.subset hb
        cases hro : (get default false T p).1 with
        | true => rw [hro] at hv'; rw [hv'.rd.1] at hb; cases hb
        | false =>
          rw [hro] at hv'
          rw [hv'.wr.1, (hvk hro).wr.1] at hb
          obtain ⟨⟨l, rr, h1, _⟩, _⟩ := own_get p T hv hro
          rw [h1]; simp [hb]
      refine ⟨deps, T', h, hmT, hvT.symm, fun j b hb hj => ?_, fun b hb hx => ?_, fun j b hb hj => ?_, fun b hb => ?_, fun b hb => ?_⟩
      · rcases all_of T (hal b hb) with h' | h'
        · left
          have := g.dj.dj j r b hj (by rw [er']; exact h')
          rw [this, rootS, e]
        · right
          have := g.dj.sh r j b (by rw [er']; exact h') hj
          rwa [er'] at this
      · rcases all_of T (hal b hb) with h' | h'
        · exact g.dj.xo r b hx (by rw [er']; exact h')
        · exact g.dj.xs r b (by rw [er']; exact h') hx
      · have := g.dj.sh r j b (by rw [er']; exact hsh b hb) hj
        rwa [er'] at this
      · rw [rootS, e]; simp only [er']; exact how b hb
      · rcases all_of T (hal b hb) with h' | h'
        · exact .inr (g.mine r b (by rw [er']; exact h'))
        · exact g.sees r b (by rw [er']; exact h')
    · cases h
  · cases h
end Go.Tree
