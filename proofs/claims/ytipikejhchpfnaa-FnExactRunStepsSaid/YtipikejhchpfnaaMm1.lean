/- The machine: the functions that the law reaches, told as points of a program, first part. Conditions: none. -/
import Derived.Test.YtipikejhchpfnaaMt3
import Derived.Test.YtipikejhchpfnaaProg
import Derived.KernelRfl
/- Trees of values: what is told of the functions, and words for views and calls. -/
namespace Go.Tree.M
open Go.Proofs
set_option linter.unusedVariables false
set_option maxRecDepth 20000
abbrev i64 (n : Int) : TV := .fl (.int .i64 n)
abbrev tb (b : Bool) : TV := .fl (.bool b)
abbrev tnil : TV := .fl (.pointer none)
abbrev sl (r : Bool) (k : Ek) (xs : List TV) : TV := .sl r k () xs
abbrev w64 (n : Int) : Int := IntKind.i64.wrap n
abbrev uns (n : Nat) : Env := List.replicate n .un
/-- The numbers from one on, in a row. -/
def marks (k : Int) (n : Nat) : List TV := (List.range n).map fun (i : Nat) => .fl (.int .i64 (k + (i : Int)))
def g43 : List TV → Option Res
 | [.st [.sl false ⟨1, false⟩ () xs, .sl false ⟨1, false⟩ () ys, .sl false ⟨1, false⟩ () zs], .fl (.int .i64 k)] =>
 if 0 ≤ k ∧ k ≤ 1152921504606846976 ∧ xs.length ≤ 1073741824 ∧ ys.length ≤ 1073741824 ∧ zs.length ≤ 1073741824 then
 some ([.fl (.int .i64 (k + xs.length + ys.length + zs.length))], [.st [.sl false ⟨1, false⟩ () (marks k xs.length), .sl false ⟨1, false⟩ () (marks (k + xs.length) ys.length), .sl false ⟨1, false⟩ () (marks (k + xs.length + ys.length) zs.length)]])
 else none
 | _ => none
/-- A table. -/
def tab {β : Type} (d : β) : List (Nat × β) → Nat → β
 | [], _ => d
 | (k, v) :: l, n => bif Nat.beq k n then v else tab d l n
/-- What the evaluator is told of the functions: who writes what, what lives where. -/
noncomputable def cx : Ctx where
 P := Try.prog
 sig := tab ⟨[], [], [], false⟩ [(24, ⟨[true], [], [], false⟩), (29, ⟨[true], [], [], false⟩), (43, ⟨[true], [], [], true⟩), (106, ⟨[true], [], [], false⟩), (144, ⟨[true], [], [], false⟩), (146, ⟨[true], [], [], false⟩), (175, ⟨[true], [], [], false⟩), (180, ⟨[true], [], [], false⟩), (194, ⟨[true], [], [], false⟩), (195, ⟨[true], [], [], false⟩)]
 given := fun f => bif Nat.beq f 43 then some g43 else none
 keep := fun f r => tab [] [(17003, [0, 3, 4]), (20004, [0, 1, 5]), (24002, [0, 1, 5, 19]), (25002, [0, 1, 5]), (28004, [0, 1, 5]), (29002, [0, 1, 5, 34]), (49005, [0, 1, 5]), (51003, [0, 3, 4]), (103004, [0, 3, 8, 13, 14]), (106002, [0, 1, 6, 41]), (107004, [0, 1, 12, 13]), (108004, [0, 1, 12, 13]), (122002, [0, 1, 7, 8, 9]), (137003, [0, 4, 5, 10, 11, 12]), (142006, [0, 3, 4, 31, 32, 33]), (143008, [0, 2, 3, 4, 5, 6, 7, 8, 15, 16, 17]), (161003, [1, 9, 10, 11]), (162002, [1, 2, 8, 9, 10]), (169008, [7, 8]), (174002, [0, 1, 2, 7]), (176006, [0, 4, 5, 19, 20, 21]), (184002, [0, 1, 7, 8]), (187002, [0, 1, 7, 8]), (191005, [0, 3, 4]), (192002, [0, 1, 2, 3, 9])] (f * 1000 + r)
 cut := fun f r => tab none [(10009, some [0, 2, 4, 8, 9]), (10032, some [8, 9, 12, 15, 17, 18]), (11012, some [0, 1, 3, 6, 10, 11]), (12012, some [0, 1, 3, 6, 10, 11]), (13009, some [0, 2, 4, 8, 9, 10, 11]), (13032, some [8, 9, 10, 11, 14, 19, 21, 22, 23, 24]), (53006, some [10, 11, 14, 15, 18]), (54006, some [10, 11, 14, 18]), (54008, some [18]), (89501, some []), (103003, some [0, 3, 8, 13]), (137024, some [0, 4, 5, 6, 9, 10, 11, 12]), (142004, some [0, 3]), (142009, some [0, 3, 4, 5, 6, 31, 32, 33]), (142027, some [0, 3, 4, 7, 31, 32, 33]), (143019, some [0, 2, 3, 4, 5, 6, 7, 8, 10, 11, 12, 15, 16, 17]), (143029, some [0, 2, 3, 4, 5, 6, 7, 8, 10, 13, 15, 16, 17, 78]), (143045, some [2, 3]), (144010, some [0, 3, 4, 36, 70, 260]), (144013, some [0, 3, 4, 36, 83, 260]), (144018, some [0, 3, 4, 36, 106, 260]), (144024, some [0, 3, 4, 36, 122, 260]), (144029, some [0, 3, 4, 36, 145, 260]), (144033, some [0, 3, 4, 36, 151, 260]), (144041, some [0, 3, 4, 36, 197, 260]), (144046, some [0, 3, 4, 214, 260]), (144050, some [0, 3, 4, 12, 260]), (144051, some [0, 4, 260]), (146027, some [5, 144]), (161016, some [1, 33, 39]), (161019, some [1, 45]), (168010, some [1, 26, 32]), (168013, some [1, 38]), (169003, some [0, 1]), (169006, some [0, 6]), (170004, some [1, 4, 5]), (172002, some [0, 4]), (172016, some [21]), (176008, some [0, 4, 5, 6, 7, 19, 20, 21]), (176009, some [0, 4, 5, 6, 7, 19, 20, 21]), (176014, some [0, 4, 5]), (176015, some [0, 4, 5]), (176017, some [4]), (176508, some []), (176514, some []), (180019, some [0, 1, 6, 119]), (191003, some [0]), (192005, some [0, 1, 2, 3, 9, 29]), (194004, some [0, 3, 5, 6, 19, 163]), (194007, some [0, 3, 6, 163]), (194014, some [0, 3, 7, 84, 163]), (194021, some [0, 141, 163]), (195006, some [0, 1, 2, 6, 88]), (198002, some [0, 4]), (198004, some [0, 11])] (f * 1000 + r)
 pol := fun f => ⟨fun s i b => match tab 0 [(101670000000, 1), (101670000002, 1), (101730000000, 1), (111670000000, 1), (111670000002, 1), (111730000000, 1), (121670000000, 1), (121670000002, 1), (121730000000, 1), (131670000000, 1), (131670000002, 1), (131730000000, 1), (171670000000, 1), (171670000002, 1), (171730000000, 1), (201670000000, 1), (201670000002, 1), (201730000000, 1), (241670000000, 1), (241670000002, 1), (241730000000, 1), (251670000000, 1), (251670000002, 1), (251730000000, 1), (281670000000, 1), (281670000002, 1), (281730000000, 1), (291670000000, 1), (291670000002, 1), (291730000000, 1), (351670000000, 1), (351670000002, 1), (351730000000, 1), (381670000000, 1), (381670000002, 1), (381730000000, 1), (401670000000, 1), (401670000002, 1), (401730000000, 1), (431670000000, 1), (431670000002, 1), (431730000000, 1), (441670000000, 1), (441670000002, 1), (441730000000, 1), (491670000000, 1), (491670000002, 1), (491730000000, 1), (501670000000, 1), (501670000002, 1), (501730000000, 1), (511670000000, 1), (511670000002, 1), (511730000000, 1), (521670000000, 1), (521670000002, 1), (521730000000, 1), (531670000000, 1), (531670000002, 1), (531730000000, 1), (541670000000, 1), (541670000002, 1), (541730000000, 1), (551670000000, 1), (551670000002, 1), (551730000000, 1), (561670000000, 1), (561670000002, 1), (561730000000, 1), (571670000000, 1), (571670000002, 1), (571730000000, 1), (581670000000, 1), (581670000002, 1), (581730000000, 1), (651670000000, 1), (651670000002, 1), (651730000000, 1), (771670000000, 1), (771670000002, 1), (771730000000, 1), (841670000000, 1), (841670000002, 1), (841730000000, 1), (861670000000, 1), (861670000002, 1), (861730000000, 1), (871670000000, 1), (871670000002, 1), (871730000000, 1), (891670000000, 1), (891670000002, 1), (891730000000, 1), (921670000000, 1), (921670000002, 1), (921730000000, 1), (931670000000, 1), (931670000002, 1), (931730000000, 1), (981670000000, 1), (981670000002, 1), (981730000000, 1), (1011670000000, 1), (1011670000002, 1), (1011730000000, 1), (1021670000000, 1), (1021670000002, 1), (1021730000000, 1), (1031670000000, 1), (1031670000002, 1), (1031730000000, 1), (1041670000000, 1), (1041670000002, 1), (1041730000000, 1), (1051670000000, 1), (1051670000002, 1), (1051730000000, 1), (1061670000000, 1), (1061670000002, 1), (1061730000000, 1), (1071670000000, 1), (1071670000002, 1), (1071730000000, 1), (1081670000000, 1), (1081670000002, 1), (1081730000000, 1), (1091670000000, 1), (1091670000002, 1), (1091730000000, 1), (1101670000000, 1), (1101670000002, 1), (1101730000000, 1), (1121670000000, 1), (1121670000002, 1), (1121730000000, 1), (1221670000000, 1), (1221670000002, 1), (1221730000000, 1), (1281670000000, 1), (1281670000002, 1), (1281730000000, 1), (1291670000000, 1), (1291670000002, 1), (1291730000000, 1), (1301670000000, 1), (1301670000002, 1), (1301730000000, 1), (1341670000000, 1), (1341670000002, 1), (1341730000000, 1), (1371670000000, 1), (1371670000002, 1), (1371730000000, 1), (1421670000000, 1), (1421670000002, 1), (1421730000000, 1), (1431670000000, 1), (1431670000002, 1), (1431730000000, 1), (1441670000000, 1), (1441670000002, 1), (1441730000000, 1), (1451670000000, 1), (1451670000002, 1), (1451730000000, 1), (1461670000000, 1), (1461670000002, 1), (1461730000000, 1), (1531670000000, 1), (1531670000002, 1), (1531730000000, 1), (1561670000000, 1), (1561670000002, 1), (1561730000000, 1), (1581670000000, 1), (1581670000002, 1), (1581730000000, 1), (1591670000000, 1), (1591670000002, 1), (1591730000000, 1), (1611670000000, 1), (1611670000002, 1), (1611730000000, 1), (1621670000000, 1), (1621670000002, 1), (1621730000000, 1), (1631670000000, 1), (1631670000002, 1), (1631730000000, 1), (1661670000000, 1), (1661670000002, 1), (1661730000000, 1), (1671670000000, 1), (1671670000002, 1), (1671730000000, 1), (1681670000000, 1), (1681670000002, 1), (1681730000000, 1), (1691670000000, 1), (1691670000002, 1), (1691730000000, 1), (1701670000000, 1), (1701670000002, 1), (1701730000000, 1), (1711670000000, 1), (1711670000002, 1), (1711730000000, 1), (1721670000000, 1), (1721670000002, 1), (1721730000000, 1), (1741670000000, 1), (1741670000002, 1), (1741730000000, 1), (1751670000000, 1), (1751670000002, 1), (1751730000000, 1), (1761670000000, 1), (1761670000002, 1), (1761730000000, 1), (1791670000000, 1), (1791670000002, 1), (1791730000000, 1), (1801670000000, 1), (1801670000002, 1), (1801730000000, 1), (1831670000000, 1), (1831670000002, 1), (1831730000000, 1), (1841670000000, 1), (1841670000002, 1), (1841730000000, 1), (1851670000000, 1), (1851670000002, 1), (1851730000000, 1), (1871670000000, 1), (1871670000002, 1), (1871730000000, 1), (1881670000000, 1), (1881670000002, 1), (1881730000000, 1), (1891670000000, 1), (1891670000002, 1), (1891730000000, 1), (1901670000000, 1), (1901670000002, 1), (1901730000000, 1), (1911670000000, 1), (1911670000002, 1), (1911730000000, 1), (1921670000000, 1), (1921670000002, 1), (1921730000000, 1), (1931670000000, 1), (1931670000002, 1), (1931730000000, 1), (1941670000000, 1), (1941670000002, 1), (1941730000000, 1), (1951670000000, 1), (1951670000002, 1), (1951730000000, 1), (1971670000000, 1), (1971670000002, 1), (1971730000000, 1), (1981670000000, 1), (1981670000002, 1), (1981730000000, 1), (1991670000000, 1), (1991670000002, 1), (1991730000000, 1)] ((f * 1000 + s) * 10000000 + i) with | 0 => !b | 1 => b | _ => true, fun t => tab false [(52126, true), (58126, true), (105130, true), (145130, true), (176162, true)] (f * 1000 + t)⟩
 inl := tab false [(131, true), (132, true), (133, true), (173, true), (177, true), (178, true)]
theorem call_S {f g : FuncId} {args : List TV} {v : Res} {K : Res → Nd} {X : Option Res} (h : tw cx g args = some v) (e : S cx f (K v) = X) : S cx f (.call g args K) = X := by
 show Option.bind (tw cx g args) _ = X
 rw [h]
 exact e
noncomputable def C51 (B0 : List TV) (K : (List TV) → Nd) : Nd := .call 51 [sl true ⟨3, true⟩ B0] fun R => .cons R.1 fun X0 X1 => .slO ⟨3, true⟩ X0 fun A0 => .nil X1 <| .nil R.2 <| K A0
theorem C51_S {f : FuncId} {B0 A0 : List TV} {K : (List TV) → Nd} (h : tw cx 51 [sl true ⟨3, true⟩ B0] = some ([sl false ⟨3, true⟩ A0], [])) : S cx f (C51 B0 K) = S cx f (K A0) := call_S h rfl
noncomputable def C38 (B0 B1 B2 : List TV) (K : (List TV) → (List TV) → (List TV) → Nd) : Nd := .call 38 [.st [sl true ⟨1, false⟩ B0, sl true ⟨1, false⟩ B1, sl true ⟨1, false⟩ B2]] fun R => .cons R.1 fun X0 X1 => .st X0 fun X2 => .cons X2 fun X3 X4 => .slO ⟨1, false⟩ X3 fun A0 => .cons X4 fun X5 X6 => .slO ⟨1, false⟩ X5 fun A1 => .cons X6 fun X7 X8 => .slO ⟨1, false⟩ X7 fun A2 => .nil X8 <| .nil X1 <| .nil R.2 <| K A0 A1 A2
theorem C38_S {f : FuncId} {B0 B1 B2 A0 A1 A2 : List TV} {K : (List TV) → (List TV) → (List TV) → Nd} (h : tw cx 38 [.st [sl true ⟨1, false⟩ B0, sl true ⟨1, false⟩ B1, sl true ⟨1, false⟩ B2]] = some ([.st [sl false ⟨1, false⟩ A0, sl false ⟨1, false⟩ A1, sl false ⟨1, false⟩ A2]], [])) : S cx f (C38 B0 B1 B2 K) = S cx f (K A0 A1 A2) := call_S h rfl
noncomputable def C50 (B0 B1 B2 B3 : List TV) (B4 : Int) (K : (List TV) → Bool → Nd) : Nd := .call 50 [sl true ⟨3, true⟩ B0, .st [sl true ⟨1, false⟩ B1, sl true ⟨1, false⟩ B2, sl true ⟨1, false⟩ B3], i64 B4] fun R => .cons R.1 fun X0 X1 => .slO ⟨1, false⟩ X0 fun A0 => .cons X1 fun X2 X3 => .bool X2 fun A1 => .nil X3 <| .nil R.2 <| K A0 A1
theorem C50_S {f : FuncId} {B0 B1 B2 B3 : List TV} {B4 : Int} {A0 : List TV} {A1 : Bool} {K : (List TV) → Bool → Nd} (h : tw cx 50 [sl true ⟨3, true⟩ B0, .st [sl true ⟨1, false⟩ B1, sl true ⟨1, false⟩ B2, sl true ⟨1, false⟩ B3], i64 B4] = some ([sl false ⟨1, false⟩ A0, tb A1], [])) : S cx f (C50 B0 B1 B2 B3 B4 K) = S cx f (K A0 A1) := call_S h rfl
noncomputable def C49 (B0 : List TV) (B1 : Int) (K : Int → Nd) : Nd := .call 49 [sl true ⟨3, true⟩ B0, i64 B1] fun R => .cons R.1 fun X0 X1 => .int .i64 X0 fun A0 => .nil X1 <| .nil R.2 <| K A0
theorem C49_S {f : FuncId} {B0 : List TV} {B1 A0 : Int} {K : Int → Nd} (h : tw cx 49 [sl true ⟨3, true⟩ B0, i64 B1] = some ([i64 A0], [])) : S cx f (C49 B0 B1 K) = S cx f (K A0) := call_S h rfl
noncomputable def C35 (B0 B1 B2 : List TV) (B3 : Int) (K : Int → Nd) : Nd := .call 35 [.st [sl true ⟨1, false⟩ B0, sl true ⟨1, false⟩ B1, sl true ⟨1, false⟩ B2], i64 B3] fun R => .cons R.1 fun X0 X1 => .int .i64 X0 fun A0 => .nil X1 <| .nil R.2 <| K A0
theorem C35_S {f : FuncId} {B0 B1 B2 : List TV} {B3 A0 : Int} {K : Int → Nd} (h : tw cx 35 [.st [sl true ⟨1, false⟩ B0, sl true ⟨1, false⟩ B1, sl true ⟨1, false⟩ B2], i64 B3] = some ([i64 A0], [])) : S cx f (C35 B0 B1 B2 B3 K) = S cx f (K A0) := call_S h rfl
noncomputable def C52 (B0 B1 B2 B3 : List TV) (B4 : Int) (K : (List TV) → Bool → Nd) : Nd := .call 52 [sl true ⟨3, true⟩ B0, .st [sl true ⟨1, false⟩ B1, sl true ⟨1, false⟩ B2, sl true ⟨1, false⟩ B3], i64 B4] fun R => .cons R.1 fun X0 X1 => .slO ⟨1, false⟩ X0 fun A0 => .cons X1 fun X2 X3 => .bool X2 fun A1 => .nil X3 <| .nil R.2 <| K A0 A1
theorem C52_S {f : FuncId} {B0 B1 B2 B3 : List TV} {B4 : Int} {A0 : List TV} {A1 : Bool} {K : (List TV) → Bool → Nd} (h : tw cx 52 [sl true ⟨3, true⟩ B0, .st [sl true ⟨1, false⟩ B1, sl true ⟨1, false⟩ B2, sl true ⟨1, false⟩ B3], i64 B4] = some ([sl false ⟨1, false⟩ A0, tb A1], [])) : S cx f (C52 B0 B1 B2 B3 B4 K) = S cx f (K A0 A1) := call_S h rfl
noncomputable def C40 (B0 B1 B2 B3 B4 B5 : List TV) (K : Bool → Nd) : Nd := .call 40 [.st [sl true ⟨1, false⟩ B0, sl true ⟨1, false⟩ B1, sl true ⟨1, false⟩ B2], .st [sl true ⟨1, false⟩ B3, sl true ⟨1, false⟩ B4, sl true ⟨1, false⟩ B5]] fun R => .cons R.1 fun X0 X1 => .bool X0 fun A0 => .nil X1 <| .nil R.2 <| K A0
theorem C40_S {f : FuncId} {B0 B1 B2 B3 B4 B5 : List TV} {A0 : Bool} {K : Bool → Nd} (h : tw cx 40 [.st [sl true ⟨1, false⟩ B0, sl true ⟨1, false⟩ B1, sl true ⟨1, false⟩ B2], .st [sl true ⟨1, false⟩ B3, sl true ⟨1, false⟩ B4, sl true ⟨1, false⟩ B5]] = some ([tb A0], [])) : S cx f (C40 B0 B1 B2 B3 B4 B5 K) = S cx f (K A0) := call_S h rfl
noncomputable def C29 (B0 : List TV) (B1 : Int) (K : Int → (List TV) → Nd) : Nd := .call 29 [sl false ⟨3, true⟩ B0, i64 B1] fun R => .cons R.1 fun X0 X1 => .int .i64 X0 fun A0 => .nil X1 <| .cons R.2 fun X2 X3 => .slO ⟨3, true⟩ X2 fun A1 => .nil X3 <| K A0 A1
theorem C29_S {f : FuncId} {B0 : List TV} {B1 A0 : Int} {A1 : List TV} {K : Int → (List TV) → Nd} (h : tw cx 29 [sl false ⟨3, true⟩ B0, i64 B1] = some ([i64 A0], [sl false ⟨3, true⟩ A1])) : S cx f (C29 B0 B1 K) = S cx f (K A0 A1) := call_S h rfl
noncomputable def C43 (B0 B1 B2 : List TV) (B3 : Int) (K : Int → (List TV) → (List TV) → (List TV) → Nd) : Nd := .call 43 [.st [sl false ⟨1, false⟩ B0, sl false ⟨1, false⟩ B1, sl false ⟨1, false⟩ B2], i64 B3] fun R => .cons R.1 fun X0 X1 => .int .i64 X0 fun A0 => .nil X1 <| .cons R.2 fun X2 X3 => .st X2 fun X4 => .cons X4 fun X5 X6 => .slO ⟨1, false⟩ X5 fun A1 => .cons X6 fun X7 X8 => .slO ⟨1, false⟩ X7 fun A2 => .cons X8 fun X9 X10 => .slO ⟨1, false⟩ X9 fun A3 => .nil X10 <| .nil X3 <| K A0 A1 A2 A3
theorem C43_S {f : FuncId} {B0 B1 B2 : List TV} {B3 A0 : Int} {A1 A2 A3 : List TV} {K : Int → (List TV) → (List TV) → (List TV) → Nd} (h : tw cx 43 [.st [sl false ⟨1, false⟩ B0, sl false ⟨1, false⟩ B1, sl false ⟨1, false⟩ B2], i64 B3] = some ([i64 A0], [.st [sl false ⟨1, false⟩ A1, sl false ⟨1, false⟩ A2, sl false ⟨1, false⟩ A3]])) : S cx f (C43 B0 B1 B2 B3 K) = S cx f (K A0 A1 A2 A3) := call_S h rfl
noncomputable def C20 (B0 B1 : List TV) (K : Bool → Nd) : Nd := .call 20 [sl true ⟨1, false⟩ B0, sl true ⟨1, false⟩ B1] fun R => .cons R.1 fun X0 X1 => .bool X0 fun A0 => .nil X1 <| .nil R.2 <| K A0
theorem C20_S {f : FuncId} {B0 B1 : List TV} {A0 : Bool} {K : Bool → Nd} (h : tw cx 20 [sl true ⟨1, false⟩ B0, sl true ⟨1, false⟩ B1] = some ([tb A0], [])) : S cx f (C20 B0 B1 K) = S cx f (K A0) := call_S h rfl
noncomputable def C24 (B0 : List TV) (B1 : Int) (K : Int → (List TV) → Nd) : Nd := .call 24 [sl false ⟨1, false⟩ B0, i64 B1] fun R => .cons R.1 fun X0 X1 => .int .i64 X0 fun A0 => .nil X1 <| .cons R.2 fun X2 X3 => .slO ⟨1, false⟩ X2 fun A1 => .nil X3 <| K A0 A1
theorem C24_S {f : FuncId} {B0 : List TV} {B1 A0 : Int} {A1 : List TV} {K : Int → (List TV) → Nd} (h : tw cx 24 [sl false ⟨1, false⟩ B0, i64 B1] = some ([i64 A0], [sl false ⟨1, false⟩ A1])) : S cx f (C24 B0 B1 K) = S cx f (K A0 A1) := call_S h rfl
noncomputable def C25 (B0 : List TV) (B1 : Int) (K : Int → Nd) : Nd := .call 25 [sl true ⟨1, false⟩ B0, i64 B1] fun R => .cons R.1 fun X0 X1 => .int .i64 X0 fun A0 => .nil X1 <| .nil R.2 <| K A0
theorem C25_S {f : FuncId} {B0 : List TV} {B1 A0 : Int} {K : Int → Nd} (h : tw cx 25 [sl true ⟨1, false⟩ B0, i64 B1] = some ([i64 A0], [])) : S cx f (C25 B0 B1 K) = S cx f (K A0) := call_S h rfl
noncomputable def C28 (B0 B1 : List TV) (K : Bool → Nd) : Nd := .call 28 [sl true ⟨3, true⟩ B0, sl true ⟨3, true⟩ B1] fun R => .cons R.1 fun X0 X1 => .bool X0 fun A0 => .nil X1 <| .nil R.2 <| K A0
theorem C28_S {f : FuncId} {B0 B1 : List TV} {A0 : Bool} {K : Bool → Nd} (h : tw cx 28 [sl true ⟨3, true⟩ B0, sl true ⟨3, true⟩ B1] = some ([tb A0], [])) : S cx f (C28 B0 B1 K) = S cx f (K A0) := call_S h rfl
noncomputable def C53 (B0 B1 B2 B3 B4 : List TV) (B5 : Int) (K : Bool → Bool → Nd) : Nd := .call 53 [sl true ⟨3, true⟩ B0, sl true ⟨3, true⟩ B1, .st [sl true ⟨1, false⟩ B2, sl true ⟨1, false⟩ B3, sl true ⟨1, false⟩ B4], i64 B5] fun R => .cons R.1 fun X0 X1 => .bool X0 fun A0 => .cons X1 fun X2 X3 => .bool X2 fun A1 => .nil X3 <| .nil R.2 <| K A0 A1
theorem C53_S {f : FuncId} {B0 B1 B2 B3 B4 : List TV} {B5 : Int} {A0 A1 : Bool} {K : Bool → Bool → Nd} (h : tw cx 53 [sl true ⟨3, true⟩ B0, sl true ⟨3, true⟩ B1, .st [sl true ⟨1, false⟩ B2, sl true ⟨1, false⟩ B3, sl true ⟨1, false⟩ B4], i64 B5] = some ([tb A0, tb A1], [])) : S cx f (C53 B0 B1 B2 B3 B4 B5 K) = S cx f (K A0 A1) := call_S h rfl
noncomputable def C54 (B0 B1 B2 B3 B4 : List TV) (B5 : Int) (K : Bool → Bool → Nd) : Nd := .call 54 [sl true ⟨3, true⟩ B0, sl true ⟨3, true⟩ B1, .st [sl true ⟨1, false⟩ B2, sl true ⟨1, false⟩ B3, sl true ⟨1, false⟩ B4], i64 B5] fun R => .cons R.1 fun X0 X1 => .bool X0 fun A0 => .cons X1 fun X2 X3 => .bool X2 fun A1 => .nil X3 <| .nil R.2 <| K A0 A1
theorem C54_S {f : FuncId} {B0 B1 B2 B3 B4 : List TV} {B5 : Int} {A0 A1 : Bool} {K : Bool → Bool → Nd} (h : tw cx 54 [sl true ⟨3, true⟩ B0, sl true ⟨3, true⟩ B1, .st [sl true ⟨1, false⟩ B2, sl true ⟨1, false⟩ B3, sl true ⟨1, false⟩ B4], i64 B5] = some ([tb A0, tb A1], [])) : S cx f (C54 B0 B1 B2 B3 B4 B5 K) = S cx f (K A0 A1) := call_S h rfl
noncomputable def C55 (B0 B1 B2 B3 B4 : List TV) (B5 : Int) (K : Bool → Bool → Nd) : Nd := .call 55 [sl true ⟨3, true⟩ B0, sl true ⟨3, true⟩ B1, .st [sl true ⟨1, false⟩ B2, sl true ⟨1, false⟩ B3, sl true ⟨1, false⟩ B4], i64 B5] fun R => .cons R.1 fun X0 X1 => .bool X0 fun A0 => .cons X1 fun X2 X3 => .bool X2 fun A1 => .nil X3 <| .nil R.2 <| K A0 A1
theorem C55_S {f : FuncId} {B0 B1 B2 B3 B4 : List TV} {B5 : Int} {A0 A1 : Bool} {K : Bool → Bool → Nd} (h : tw cx 55 [sl true ⟨3, true⟩ B0, sl true ⟨3, true⟩ B1, .st [sl true ⟨1, false⟩ B2, sl true ⟨1, false⟩ B3, sl true ⟨1, false⟩ B4], i64 B5] = some ([tb A0, tb A1], [])) : S cx f (C55 B0 B1 B2 B3 B4 B5 K) = S cx f (K A0 A1) := call_S h rfl
noncomputable def C56 (B0 B1 B2 B3 B4 : List TV) (B5 : Int) (K : Bool → Bool → Nd) : Nd := .call 56 [sl true ⟨3, true⟩ B0, sl true ⟨3, true⟩ B1, .st [sl true ⟨1, false⟩ B2, sl true ⟨1, false⟩ B3, sl true ⟨1, false⟩ B4], i64 B5] fun R => .cons R.1 fun X0 X1 => .bool X0 fun A0 => .cons X1 fun X2 X3 => .bool X2 fun A1 => .nil X3 <| .nil R.2 <| K A0 A1
theorem C56_S {f : FuncId} {B0 B1 B2 B3 B4 : List TV} {B5 : Int} {A0 A1 : Bool} {K : Bool → Bool → Nd} (h : tw cx 56 [sl true ⟨3, true⟩ B0, sl true ⟨3, true⟩ B1, .st [sl true ⟨1, false⟩ B2, sl true ⟨1, false⟩ B3, sl true ⟨1, false⟩ B4], i64 B5] = some ([tb A0, tb A1], [])) : S cx f (C56 B0 B1 B2 B3 B4 B5 K) = S cx f (K A0 A1) := call_S h rfl
noncomputable def C57 (B0 B1 B2 B3 : List TV) (B4 : Int) (K : (List TV) → (List TV) → (List TV) → Int → Int → Bool → Nd) : Nd := .call 57 [sl true ⟨3, true⟩ B0, .st [sl true ⟨1, false⟩ B1, sl true ⟨1, false⟩ B2, sl true ⟨1, false⟩ B3], i64 B4] fun R => .cons R.1 fun X0 X1 => .st X0 fun X2 => .cons X2 fun X3 X4 => .slO ⟨1, false⟩ X3 fun A0 => .cons X4 fun X5 X6 => .slO ⟨1, false⟩ X5 fun A1 => .cons X6 fun X7 X8 => .slO ⟨1, false⟩ X7 fun A2 => .nil X8 <| .cons X1 fun X9 X10 => .int .i64 X9 fun A3 => .cons X10 fun X11 X12 => .int .i64 X11 fun A4 => .cons X12 fun X13 X14 => .bool X13 fun A5 => .nil X14 <| .nil R.2 <| K A0 A1 A2 A3 A4 A5
theorem C57_S {f : FuncId} {B0 B1 B2 B3 : List TV} {B4 : Int} {A0 A1 A2 : List TV} {A3 A4 : Int} {A5 : Bool} {K : (List TV) → (List TV) → (List TV) → Int → Int → Bool → Nd} (h : tw cx 57 [sl true ⟨3, true⟩ B0, .st [sl true ⟨1, false⟩ B1, sl true ⟨1, false⟩ B2, sl true ⟨1, false⟩ B3], i64 B4] = some ([.st [sl false ⟨1, false⟩ A0, sl false ⟨1, false⟩ A1, sl false ⟨1, false⟩ A2], i64 A3, i64 A4, tb A5], [])) : S cx f (C57 B0 B1 B2 B3 B4 K) = S cx f (K A0 A1 A2 A3 A4 A5) := call_S h rfl
noncomputable def C58 (B0 B1 B2 B3 : List TV) (B4 : Int) (K : (List TV) → (List TV) → (List TV) → Int → Int → Bool → Nd) : Nd := .call 58 [sl true ⟨3, true⟩ B0, .st [sl true ⟨1, false⟩ B1, sl true ⟨1, false⟩ B2, sl true ⟨1, false⟩ B3], i64 B4] fun R => .cons R.1 fun X0 X1 => .st X0 fun X2 => .cons X2 fun X3 X4 => .slO ⟨1, false⟩ X3 fun A0 => .cons X4 fun X5 X6 => .slO ⟨1, false⟩ X5 fun A1 => .cons X6 fun X7 X8 => .slO ⟨1, false⟩ X7 fun A2 => .nil X8 <| .cons X1 fun X9 X10 => .int .i64 X9 fun A3 => .cons X10 fun X11 X12 => .int .i64 X11 fun A4 => .cons X12 fun X13 X14 => .bool X13 fun A5 => .nil X14 <| .nil R.2 <| K A0 A1 A2 A3 A4 A5
theorem C58_S {f : FuncId} {B0 B1 B2 B3 : List TV} {B4 : Int} {A0 A1 A2 : List TV} {A3 A4 : Int} {A5 : Bool} {K : (List TV) → (List TV) → (List TV) → Int → Int → Bool → Nd} (h : tw cx 58 [sl true ⟨3, true⟩ B0, .st [sl true ⟨1, false⟩ B1, sl true ⟨1, false⟩ B2, sl true ⟨1, false⟩ B3], i64 B4] = some ([.st [sl false ⟨1, false⟩ A0, sl false ⟨1, false⟩ A1, sl false ⟨1, false⟩ A2], i64 A3, i64 A4, tb A5], [])) : S cx f (C58 B0 B1 B2 B3 B4 K) = S cx f (K A0 A1 A2 A3 A4 A5) := call_S h rfl
noncomputable def C44 (B0 B1 B2 : List TV) (B3 : Int) (K : Int → Nd) : Nd := .call 44 [.st [sl true ⟨1, false⟩ B0, sl true ⟨1, false⟩ B1, sl true ⟨1, false⟩ B2], i64 B3] fun R => .cons R.1 fun X0 X1 => .int .i64 X0 fun A0 => .nil X1 <| .nil R.2 <| K A0
theorem C44_S {f : FuncId} {B0 B1 B2 : List TV} {B3 A0 : Int} {K : Int → Nd} (h : tw cx 44 [.st [sl true ⟨1, false⟩ B0, sl true ⟨1, false⟩ B1, sl true ⟨1, false⟩ B2], i64 B3] = some ([i64 A0], [])) : S cx f (C44 B0 B1 B2 B3 K) = S cx f (K A0) := call_S h rfl
noncomputable def V3 (t : TV) (K : Int → Int → (List TV) → Nd) : Nd := .st t fun L => .cons L fun TV0 L0 => .int .i64 TV0 fun A0 => .cons L0 fun TV1 L1 => .int .i64 TV1 fun A1 => .cons L1 fun TV2 L2 => .slR ⟨1, false⟩ TV2 fun A2 => .nil L2 <| K A0 A1 A2
theorem V3_S {f : FuncId} {A0 A1 : Int} {A2 : List TV} {q0 : Bool} {K : Int → Int → (List TV) → Nd} : S cx f (V3 (.st [i64 A0, i64 A1, sl q0 ⟨1, false⟩ A2]) K) = S cx f (K A0 A1 A2) := rfl
noncomputable def C77 (B0 B1 : Int) (B2 : List TV) (B3 B4 : Int) (B5 : List TV) (K : Bool → Nd) : Nd := .call 77 [.st [i64 B0, i64 B1, sl true ⟨1, false⟩ B2], .st [i64 B3, i64 B4, sl true ⟨1, false⟩ B5]] fun R => .cons R.1 fun X0 X1 => .bool X0 fun A0 => .nil X1 <| .nil R.2 <| K A0
theorem C77_S {f : FuncId} {B0 B1 : Int} {B2 : List TV} {B3 B4 : Int} {B5 : List TV} {A0 : Bool} {K : Bool → Nd} (h : tw cx 77 [.st [i64 B0, i64 B1, sl true ⟨1, false⟩ B2], .st [i64 B3, i64 B4, sl true ⟨1, false⟩ B5]] = some ([tb A0], [])) : S cx f (C77 B0 B1 B2 B3 B4 B5 K) = S cx f (K A0) := call_S h rfl
noncomputable def V3_1 (t : TV) (K : Int → Int → (List TV) → Nd) : Nd := .st t fun L => .cons L fun TV0 L0 => .int .i64 TV0 fun A0 => .cons L0 fun TV1 L1 => .int .i64 TV1 fun A1 => .cons L1 fun TV2 L2 => .slO ⟨1, false⟩ TV2 fun A2 => .nil L2 <| K A0 A1 A2
theorem V3_1_S {f : FuncId} {A0 A1 : Int} {A2 : List TV} {K : Int → Int → (List TV) → Nd} : S cx f (V3_1 (.st [i64 A0, i64 A1, sl false ⟨1, false⟩ A2]) K) = S cx f (K A0 A1 A2) := rfl
noncomputable def C84 (B0 : List TV) (B1 : Int) (K : Int → Nd) : Nd := .call 84 [sl true ⟨1, false⟩ B0, i64 B1] fun R => .cons R.1 fun X0 X1 => .int .i64 X0 fun A0 => .nil X1 <| .nil R.2 <| K A0
theorem C84_S {f : FuncId} {B0 : List TV} {B1 A0 : Int} {K : Int → Nd} (h : tw cx 84 [sl true ⟨1, false⟩ B0, i64 B1] = some ([i64 A0], [])) : S cx f (C84 B0 B1 K) = S cx f (K A0) := call_S h rfl
noncomputable def C17 (B0 : List TV) (K : (List TV) → Nd) : Nd := .call 17 [sl true ⟨1, false⟩ B0] fun R => .cons R.1 fun X0 X1 => .slO ⟨1, false⟩ X0 fun A0 => .nil X1 <| .nil R.2 <| K A0
theorem C17_S {f : FuncId} {B0 A0 : List TV} {K : (List TV) → Nd} (h : tw cx 17 [sl true ⟨1, false⟩ B0] = some ([sl false ⟨1, false⟩ A0], [])) : S cx f (C17 B0 K) = S cx f (K A0) := call_S h rfl
noncomputable def C101 (B0 B1 : Int) (B2 : List TV) (B3 : Int) (K : Int → Nd) : Nd := .call 101 [.st [i64 B0, i64 B1, sl true ⟨1, false⟩ B2], i64 B3] fun R => .cons R.1 fun X0 X1 => .int .i64 X0 fun A0 => .nil X1 <| .nil R.2 <| K A0
theorem C101_S {f : FuncId} {B0 B1 : Int} {B2 : List TV} {B3 A0 : Int} {K : Int → Nd} (h : tw cx 101 [.st [i64 B0, i64 B1, sl true ⟨1, false⟩ B2], i64 B3] = some ([i64 A0], [])) : S cx f (C101 B0 B1 B2 B3 K) = S cx f (K A0) := call_S h rfl
noncomputable def C102 (B0 : List TV) (K : (List TV) → (List TV) → Int → Int → Bool → Nd) : Nd := .call 102 [sl true ⟨3, true⟩ B0] fun R => .cons R.1 fun X0 X1 => .st X0 fun X2 => .cons X2 fun X3 X4 => .slO ⟨1, false⟩ X3 fun A0 => .cons X4 fun X5 X6 => .slO ⟨1, false⟩ X5 fun A1 => .cons X6 fun X7 X8 => .int .i64 X7 fun A2 => .cons X8 fun X9 X10 => .int .i64 X9 fun A3 => .nil X10 <| .cons X1 fun X11 X12 => .bool X11 fun A4 => .nil X12 <| .nil R.2 <| K A0 A1 A2 A3 A4
theorem C102_S {f : FuncId} {B0 A0 A1 : List TV} {A2 A3 : Int} {A4 : Bool} {K : (List TV) → (List TV) → Int → Int → Bool → Nd} (h : tw cx 102 [sl true ⟨3, true⟩ B0] = some ([.st [sl false ⟨1, false⟩ A0, sl false ⟨1, false⟩ A1, i64 A2, i64 A3], tb A4], [])) : S cx f (C102 B0 K) = S cx f (K A0 A1 A2 A3 A4) := call_S h rfl
noncomputable def C86 (B0 B1 B2 : List TV) (K : Bool → Nd) : Nd := .call 86 [.st [sl true ⟨1, false⟩ B0, sl true ⟨1, false⟩ B1, sl true ⟨1, false⟩ B2]] fun R => .cons R.1 fun X0 X1 => .bool X0 fun A0 => .nil X1 <| .nil R.2 <| K A0
theorem C86_S {f : FuncId} {B0 B1 B2 : List TV} {A0 : Bool} {K : Bool → Nd} (h : tw cx 86 [.st [sl true ⟨1, false⟩ B0, sl true ⟨1, false⟩ B1, sl true ⟨1, false⟩ B2]] = some ([tb A0], [])) : S cx f (C86 B0 B1 B2 K) = S cx f (K A0) := call_S h rfl
noncomputable def C87 (B0 : Int) (K : Bool → Nd) : Nd := .call 87 [i64 B0] fun R => .cons R.1 fun X0 X1 => .bool X0 fun A0 => .nil X1 <| .nil R.2 <| K A0
theorem C87_S {f : FuncId} {B0 : Int} {A0 : Bool} {K : Bool → Nd} (h : tw cx 87 [i64 B0] = some ([tb A0], [])) : S cx f (C87 B0 K) = S cx f (K A0) := call_S h rfl
noncomputable def C103 (B0 B1 B2 : List TV) (B3 B4 : Int) (B5 B6 B7 : List TV) (B8 : Int) (K : (List TV) → (List TV) → (List TV) → Int → (List TV) → Nd) : Nd := .call 103 [sl true ⟨3, true⟩ B0, .st [sl true ⟨1, false⟩ B1, sl true ⟨1, false⟩ B2, i64 B3, i64 B4], .st [sl true ⟨1, false⟩ B5, sl true ⟨1, false⟩ B6, sl true ⟨1, false⟩ B7], i64 B8] fun R => .cons R.1 fun X0 X1 => .st X0 fun X2 => .cons X2 fun X3 X4 => .slO ⟨1, false⟩ X3 fun A0 => .cons X4 fun X5 X6 => .slO ⟨1, false⟩ X5 fun A1 => .cons X6 fun X7 X8 => .slO ⟨1, false⟩ X7 fun A2 => .nil X8 <| .cons X1 fun X9 X10 => .int .i64 X9 fun A3 => .cons X10 fun X11 X12 => .slO ⟨1, false⟩ X11 fun A4 => .nil X12 <| .nil R.2 <| K A0 A1 A2 A3 A4
theorem C103_S {f : FuncId} {B0 B1 B2 : List TV} {B3 B4 : Int} {B5 B6 B7 : List TV} {B8 : Int} {A0 A1 A2 : List TV} {A3 : Int} {A4 : List TV} {K : (List TV) → (List TV) → (List TV) → Int → (List TV) → Nd} (h : tw cx 103 [sl true ⟨3, true⟩ B0, .st [sl true ⟨1, false⟩ B1, sl true ⟨1, false⟩ B2, i64 B3, i64 B4], .st [sl true ⟨1, false⟩ B5, sl true ⟨1, false⟩ B6, sl true ⟨1, false⟩ B7], i64 B8] = some ([.st [sl false ⟨1, false⟩ A0, sl false ⟨1, false⟩ A1, sl false ⟨1, false⟩ A2], i64 A3, sl false ⟨1, false⟩ A4], [])) : S cx f (C103 B0 B1 B2 B3 B4 B5 B6 B7 B8 K) = S cx f (K A0 A1 A2 A3 A4) := call_S h rfl
noncomputable def C104 (B0 B1 : Int) (B2 : List TV) (K : Int → Int → (List TV) → Nd) : Nd := .call 104 [.st [i64 B0, i64 B1, sl true ⟨1, false⟩ B2]] fun R => .cons R.1 fun X0 X1 => .st X0 fun X2 => .cons X2 fun X3 X4 => .int .i64 X3 fun A0 => .cons X4 fun X5 X6 => .int .i64 X5 fun A1 => .cons X6 fun X7 X8 => .slO ⟨1, false⟩ X7 fun A2 => .nil X8 <| .nil X1 <| .nil R.2 <| K A0 A1 A2
theorem C104_S {f : FuncId} {B0 B1 : Int} {B2 : List TV} {A0 A1 : Int} {A2 : List TV} {K : Int → Int → (List TV) → Nd} (h : tw cx 104 [.st [i64 B0, i64 B1, sl true ⟨1, false⟩ B2]] = some ([.st [i64 A0, i64 A1, sl false ⟨1, false⟩ A2]], [])) : S cx f (C104 B0 B1 B2 K) = S cx f (K A0 A1 A2) := call_S h rfl
noncomputable def V4 (t : TV) (K : (List TV) → (List TV) → (List TV) → (List TV) → Nd) : Nd := .st t fun L => .cons L fun TV0 L0 => .slS ⟨3, true⟩ TV0 fun A0 => .cons L0 fun TV1 L1 => .slO ⟨1, false⟩ TV1 fun A1 => .cons L1 fun TV2 L2 => .slO ⟨1, false⟩ TV2 fun A2 => .cons L2 fun TV3 L3 => .slO ⟨1, true⟩ TV3 fun A3 => .nil L3 <| K A0 A1 A2 A3
noncomputable def V3_2 (t : TV) (K : (List TV) → (List TV) → (List TV) → Nd) : Nd := .st t fun L => .cons L fun TV0 L0 => .slO ⟨1, false⟩ TV0 fun A0 => .cons L0 fun TV1 L1 => .slO ⟨1, false⟩ TV1 fun A1 => .cons L1 fun TV2 L2 => .slO ⟨1, false⟩ TV2 fun A2 => .nil L2 <| K A0 A1 A2
noncomputable def C106 (B0 B1 B2 B3 B4 B5 B6 : List TV) (B7 B8 : Int) (B9 B10 B11 B12 : List TV) (B13 B14 : Int) (K : Int → (List TV) → (List TV) → (List TV) → (List TV) → (List TV) → (List TV) → (List TV) → (List TV) → Int → Int → (List TV) → (List TV) → (List TV) → (List TV) → Int → Nd) : Nd := .call 106 [.pt false () (.st [.pt false () (.st [.pt false () (.st [sl true ⟨3, true⟩ B0, sl false ⟨1, false⟩ B1, sl false ⟨1, false⟩ B2, sl false ⟨1, true⟩ B3]), sl false ⟨1, false⟩ B4, sl false ⟨1, false⟩ B5, sl false ⟨1, false⟩ B6, i64 B7, i64 B8]), .st [sl false ⟨1, false⟩ B9, sl false ⟨1, false⟩ B10, sl false ⟨1, false⟩ B11], sl false ⟨1, false⟩ B12, i64 B13]), i64 B14] fun R => .cons R.1 fun X0 X1 => .int .i64 X0 fun A0 => .cons X1 fun X2 X3 => .slO ⟨1, false⟩ X2 fun A1 => .nil X3 <| .cons R.2 fun X4 X5 => .ptO X4 .non fun X6 => .st X6 fun X7 => .cons X7 fun X8 X9 => .ptO X8 .non fun X10 => .st X10 fun X11 => .cons X11 fun X12 X13 => .ptO X12 .non fun X14 => .st X14 fun X15 => .cons X15 fun X16 X17 => .slS ⟨3, true⟩ X16 fun A2 => .cons X17 fun X18 X19 => .slO ⟨1, false⟩ X18 fun A3 => .cons X19 fun X20 X21 => .slO ⟨1, false⟩ X20 fun A4 => .cons X21 fun X22 X23 => .slO ⟨1, true⟩ X22 fun A5 => .nil X23 <| .cons X13 fun X24 X25 => .slO ⟨1, false⟩ X24 fun A6 => .cons X25 fun X26 X27 => .slO ⟨1, false⟩ X26 fun A7 => .cons X27 fun X28 X29 => .slO ⟨1, false⟩ X28 fun A8 => .cons X29 fun X30 X31 => .int .i64 X30 fun A9 => .cons X31 fun X32 X33 => .int .i64 X32 fun A10 => .nil X33 <| .cons X9 fun X34 X35 => .st X34 fun X36 => .cons X36 fun X37 X38 => .slO ⟨1, false⟩ X37 fun A11 => .cons X38 fun X39 X40 => .slO ⟨1, false⟩ X39 fun A12 => .cons X40 fun X41 X42 => .slO ⟨1, false⟩ X41 fun A13 => .nil X42 <| .cons X35 fun X43 X44 => .slO ⟨1, false⟩ X43 fun A14 => .cons X44 fun X45 X46 => .int .i64 X45 fun A15 => .nil X46 <| .nil X5 <| K A0 A1 A2 A3 A4 A5 A6 A7 A8 A9 A10 A11 A12 A13 A14 A15
theorem C106_S {f : FuncId} {B0 B1 B2 B3 B4 B5 B6 : List TV} {B7 B8 : Int} {B9 B10 B11 B12 : List TV} {B13 B14 A0 : Int} {A1 A2 A3 A4 A5 A6 A7 A8 : List TV} {A9 A10 : Int} {A11 A12 A13 A14 : List TV} {A15 : Int} {K : Int → (List TV) → (List TV) → (List TV) → (List TV) → (List TV) → (List TV) → (List TV) → (List TV) → Int → Int → (List TV) → (List TV) → (List TV) → (List TV) → Int → Nd} (h : tw cx 106 [.pt false () (.st [.pt false () (.st [.pt false () (.st [sl true ⟨3, true⟩ B0, sl false ⟨1, false⟩ B1, sl false ⟨1, false⟩ B2, sl false ⟨1, true⟩ B3]), sl false ⟨1, false⟩ B4, sl false ⟨1, false⟩ B5, sl false ⟨1, false⟩ B6, i64 B7, i64 B8]), .st [sl false ⟨1, false⟩ B9, sl false ⟨1, false⟩ B10, sl false ⟨1, false⟩ B11], sl false ⟨1, false⟩ B12, i64 B13]), i64 B14] = some ([i64 A0, sl false ⟨1, false⟩ A1], [.pt false () (.st [.pt false () (.st [.pt false () (.st [sl true ⟨3, true⟩ A2, sl false ⟨1, false⟩ A3, sl false ⟨1, false⟩ A4, sl false ⟨1, true⟩ A5]), sl false ⟨1, false⟩ A6, sl false ⟨1, false⟩ A7, sl false ⟨1, false⟩ A8, i64 A9, i64 A10]), .st [sl false ⟨1, false⟩ A11, sl false ⟨1, false⟩ A12, sl false ⟨1, false⟩ A13], sl false ⟨1, false⟩ A14, i64 A15])])) : S cx f (C106 B0 B1 B2 B3 B4 B5 B6 B7 B8 B9 B10 B11 B12 B13 B14 K) = S cx f (K A0 A1 A2 A3 A4 A5 A6 A7 A8 A9 A10 A11 A12 A13 A14 A15) := call_S h rfl
noncomputable def C107 (B0 B1 : List TV) (K : Bool → Nd) : Nd := .call 107 [sl true ⟨1, false⟩ B0, sl true ⟨1, false⟩ B1] fun R => .cons R.1 fun X0 X1 => .bool X0 fun A0 => .nil X1 <| .nil R.2 <| K A0
theorem C107_S {f : FuncId} {B0 B1 : List TV} {A0 : Bool} {K : Bool → Nd} (h : tw cx 107 [sl true ⟨1, false⟩ B0, sl true ⟨1, false⟩ B1] = some ([tb A0], [])) : S cx f (C107 B0 B1 K) = S cx f (K A0) := call_S h rfl
noncomputable def C108 (B0 B1 : List TV) (K : Bool → Nd) : Nd := .call 108 [sl true ⟨1, false⟩ B0, sl true ⟨1, false⟩ B1] fun R => .cons R.1 fun X0 X1 => .bool X0 fun A0 => .nil X1 <| .nil R.2 <| K A0
theorem C108_S {f : FuncId} {B0 B1 : List TV} {A0 : Bool} {K : Bool → Nd} (h : tw cx 108 [sl true ⟨1, false⟩ B0, sl true ⟨1, false⟩ B1] = some ([tb A0], [])) : S cx f (C108 B0 B1 K) = S cx f (K A0) := call_S h rfl
noncomputable def C109 (B0 B1 B2 B3 B4 B5 : List TV) (K : Bool → Nd) : Nd := .call 109 [.st [sl true ⟨1, false⟩ B0, sl true ⟨1, false⟩ B1, sl true ⟨1, false⟩ B2], .st [sl true ⟨1, false⟩ B3, sl true ⟨1, false⟩ B4, sl true ⟨1, false⟩ B5]] fun R => .cons R.1 fun X0 X1 => .bool X0 fun A0 => .nil X1 <| .nil R.2 <| K A0
theorem C109_S {f : FuncId} {B0 B1 B2 B3 B4 B5 : List TV} {A0 : Bool} {K : Bool → Nd} (h : tw cx 109 [.st [sl true ⟨1, false⟩ B0, sl true ⟨1, false⟩ B1, sl true ⟨1, false⟩ B2], .st [sl true ⟨1, false⟩ B3, sl true ⟨1, false⟩ B4, sl true ⟨1, false⟩ B5]] = some ([tb A0], [])) : S cx f (C109 B0 B1 B2 B3 B4 B5 K) = S cx f (K A0) := call_S h rfl
noncomputable def C110 (B0 B1 B2 B3 B4 B5 : List TV) (K : Bool → Nd) : Nd := .call 110 [.st [sl true ⟨1, false⟩ B0, sl true ⟨1, false⟩ B1, sl true ⟨1, false⟩ B2], .st [sl true ⟨1, false⟩ B3, sl true ⟨1, false⟩ B4, sl true ⟨1, false⟩ B5]] fun R => .cons R.1 fun X0 X1 => .bool X0 fun A0 => .nil X1 <| .nil R.2 <| K A0
theorem C110_S {f : FuncId} {B0 B1 B2 B3 B4 B5 : List TV} {A0 : Bool} {K : Bool → Nd} (h : tw cx 110 [.st [sl true ⟨1, false⟩ B0, sl true ⟨1, false⟩ B1, sl true ⟨1, false⟩ B2], .st [sl true ⟨1, false⟩ B3, sl true ⟨1, false⟩ B4, sl true ⟨1, false⟩ B5]] = some ([tb A0], [])) : S cx f (C110 B0 B1 B2 B3 B4 B5 K) = S cx f (K A0) := call_S h rfl
noncomputable def C89 (B0 B1 B2 : List TV) (K : (List TV) → (List TV) → (List TV) → Nd) : Nd := .call 89 [.st [sl true ⟨1, false⟩ B0, sl true ⟨1, false⟩ B1, sl true ⟨1, false⟩ B2]] fun R => .cons R.1 fun X0 X1 => .st X0 fun X2 => .cons X2 fun X3 X4 => .slO ⟨1, false⟩ X3 fun A0 => .cons X4 fun X5 X6 => .slO ⟨1, false⟩ X5 fun A1 => .cons X6 fun X7 X8 => .slO ⟨1, false⟩ X7 fun A2 => .nil X8 <| .nil X1 <| .nil R.2 <| K A0 A1 A2
theorem C89_S {f : FuncId} {B0 B1 B2 A0 A1 A2 : List TV} {K : (List TV) → (List TV) → (List TV) → Nd} (h : tw cx 89 [.st [sl true ⟨1, false⟩ B0, sl true ⟨1, false⟩ B1, sl true ⟨1, false⟩ B2]] = some ([.st [sl false ⟨1, false⟩ A0, sl false ⟨1, false⟩ A1, sl false ⟨1, false⟩ A2]], [])) : S cx f (C89 B0 B1 B2 K) = S cx f (K A0 A1 A2) := call_S h rfl
noncomputable def C122 (B0 : List TV) (B1 : Int) (K : Bool → Nd) : Nd := .call 122 [sl true ⟨1, false⟩ B0, i64 B1] fun R => .cons R.1 fun X0 X1 => .bool X0 fun A0 => .nil X1 <| .nil R.2 <| K A0
theorem C122_S {f : FuncId} {B0 : List TV} {B1 : Int} {A0 : Bool} {K : Bool → Nd} (h : tw cx 122 [sl true ⟨1, false⟩ B0, i64 B1] = some ([tb A0], [])) : S cx f (C122 B0 B1 K) = S cx f (K A0) := call_S h rfl
noncomputable def C112 (B0 B1 B2 : Int) (K : Bool → Nd) : Nd := .call 112 [i64 B0, i64 B1, i64 B2] fun R => .cons R.1 fun X0 X1 => .bool X0 fun A0 => .nil X1 <| .nil R.2 <| K A0
theorem C112_S {f : FuncId} {B0 B1 B2 : Int} {A0 : Bool} {K : Bool → Nd} (h : tw cx 112 [i64 B0, i64 B1, i64 B2] = some ([tb A0], [])) : S cx f (C112 B0 B1 B2 K) = S cx f (K A0) := call_S h rfl
noncomputable def C128 (B0 : List TV) (K : Bool → Nd) : Nd := .call 128 [sl true ⟨1, false⟩ B0] fun R => .cons R.1 fun X0 X1 => .bool X0 fun A0 => .nil X1 <| .nil R.2 <| K A0
theorem C128_S {f : FuncId} {B0 : List TV} {A0 : Bool} {K : Bool → Nd} (h : tw cx 128 [sl true ⟨1, false⟩ B0] = some ([tb A0], [])) : S cx f (C128 B0 K) = S cx f (K A0) := call_S h rfl
noncomputable def C129 (B0 : List TV) (K : (List TV) → Nd) : Nd := .call 129 [sl true ⟨1, false⟩ B0] fun R => .cons R.1 fun X0 X1 => .slO ⟨1, false⟩ X0 fun A0 => .nil X1 <| .nil R.2 <| K A0
theorem C129_S {f : FuncId} {B0 A0 : List TV} {K : (List TV) → Nd} (h : tw cx 129 [sl true ⟨1, false⟩ B0] = some ([sl false ⟨1, false⟩ A0], [])) : S cx f (C129 B0 K) = S cx f (K A0) := call_S h rfl
noncomputable def C137 (B0 : List TV) (K : (List TV) → Bool → Nd) : Nd := .call 137 [sl true ⟨3, true⟩ B0] fun R => .cons R.1 fun X0 X1 => .slO ⟨1, false⟩ X0 fun A0 => .cons X1 fun X2 X3 => .bool X2 fun A1 => .nil X3 <| .nil R.2 <| K A0 A1
theorem C137_S {f : FuncId} {B0 A0 : List TV} {A1 : Bool} {K : (List TV) → Bool → Nd} (h : tw cx 137 [sl true ⟨3, true⟩ B0] = some ([sl false ⟨1, false⟩ A0, tb A1], [])) : S cx f (C137 B0 K) = S cx f (K A0 A1) := call_S h rfl
noncomputable def C98 (B0 : List TV) (K : Bool → Nd) : Nd := .call 98 [sl true ⟨3, true⟩ B0] fun R => .cons R.1 fun X0 X1 => .bool X0 fun A0 => .nil X1 <| .nil R.2 <| K A0
theorem C98_S {f : FuncId} {B0 : List TV} {A0 : Bool} {K : Bool → Nd} (h : tw cx 98 [sl true ⟨3, true⟩ B0] = some ([tb A0], [])) : S cx f (C98 B0 K) = S cx f (K A0) := call_S h rfl
noncomputable def C143 (B0 : List TV) (K : (List TV) → (List TV) → Int → Int → Nd) : Nd := .call 143 [sl true ⟨3, true⟩ B0] fun R => .cons R.1 fun X0 X1 => .st X0 fun X2 => .cons X2 fun X3 X4 => .slO ⟨1, false⟩ X3 fun A0 => .cons X4 fun X5 X6 => .slO ⟨1, false⟩ X5 fun A1 => .cons X6 fun X7 X8 => .int .i64 X7 fun A2 => .cons X8 fun X9 X10 => .int .i64 X9 fun A3 => .nil X10 <| .nil X1 <| .nil R.2 <| K A0 A1 A2 A3
theorem C143_S {f : FuncId} {B0 A0 A1 : List TV} {A2 A3 : Int} {K : (List TV) → (List TV) → Int → Int → Nd} (h : tw cx 143 [sl true ⟨3, true⟩ B0] = some ([.st [sl false ⟨1, false⟩ A0, sl false ⟨1, false⟩ A1, i64 A2, i64 A3]], [])) : S cx f (C143 B0 K) = S cx f (K A0 A1 A2 A3) := call_S h rfl
noncomputable def C144 (B0 B1 B2 B3 B4 B5 B6 : List TV) (B7 : Int) (K : Bool → (List TV) → (List TV) → (List TV) → (List TV) → (List TV) → (List TV) → (List TV) → Int → Nd) : Nd := .call 144 [.pt false () (.st [sl true ⟨3, true⟩ B0, sl false ⟨1, false⟩ B1, sl true ⟨1, false⟩ B2, .st [sl false ⟨1, false⟩ B3, sl false ⟨1, false⟩ B4, sl false ⟨1, false⟩ B5], sl false ⟨1, false⟩ B6, i64 B7])] fun R => .cons R.1 fun X0 X1 => .bool X0 fun A0 => .nil X1 <| .cons R.2 fun X2 X3 => .ptO X2 .non fun X4 => .st X4 fun X5 => .cons X5 fun X6 X7 => .slS ⟨3, true⟩ X6 fun A1 => .cons X7 fun X8 X9 => .slO ⟨1, false⟩ X8 fun A2 => .cons X9 fun X10 X11 => .slS ⟨1, false⟩ X10 fun A3 => .cons X11 fun X12 X13 => .st X12 fun X14 => .cons X14 fun X15 X16 => .slO ⟨1, false⟩ X15 fun A4 => .cons X16 fun X17 X18 => .slO ⟨1, false⟩ X17 fun A5 => .cons X18 fun X19 X20 => .slO ⟨1, false⟩ X19 fun A6 => .nil X20 <| .cons X13 fun X21 X22 => .slO ⟨1, false⟩ X21 fun A7 => .cons X22 fun X23 X24 => .int .i64 X23 fun A8 => .nil X24 <| .nil X3 <| K A0 A1 A2 A3 A4 A5 A6 A7 A8
theorem C144_S {f : FuncId} {B0 B1 B2 B3 B4 B5 B6 : List TV} {B7 : Int} {A0 : Bool} {A1 A2 A3 A4 A5 A6 A7 : List TV} {A8 : Int} {K : Bool → (List TV) → (List TV) → (List TV) → (List TV) → (List TV) → (List TV) → (List TV) → Int → Nd} (h : tw cx 144 [.pt false () (.st [sl true ⟨3, true⟩ B0, sl false ⟨1, false⟩ B1, sl true ⟨1, false⟩ B2, .st [sl false ⟨1, false⟩ B3, sl false ⟨1, false⟩ B4, sl false ⟨1, false⟩ B5], sl false ⟨1, false⟩ B6, i64 B7])] = some ([tb A0], [.pt false () (.st [sl true ⟨3, true⟩ A1, sl false ⟨1, false⟩ A2, sl true ⟨1, false⟩ A3, .st [sl false ⟨1, false⟩ A4, sl false ⟨1, false⟩ A5, sl false ⟨1, false⟩ A6], sl false ⟨1, false⟩ A7, i64 A8])])) : S cx f (C144 B0 B1 B2 B3 B4 B5 B6 B7 K) = S cx f (K A0 A1 A2 A3 A4 A5 A6 A7 A8) := call_S h rfl
noncomputable def C92 (B0 B1 B2 : List TV) (K : Bool → Nd) : Nd := .call 92 [.st [sl true ⟨1, false⟩ B0, sl true ⟨1, false⟩ B1, sl true ⟨1, false⟩ B2]] fun R => .cons R.1 fun X0 X1 => .bool X0 fun A0 => .nil X1 <| .nil R.2 <| K A0
theorem C92_S {f : FuncId} {B0 B1 B2 : List TV} {A0 : Bool} {K : Bool → Nd} (h : tw cx 92 [.st [sl true ⟨1, false⟩ B0, sl true ⟨1, false⟩ B1, sl true ⟨1, false⟩ B2]] = some ([tb A0], [])) : S cx f (C92 B0 B1 B2 K) = S cx f (K A0) := call_S h rfl
noncomputable def C65 (B0 B1 B2 : Int) (K : Bool → Nd) : Nd := .call 65 [i64 B0, i64 B1, i64 B2] fun R => .cons R.1 fun X0 X1 => .bool X0 fun A0 => .nil X1 <| .nil R.2 <| K A0
theorem C65_S {f : FuncId} {B0 B1 B2 : Int} {A0 : Bool} {K : Bool → Nd} (h : tw cx 65 [i64 B0, i64 B1, i64 B2] = some ([tb A0], [])) : S cx f (C65 B0 B1 B2 K) = S cx f (K A0) := call_S h rfl
noncomputable def C93 (B0 B1 B2 : List TV) (K : (List TV) → (List TV) → (List TV) → Nd) : Nd := .call 93 [.st [sl true ⟨1, false⟩ B0, sl true ⟨1, false⟩ B1, sl true ⟨1, false⟩ B2]] fun R => .cons R.1 fun X0 X1 => .st X0 fun X2 => .cons X2 fun X3 X4 => .slO ⟨1, false⟩ X3 fun A0 => .cons X4 fun X5 X6 => .slO ⟨1, false⟩ X5 fun A1 => .cons X6 fun X7 X8 => .slO ⟨1, false⟩ X7 fun A2 => .nil X8 <| .nil X1 <| .nil R.2 <| K A0 A1 A2
theorem C93_S {f : FuncId} {B0 B1 B2 A0 A1 A2 : List TV} {K : (List TV) → (List TV) → (List TV) → Nd} (h : tw cx 93 [.st [sl true ⟨1, false⟩ B0, sl true ⟨1, false⟩ B1, sl true ⟨1, false⟩ B2]] = some ([.st [sl false ⟨1, false⟩ A0, sl false ⟨1, false⟩ A1, sl false ⟨1, false⟩ A2]], [])) : S cx f (C93 B0 B1 B2 K) = S cx f (K A0 A1 A2) := call_S h rfl
noncomputable def C146 (B0 B1 B2 B3 B4 B5 B6 : List TV) (B7 B8 : Int) (B9 B10 B11 B12 : List TV) (B13 : Int) (K : Bool → (List TV) → (List TV) → (List TV) → (List TV) → (List TV) → (List TV) → (List TV) → Int → Int → (List TV) → (List TV) → (List TV) → (List TV) → Int → Nd) : Nd := .call 146 [.pt false () (.st [.pt false () (.st [.pt false () (.st [sl true ⟨3, true⟩ B0, sl false ⟨1, false⟩ B1, sl false ⟨1, false⟩ B2, sl false ⟨1, true⟩ B3]), sl false ⟨1, false⟩ B4, sl false ⟨1, false⟩ B5, sl false ⟨1, false⟩ B6, i64 B7, i64 B8]), .st [sl false ⟨1, false⟩ B9, sl false ⟨1, false⟩ B10, sl false ⟨1, false⟩ B11], sl false ⟨1, false⟩ B12, i64 B13])] fun R => .cons R.1 fun X0 X1 => .bool X0 fun A0 => .nil X1 <| .cons R.2 fun X2 X3 => .ptO X2 .non fun X4 => .st X4 fun X5 => .cons X5 fun X6 X7 => .ptO X6 .non fun X8 => .st X8 fun X9 => .cons X9 fun X10 X11 => .ptO X10 .non fun X12 => .st X12 fun X13 => .cons X13 fun X14 X15 => .slS ⟨3, true⟩ X14 fun A1 => .cons X15 fun X16 X17 => .slO ⟨1, false⟩ X16 fun A2 => .cons X17 fun X18 X19 => .slO ⟨1, false⟩ X18 fun A3 => .cons X19 fun X20 X21 => .slO ⟨1, true⟩ X20 fun A4 => .nil X21 <| .cons X11 fun X22 X23 => .slO ⟨1, false⟩ X22 fun A5 => .cons X23 fun X24 X25 => .slO ⟨1, false⟩ X24 fun A6 => .cons X25 fun X26 X27 => .slO ⟨1, false⟩ X26 fun A7 => .cons X27 fun X28 X29 => .int .i64 X28 fun A8 => .cons X29 fun X30 X31 => .int .i64 X30 fun A9 => .nil X31 <| .cons X7 fun X32 X33 => .st X32 fun X34 => .cons X34 fun X35 X36 => .slO ⟨1, false⟩ X35 fun A10 => .cons X36 fun X37 X38 => .slO ⟨1, false⟩ X37 fun A11 => .cons X38 fun X39 X40 => .slO ⟨1, false⟩ X39 fun A12 => .nil X40 <| .cons X33 fun X41 X42 => .slO ⟨1, false⟩ X41 fun A13 => .cons X42 fun X43 X44 => .int .i64 X43 fun A14 => .nil X44 <| .nil X3 <| K A0 A1 A2 A3 A4 A5 A6 A7 A8 A9 A10 A11 A12 A13 A14
theorem C146_S {f : FuncId} {B0 B1 B2 B3 B4 B5 B6 : List TV} {B7 B8 : Int} {B9 B10 B11 B12 : List TV} {B13 : Int} {A0 : Bool} {A1 A2 A3 A4 A5 A6 A7 : List TV} {A8 A9 : Int} {A10 A11 A12 A13 : List TV} {A14 : Int} {K : Bool → (List TV) → (List TV) → (List TV) → (List TV) → (List TV) → (List TV) → (List TV) → Int → Int → (List TV) → (List TV) → (List TV) → (List TV) → Int → Nd} (h : tw cx 146 [.pt false () (.st [.pt false () (.st [.pt false () (.st [sl true ⟨3, true⟩ B0, sl false ⟨1, false⟩ B1, sl false ⟨1, false⟩ B2, sl false ⟨1, true⟩ B3]), sl false ⟨1, false⟩ B4, sl false ⟨1, false⟩ B5, sl false ⟨1, false⟩ B6, i64 B7, i64 B8]), .st [sl false ⟨1, false⟩ B9, sl false ⟨1, false⟩ B10, sl false ⟨1, false⟩ B11], sl false ⟨1, false⟩ B12, i64 B13])] = some ([tb A0], [.pt false () (.st [.pt false () (.st [.pt false () (.st [sl true ⟨3, true⟩ A1, sl false ⟨1, false⟩ A2, sl false ⟨1, false⟩ A3, sl false ⟨1, true⟩ A4]), sl false ⟨1, false⟩ A5, sl false ⟨1, false⟩ A6, sl false ⟨1, false⟩ A7, i64 A8, i64 A9]), .st [sl false ⟨1, false⟩ A10, sl false ⟨1, false⟩ A11, sl false ⟨1, false⟩ A12], sl false ⟨1, false⟩ A13, i64 A14])])) : S cx f (C146 B0 B1 B2 B3 B4 B5 B6 B7 B8 B9 B10 B11 B12 B13 K) = S cx f (K A0 A1 A2 A3 A4 A5 A6 A7 A8 A9 A10 A11 A12 A13 A14) := call_S h rfl
noncomputable def C156 (B0 : List TV) (K : Bool → Nd) : Nd := .call 156 [sl true ⟨1, false⟩ B0, .cl 158 []] fun R => .cons R.1 fun X0 X1 => .bool X0 fun A0 => .nil X1 <| .nil R.2 <| K A0
theorem C156_S {f : FuncId} {B0 : List TV} {A0 : Bool} {K : Bool → Nd} (h : tw cx 156 [sl true ⟨1, false⟩ B0, .cl 158 []] = some ([tb A0], [])) : S cx f (C156 B0 K) = S cx f (K A0) := call_S h rfl
noncomputable def C134 (B0 : Bool) (K : Int → Nd) : Nd := .call 134 [tb B0] fun R => .cons R.1 fun X0 X1 => .int .i64 X0 fun A0 => .nil X1 <| .nil R.2 <| K A0
theorem C134_S {f : FuncId} {B0 : Bool} {A0 : Int} {K : Int → Nd} (h : tw cx 134 [tb B0] = some ([i64 A0], [])) : S cx f (C134 B0 K) = S cx f (K A0) := call_S h rfl
noncomputable def C161 (B0 B1 : Int) (B2 : List TV) (K : Bool → Nd) : Nd := .call 161 [.st [i64 B0, i64 B1, sl true ⟨1, false⟩ B2]] fun R => .cons R.1 fun X0 X1 => .bool X0 fun A0 => .nil X1 <| .nil R.2 <| K A0
theorem C161_S {f : FuncId} {B0 B1 : Int} {B2 : List TV} {A0 : Bool} {K : Bool → Nd} (h : tw cx 161 [.st [i64 B0, i64 B1, sl true ⟨1, false⟩ B2]] = some ([tb A0], [])) : S cx f (C161 B0 B1 B2 K) = S cx f (K A0) := call_S h rfl
noncomputable def C162 (B0 B1 : Int) (B2 : List TV) (B3 : Int) (K : Bool → Nd) : Nd := .call 162 [.st [i64 B0, i64 B1, sl true ⟨1, false⟩ B2], i64 B3] fun R => .cons R.1 fun X0 X1 => .bool X0 fun A0 => .nil X1 <| .nil R.2 <| K A0
theorem C162_S {f : FuncId} {B0 B1 : Int} {B2 : List TV} {B3 : Int} {A0 : Bool} {K : Bool → Nd} (h : tw cx 162 [.st [i64 B0, i64 B1, sl true ⟨1, false⟩ B2], i64 B3] = some ([tb A0], [])) : S cx f (C162 B0 B1 B2 B3 K) = S cx f (K A0) := call_S h rfl
noncomputable def C163 (B0 : Int) (K : Bool → Nd) : Nd := .call 163 [i64 B0] fun R => .cons R.1 fun X0 X1 => .bool X0 fun A0 => .nil X1 <| .nil R.2 <| K A0
theorem C163_S {f : FuncId} {B0 : Int} {A0 : Bool} {K : Bool → Nd} (h : tw cx 163 [i64 B0] = some ([tb A0], [])) : S cx f (C163 B0 K) = S cx f (K A0) := call_S h rfl
noncomputable def C169 (B0 : List TV) (B1 : Int) (K : (List TV) → Nd) : Nd := .call 169 [sl true ⟨1, false⟩ B0, i64 B1] fun R => .cons R.1 fun X0 X1 => .slO ⟨1, false⟩ X0 fun A0 => .nil X1 <| .nil R.2 <| K A0
theorem C169_S {f : FuncId} {B0 : List TV} {B1 : Int} {A0 : List TV} {K : (List TV) → Nd} (h : tw cx 169 [sl true ⟨1, false⟩ B0, i64 B1] = some ([sl false ⟨1, false⟩ A0], [])) : S cx f (C169 B0 B1 K) = S cx f (K A0) := call_S h rfl
noncomputable def C166 (B0 : List TV) (K : Bool → Nd) : Nd := .call 166 [sl true ⟨3, true⟩ B0, .cl 167 []] fun R => .cons R.1 fun X0 X1 => .bool X0 fun A0 => .nil X1 <| .nil R.2 <| K A0
theorem C166_S {f : FuncId} {B0 : List TV} {A0 : Bool} {K : Bool → Nd} (h : tw cx 166 [sl true ⟨3, true⟩ B0, .cl 167 []] = some ([tb A0], [])) : S cx f (C166 B0 K) = S cx f (K A0) := call_S h rfl
noncomputable def C170 (B0 B1 : Int) (B2 : List TV) (K : Int → Nd) : Nd := .call 170 [.st [i64 B0, i64 B1, sl true ⟨1, false⟩ B2]] fun R => .cons R.1 fun X0 X1 => .int .i64 X0 fun A0 => .nil X1 <| .nil R.2 <| K A0
theorem C170_S {f : FuncId} {B0 B1 : Int} {B2 : List TV} {A0 : Int} {K : Int → Nd} (h : tw cx 170 [.st [i64 B0, i64 B1, sl true ⟨1, false⟩ B2]] = some ([i64 A0], [])) : S cx f (C170 B0 B1 B2 K) = S cx f (K A0) := call_S h rfl
noncomputable def C171 (B0 : Int) (K : Bool → Nd) : Nd := .call 171 [i64 B0] fun R => .cons R.1 fun X0 X1 => .bool X0 fun A0 => .nil X1 <| .nil R.2 <| K A0
theorem C171_S {f : FuncId} {B0 : Int} {A0 : Bool} {K : Bool → Nd} (h : tw cx 171 [i64 B0] = some ([tb A0], [])) : S cx f (C171 B0 K) = S cx f (K A0) := call_S h rfl
noncomputable def C172 (B0 : Int) (K : Int → Int → Nd) : Nd := .call 172 [i64 B0] fun R => .cons R.1 fun X0 X1 => .int .i64 X0 fun A0 => .cons X1 fun X2 X3 => .int .i64 X2 fun A1 => .nil X3 <| .nil R.2 <| K A0 A1
theorem C172_S {f : FuncId} {B0 A0 A1 : Int} {K : Int → Int → Nd} (h : tw cx 172 [i64 B0] = some ([i64 A0, i64 A1], [])) : S cx f (C172 B0 K) = S cx f (K A0 A1) := call_S h rfl
noncomputable def C153 (B0 B1 B2 : Int) (K : Int → Bool → Nd) : Nd := .call 153 [i64 B0, i64 B1, i64 B2] fun R => .cons R.1 fun X0 X1 => .int .i64 X0 fun A0 => .cons X1 fun X2 X3 => .bool X2 fun A1 => .nil X3 <| .nil R.2 <| K A0 A1
theorem C153_S {f : FuncId} {B0 B1 B2 A0 : Int} {A1 : Bool} {K : Int → Bool → Nd} (h : tw cx 153 [i64 B0, i64 B1, i64 B2] = some ([i64 A0, tb A1], [])) : S cx f (C153 B0 B1 B2 K) = S cx f (K A0 A1) := call_S h rfl
noncomputable def C174 (B0 B1 : List TV) (B2 : Int) (K : Int → Nd) : Nd := .call 174 [sl true ⟨3, true⟩ B0, sl true ⟨1, false⟩ B1, i64 B2] fun R => .cons R.1 fun X0 X1 => .int .i64 X0 fun A0 => .nil X1 <| .nil R.2 <| K A0
theorem C174_S {f : FuncId} {B0 B1 : List TV} {B2 A0 : Int} {K : Int → Nd} (h : tw cx 174 [sl true ⟨3, true⟩ B0, sl true ⟨1, false⟩ B1, i64 B2] = some ([i64 A0], [])) : S cx f (C174 B0 B1 B2 K) = S cx f (K A0) := call_S h rfl
noncomputable def C175 (B0 B1 B2 B3 B4 B5 B6 : List TV) (B7 B8 B9 : Int) (K : (List TV) → (List TV) → (List TV) → (List TV) → (List TV) → (List TV) → (List TV) → Int → Nd) : Nd := .call 175 [.pt false () (.st [sl true ⟨3, true⟩ B0, sl false ⟨1, false⟩ B1, sl true ⟨1, false⟩ B2, .st [sl false ⟨1, false⟩ B3, sl false ⟨1, false⟩ B4, sl false ⟨1, false⟩ B5], sl false ⟨1, false⟩ B6, i64 B7]), i64 B8, i64 B9] fun R => .nil R.1 <| .cons R.2 fun X0 X1 => .ptO X0 .non fun X2 => .st X2 fun X3 => .cons X3 fun X4 X5 => .slS ⟨3, true⟩ X4 fun A0 => .cons X5 fun X6 X7 => .slO ⟨1, false⟩ X6 fun A1 => .cons X7 fun X8 X9 => .slS ⟨1, false⟩ X8 fun A2 => .cons X9 fun X10 X11 => .st X10 fun X12 => .cons X12 fun X13 X14 => .slO ⟨1, false⟩ X13 fun A3 => .cons X14 fun X15 X16 => .slO ⟨1, false⟩ X15 fun A4 => .cons X16 fun X17 X18 => .slO ⟨1, false⟩ X17 fun A5 => .nil X18 <| .cons X11 fun X19 X20 => .slO ⟨1, false⟩ X19 fun A6 => .cons X20 fun X21 X22 => .int .i64 X21 fun A7 => .nil X22 <| .nil X1 <| K A0 A1 A2 A3 A4 A5 A6 A7
theorem C175_S {f : FuncId} {B0 B1 B2 B3 B4 B5 B6 : List TV} {B7 B8 B9 : Int} {A0 A1 A2 A3 A4 A5 A6 : List TV} {A7 : Int} {K : (List TV) → (List TV) → (List TV) → (List TV) → (List TV) → (List TV) → (List TV) → Int → Nd} (h : tw cx 175 [.pt false () (.st [sl true ⟨3, true⟩ B0, sl false ⟨1, false⟩ B1, sl true ⟨1, false⟩ B2, .st [sl false ⟨1, false⟩ B3, sl false ⟨1, false⟩ B4, sl false ⟨1, false⟩ B5], sl false ⟨1, false⟩ B6, i64 B7]), i64 B8, i64 B9] = some ([], [.pt false () (.st [sl true ⟨3, true⟩ A0, sl false ⟨1, false⟩ A1, sl true ⟨1, false⟩ A2, .st [sl false ⟨1, false⟩ A3, sl false ⟨1, false⟩ A4, sl false ⟨1, false⟩ A5], sl false ⟨1, false⟩ A6, i64 A7])])) : S cx f (C175 B0 B1 B2 B3 B4 B5 B6 B7 B8 B9 K) = S cx f (K A0 A1 A2 A3 A4 A5 A6 A7) := call_S h rfl
noncomputable def C130 (B0 B1 B2 : Int) (K : Int → Bool → Nd) : Nd := .call 130 [i64 B0, i64 B1, i64 B2] fun R => .cons R.1 fun X0 X1 => .int .i64 X0 fun A0 => .cons X1 fun X2 X3 => .bool X2 fun A1 => .nil X3 <| .nil R.2 <| K A0 A1
theorem C130_S {f : FuncId} {B0 B1 B2 A0 : Int} {A1 : Bool} {K : Int → Bool → Nd} (h : tw cx 130 [i64 B0, i64 B1, i64 B2] = some ([i64 A0, tb A1], [])) : S cx f (C130 B0 B1 B2 K) = S cx f (K A0 A1) := call_S h rfl
noncomputable def C179 (B0 : Int) (K : Bool → Nd) : Nd := .call 179 [i64 B0] fun R => .cons R.1 fun X0 X1 => .bool X0 fun A0 => .nil X1 <| .nil R.2 <| K A0
theorem C179_S {f : FuncId} {B0 : Int} {A0 : Bool} {K : Bool → Nd} (h : tw cx 179 [i64 B0] = some ([tb A0], [])) : S cx f (C179 B0 K) = S cx f (K A0) := call_S h rfl
noncomputable def C180 (B0 B1 B2 B3 B4 B5 B6 : List TV) (B7 B8 : Int) (B9 B10 B11 B12 : List TV) (B13 B14 B15 B16 : Int) (B17 : List TV) (K : (List TV) → (List TV) → (List TV) → (List TV) → (List TV) → (List TV) → (List TV) → Int → Int → (List TV) → (List TV) → (List TV) → (List TV) → Int → Nd) : Nd := .call 180 [.pt false () (.st [.pt false () (.st [.pt false () (.st [sl true ⟨3, true⟩ B0, sl false ⟨1, false⟩ B1, sl false ⟨1, false⟩ B2, sl false ⟨1, true⟩ B3]), sl false ⟨1, false⟩ B4, sl false ⟨1, false⟩ B5, sl false ⟨1, false⟩ B6, i64 B7, i64 B8]), .st [sl false ⟨1, false⟩ B9, sl false ⟨1, false⟩ B10, sl false ⟨1, false⟩ B11], sl false ⟨1, false⟩ B12, i64 B13]), i64 B14, .st [i64 B15, i64 B16, sl true ⟨1, false⟩ B17]] fun R => .nil R.1 <| .cons R.2 fun X0 X1 => .ptO X0 .non fun X2 => .st X2 fun X3 => .cons X3 fun X4 X5 => .ptO X4 .non fun X6 => .st X6 fun X7 => .cons X7 fun X8 X9 => .ptO X8 .non fun X10 => .st X10 fun X11 => .cons X11 fun X12 X13 => .slS ⟨3, true⟩ X12 fun A0 => .cons X13 fun X14 X15 => .slO ⟨1, false⟩ X14 fun A1 => .cons X15 fun X16 X17 => .slO ⟨1, false⟩ X16 fun A2 => .cons X17 fun X18 X19 => .slO ⟨1, true⟩ X18 fun A3 => .nil X19 <| .cons X9 fun X20 X21 => .slO ⟨1, false⟩ X20 fun A4 => .cons X21 fun X22 X23 => .slO ⟨1, false⟩ X22 fun A5 => .cons X23 fun X24 X25 => .slO ⟨1, false⟩ X24 fun A6 => .cons X25 fun X26 X27 => .int .i64 X26 fun A7 => .cons X27 fun X28 X29 => .int .i64 X28 fun A8 => .nil X29 <| .cons X5 fun X30 X31 => .st X30 fun X32 => .cons X32 fun X33 X34 => .slO ⟨1, false⟩ X33 fun A9 => .cons X34 fun X35 X36 => .slO ⟨1, false⟩ X35 fun A10 => .cons X36 fun X37 X38 => .slO ⟨1, false⟩ X37 fun A11 => .nil X38 <| .cons X31 fun X39 X40 => .slO ⟨1, false⟩ X39 fun A12 => .cons X40 fun X41 X42 => .int .i64 X41 fun A13 => .nil X42 <| .nil X1 <| K A0 A1 A2 A3 A4 A5 A6 A7 A8 A9 A10 A11 A12 A13
theorem C180_S {f : FuncId} {B0 B1 B2 B3 B4 B5 B6 : List TV} {B7 B8 : Int} {B9 B10 B11 B12 : List TV} {B13 B14 B15 B16 : Int} {B17 A0 A1 A2 A3 A4 A5 A6 : List TV} {A7 A8 : Int} {A9 A10 A11 A12 : List TV} {A13 : Int} {K : (List TV) → (List TV) → (List TV) → (List TV) → (List TV) → (List TV) → (List TV) → Int → Int → (List TV) → (List TV) → (List TV) → (List TV) → Int → Nd} (h : tw cx 180 [.pt false () (.st [.pt false () (.st [.pt false () (.st [sl true ⟨3, true⟩ B0, sl false ⟨1, false⟩ B1, sl false ⟨1, false⟩ B2, sl false ⟨1, true⟩ B3]), sl false ⟨1, false⟩ B4, sl false ⟨1, false⟩ B5, sl false ⟨1, false⟩ B6, i64 B7, i64 B8]), .st [sl false ⟨1, false⟩ B9, sl false ⟨1, false⟩ B10, sl false ⟨1, false⟩ B11], sl false ⟨1, false⟩ B12, i64 B13]), i64 B14, .st [i64 B15, i64 B16, sl true ⟨1, false⟩ B17]] = some ([], [.pt false () (.st [.pt false () (.st [.pt false () (.st [sl true ⟨3, true⟩ A0, sl false ⟨1, false⟩ A1, sl false ⟨1, false⟩ A2, sl false ⟨1, true⟩ A3]), sl false ⟨1, false⟩ A4, sl false ⟨1, false⟩ A5, sl false ⟨1, false⟩ A6, i64 A7, i64 A8]), .st [sl false ⟨1, false⟩ A9, sl false ⟨1, false⟩ A10, sl false ⟨1, false⟩ A11], sl false ⟨1, false⟩ A12, i64 A13])])) : S cx f (C180 B0 B1 B2 B3 B4 B5 B6 B7 B8 B9 B10 B11 B12 B13 B14 B15 B16 B17 K) = S cx f (K A0 A1 A2 A3 A4 A5 A6 A7 A8 A9 A10 A11 A12 A13) := call_S h rfl
noncomputable def C183 (B0 : Bool) (K : Int → Nd) : Nd := .call 183 [tb B0] fun R => .cons R.1 fun X0 X1 => .int .i64 X0 fun A0 => .nil X1 <| .nil R.2 <| K A0
theorem C183_S {f : FuncId} {B0 : Bool} {A0 : Int} {K : Int → Nd} (h : tw cx 183 [tb B0] = some ([i64 A0], [])) : S cx f (C183 B0 K) = S cx f (K A0) := call_S h rfl
noncomputable def C184 (B0 : List TV) (K : Int → Nd) : Nd := .call 184 [sl true ⟨1, false⟩ B0, .cl 158 []] fun R => .cons R.1 fun X0 X1 => .int .i64 X0 fun A0 => .nil X1 <| .nil R.2 <| K A0
theorem C184_S {f : FuncId} {B0 : List TV} {A0 : Int} {K : Int → Nd} (h : tw cx 184 [sl true ⟨1, false⟩ B0, .cl 158 []] = some ([i64 A0], [])) : S cx f (C184 B0 K) = S cx f (K A0) := call_S h rfl
noncomputable def C184_1 (B0 : List TV) (K : Int → Nd) : Nd := .call 184 [sl true ⟨1, false⟩ B0, .cl 189 []] fun R => .cons R.1 fun X0 X1 => .int .i64 X0 fun A0 => .nil X1 <| .nil R.2 <| K A0
theorem C184_1_S {f : FuncId} {B0 : List TV} {A0 : Int} {K : Int → Nd} (h : tw cx 184 [sl true ⟨1, false⟩ B0, .cl 189 []] = some ([i64 A0], [])) : S cx f (C184_1 B0 K) = S cx f (K A0) := call_S h rfl
noncomputable def C159 (B0 : Int) (K : Bool → Nd) : Nd := .call 159 [i64 B0] fun R => .cons R.1 fun X0 X1 => .bool X0 fun A0 => .nil X1 <| .nil R.2 <| K A0
theorem C159_S {f : FuncId} {B0 : Int} {A0 : Bool} {K : Bool → Nd} (h : tw cx 159 [i64 B0] = some ([tb A0], [])) : S cx f (C159 B0 K) = S cx f (K A0) := call_S h rfl
noncomputable def C185 (B0 : Int) (K : Bool → Nd) : Nd := .call 185 [i64 B0] fun R => .cons R.1 fun X0 X1 => .bool X0 fun A0 => .nil X1 <| .nil R.2 <| K A0
theorem C185_S {f : FuncId} {B0 : Int} {A0 : Bool} {K : Bool → Nd} (h : tw cx 185 [i64 B0] = some ([tb A0], [])) : S cx f (C185 B0 K) = S cx f (K A0) := call_S h rfl
noncomputable def C187 (B0 : List TV) (K : Int → Nd) : Nd := .call 187 [sl true ⟨3, true⟩ B0, .cl 167 []] fun R => .cons R.1 fun X0 X1 => .int .i64 X0 fun A0 => .nil X1 <| .nil R.2 <| K A0
theorem C187_S {f : FuncId} {B0 : List TV} {A0 : Int} {K : Int → Nd} (h : tw cx 187 [sl true ⟨3, true⟩ B0, .cl 167 []] = some ([i64 A0], [])) : S cx f (C187 B0 K) = S cx f (K A0) := call_S h rfl
noncomputable def C168 (B0 B1 : Int) (B2 : List TV) (K : Bool → Nd) : Nd := .call 168 [.st [i64 B0, i64 B1, sl true ⟨1, false⟩ B2]] fun R => .cons R.1 fun X0 X1 => .bool X0 fun A0 => .nil X1 <| .nil R.2 <| K A0
theorem C168_S {f : FuncId} {B0 B1 : Int} {B2 : List TV} {A0 : Bool} {K : Bool → Nd} (h : tw cx 168 [.st [i64 B0, i64 B1, sl true ⟨1, false⟩ B2]] = some ([tb A0], [])) : S cx f (C168 B0 B1 B2 K) = S cx f (K A0) := call_S h rfl
noncomputable def C188 (B0 : Int) (K : Bool → Nd) : Nd := .call 188 [i64 B0] fun R => .cons R.1 fun X0 X1 => .bool X0 fun A0 => .nil X1 <| .nil R.2 <| K A0
theorem C188_S {f : FuncId} {B0 : Int} {A0 : Bool} {K : Bool → Nd} (h : tw cx 188 [i64 B0] = some ([tb A0], [])) : S cx f (C188 B0 K) = S cx f (K A0) := call_S h rfl
noncomputable def C156_1 (B0 : List TV) (K : Bool → Nd) : Nd := .call 156 [sl true ⟨1, false⟩ B0, .cl 189 []] fun R => .cons R.1 fun X0 X1 => .bool X0 fun A0 => .nil X1 <| .nil R.2 <| K A0
theorem C156_1_S {f : FuncId} {B0 : List TV} {A0 : Bool} {K : Bool → Nd} (h : tw cx 156 [sl true ⟨1, false⟩ B0, .cl 189 []] = some ([tb A0], [])) : S cx f (C156_1 B0 K) = S cx f (K A0) := call_S h rfl
noncomputable def C190 (B0 B1 : Int) (K : Int → Int → Nd) : Nd := .call 190 [.fl (.int .u64 B0), .fl (.int .u64 B1)] fun R => .cons R.1 fun X0 X1 => .int .u64 X0 fun A0 => .cons X1 fun X2 X3 => .int .u64 X2 fun A1 => .nil X3 <| .nil R.2 <| K A0 A1
theorem C190_S {f : FuncId} {B0 B1 A0 A1 : Int} {K : Int → Int → Nd} (h : tw cx 190 [.fl (.int .u64 B0), .fl (.int .u64 B1)] = some ([.fl (.int .u64 A0), .fl (.int .u64 A1)], [])) : S cx f (C190 B0 B1 K) = S cx f (K A0 A1) := call_S h rfl
noncomputable def C191 (B0 : List TV) (K : Int → Nd) : Nd := .call 191 [sl true ⟨1, false⟩ B0] fun R => .cons R.1 fun X0 X1 => .int .i64 X0 fun A0 => .nil X1 <| .nil R.2 <| K A0
theorem C191_S {f : FuncId} {B0 : List TV} {A0 : Int} {K : Int → Nd} (h : tw cx 191 [sl true ⟨1, false⟩ B0] = some ([i64 A0], [])) : S cx f (C191 B0 K) = S cx f (K A0) := call_S h rfl
noncomputable def C192 (B0 B1 : List TV) (B2 B3 : Int) (K : Int → Nd) : Nd := .call 192 [sl true ⟨3, true⟩ B0, sl true ⟨1, false⟩ B1, i64 B2, i64 B3] fun R => .cons R.1 fun X0 X1 => .int .i64 X0 fun A0 => .nil X1 <| .nil R.2 <| K A0
theorem C192_S {f : FuncId} {B0 B1 : List TV} {B2 B3 A0 : Int} {K : Int → Nd} (h : tw cx 192 [sl true ⟨3, true⟩ B0, sl true ⟨1, false⟩ B1, i64 B2, i64 B3] = some ([i64 A0], [])) : S cx f (C192 B0 B1 B2 B3 K) = S cx f (K A0) := call_S h rfl
noncomputable def C193 (B0 : Int) (B1 : Bool) (B2 : List TV) (K : Int → Nd) : Nd := .call 193 [.pt true () (.st [i64 B0, tb B1, sl false ⟨2, false⟩ B2])] fun R => .cons R.1 fun X0 X1 => .int .i64 X0 fun A0 => .nil X1 <| .nil R.2 <| K A0
theorem C193_S {f : FuncId} {B0 : Int} {B1 : Bool} {B2 : List TV} {A0 : Int} {K : Int → Nd} (h : tw cx 193 [.pt true () (.st [i64 B0, tb B1, sl false ⟨2, false⟩ B2])] = some ([i64 A0], [])) : S cx f (C193 B0 B1 B2 K) = S cx f (K A0) := call_S h rfl
noncomputable def C194 (B0 : Int) (B1 : Bool) (B2 : List TV) (B3 B4 : Int) (B5 : List TV) (K : Int → Int → Bool → (List TV) → Nd) : Nd := .call 194 [.pt false () (.st [i64 B0, tb B1, sl false ⟨2, false⟩ B2]), .st [i64 B3, i64 B4, sl true ⟨1, false⟩ B5]] fun R => .cons R.1 fun X0 X1 => .int .i64 X0 fun A0 => .nil X1 <| .cons R.2 fun X2 X3 => .ptO X2 .non fun X4 => .st X4 fun X5 => .cons X5 fun X6 X7 => .int .i64 X6 fun A1 => .cons X7 fun X8 X9 => .bool X8 fun A2 => .cons X9 fun X10 X11 => .slO ⟨2, false⟩ X10 fun A3 => .nil X11 <| .nil X3 <| K A0 A1 A2 A3
theorem C194_S {f : FuncId} {B0 : Int} {B1 : Bool} {B2 : List TV} {B3 B4 : Int} {B5 : List TV} {A0 A1 : Int} {A2 : Bool} {A3 : List TV} {K : Int → Int → Bool → (List TV) → Nd} (h : tw cx 194 [.pt false () (.st [i64 B0, tb B1, sl false ⟨2, false⟩ B2]), .st [i64 B3, i64 B4, sl true ⟨1, false⟩ B5]] = some ([i64 A0], [.pt false () (.st [i64 A1, tb A2, sl false ⟨2, false⟩ A3])])) : S cx f (C194 B0 B1 B2 B3 B4 B5 K) = S cx f (K A0 A1 A2 A3) := call_S h rfl
noncomputable def C195 (B0 B1 B2 B3 B4 B5 B6 : List TV) (B7 B8 : Int) (B9 B10 B11 B12 : List TV) (B13 B14 B15 : Int) (K : (List TV) → (List TV) → (List TV) → (List TV) → (List TV) → (List TV) → (List TV) → Int → Int → (List TV) → (List TV) → (List TV) → (List TV) → Int → Nd) : Nd := .call 195 [.pt false () (.st [.pt false () (.st [.pt false () (.st [sl true ⟨3, true⟩ B0, sl false ⟨1, false⟩ B1, sl false ⟨1, false⟩ B2, sl false ⟨1, true⟩ B3]), sl false ⟨1, false⟩ B4, sl false ⟨1, false⟩ B5, sl false ⟨1, false⟩ B6, i64 B7, i64 B8]), .st [sl false ⟨1, false⟩ B9, sl false ⟨1, false⟩ B10, sl false ⟨1, false⟩ B11], sl false ⟨1, false⟩ B12, i64 B13]), i64 B14, i64 B15] fun R => .nil R.1 <| .cons R.2 fun X0 X1 => .ptO X0 .non fun X2 => .st X2 fun X3 => .cons X3 fun X4 X5 => .ptO X4 .non fun X6 => .st X6 fun X7 => .cons X7 fun X8 X9 => .ptO X8 .non fun X10 => .st X10 fun X11 => .cons X11 fun X12 X13 => .slS ⟨3, true⟩ X12 fun A0 => .cons X13 fun X14 X15 => .slO ⟨1, false⟩ X14 fun A1 => .cons X15 fun X16 X17 => .slO ⟨1, false⟩ X16 fun A2 => .cons X17 fun X18 X19 => .slO ⟨1, true⟩ X18 fun A3 => .nil X19 <| .cons X9 fun X20 X21 => .slO ⟨1, false⟩ X20 fun A4 => .cons X21 fun X22 X23 => .slO ⟨1, false⟩ X22 fun A5 => .cons X23 fun X24 X25 => .slO ⟨1, false⟩ X24 fun A6 => .cons X25 fun X26 X27 => .int .i64 X26 fun A7 => .cons X27 fun X28 X29 => .int .i64 X28 fun A8 => .nil X29 <| .cons X5 fun X30 X31 => .st X30 fun X32 => .cons X32 fun X33 X34 => .slO ⟨1, false⟩ X33 fun A9 => .cons X34 fun X35 X36 => .slO ⟨1, false⟩ X35 fun A10 => .cons X36 fun X37 X38 => .slO ⟨1, false⟩ X37 fun A11 => .nil X38 <| .cons X31 fun X39 X40 => .slO ⟨1, false⟩ X39 fun A12 => .cons X40 fun X41 X42 => .int .i64 X41 fun A13 => .nil X42 <| .nil X1 <| K A0 A1 A2 A3 A4 A5 A6 A7 A8 A9 A10 A11 A12 A13
theorem C195_S {f : FuncId} {B0 B1 B2 B3 B4 B5 B6 : List TV} {B7 B8 : Int} {B9 B10 B11 B12 : List TV} {B13 B14 B15 : Int} {A0 A1 A2 A3 A4 A5 A6 : List TV} {A7 A8 : Int} {A9 A10 A11 A12 : List TV} {A13 : Int} {K : (List TV) → (List TV) → (List TV) → (List TV) → (List TV) → (List TV) → (List TV) → Int → Int → (List TV) → (List TV) → (List TV) → (List TV) → Int → Nd} (h : tw cx 195 [.pt false () (.st [.pt false () (.st [.pt false () (.st [sl true ⟨3, true⟩ B0, sl false ⟨1, false⟩ B1, sl false ⟨1, false⟩ B2, sl false ⟨1, true⟩ B3]), sl false ⟨1, false⟩ B4, sl false ⟨1, false⟩ B5, sl false ⟨1, false⟩ B6, i64 B7, i64 B8]), .st [sl false ⟨1, false⟩ B9, sl false ⟨1, false⟩ B10, sl false ⟨1, false⟩ B11], sl false ⟨1, false⟩ B12, i64 B13]), i64 B14, i64 B15] = some ([], [.pt false () (.st [.pt false () (.st [.pt false () (.st [sl true ⟨3, true⟩ A0, sl false ⟨1, false⟩ A1, sl false ⟨1, false⟩ A2, sl false ⟨1, true⟩ A3]), sl false ⟨1, false⟩ A4, sl false ⟨1, false⟩ A5, sl false ⟨1, false⟩ A6, i64 A7, i64 A8]), .st [sl false ⟨1, false⟩ A9, sl false ⟨1, false⟩ A10, sl false ⟨1, false⟩ A11], sl false ⟨1, false⟩ A12, i64 A13])])) : S cx f (C195 B0 B1 B2 B3 B4 B5 B6 B7 B8 B9 B10 B11 B12 B13 B14 B15 K) = S cx f (K A0 A1 A2 A3 A4 A5 A6 A7 A8 A9 A10 A11 A12 A13) := call_S h rfl
noncomputable def C158 (B0 : Int) (K : Bool → Nd) : Nd := .call 158 [i64 B0] fun R => .cons R.1 fun X0 X1 => .bool X0 fun A0 => .nil X1 <| .nil R.2 <| K A0
theorem C158_S {f : FuncId} {B0 : Int} {A0 : Bool} {K : Bool → Nd} (h : tw cx 158 [i64 B0] = some ([tb A0], [])) : S cx f (C158 B0 K) = S cx f (K A0) := call_S h rfl
noncomputable def C189 (B0 : Int) (K : Bool → Nd) : Nd := .call 189 [i64 B0] fun R => .cons R.1 fun X0 X1 => .bool X0 fun A0 => .nil X1 <| .nil R.2 <| K A0
theorem C189_S {f : FuncId} {B0 : Int} {A0 : Bool} {K : Bool → Nd} (h : tw cx 189 [i64 B0] = some ([tb A0], [])) : S cx f (C189 B0 K) = S cx f (K A0) := call_S h rfl
noncomputable def C167 (B0 B1 : Int) (B2 : List TV) (K : Bool → Nd) : Nd := .call 167 [.st [i64 B0, i64 B1, sl true ⟨1, false⟩ B2]] fun R => .cons R.1 fun X0 X1 => .bool X0 fun A0 => .nil X1 <| .nil R.2 <| K A0
theorem C167_S {f : FuncId} {B0 B1 : Int} {B2 : List TV} {A0 : Bool} {K : Bool → Nd} (h : tw cx 167 [.st [i64 B0, i64 B1, sl true ⟨1, false⟩ B2]] = some ([tb A0], [])) : S cx f (C167 B0 B1 B2 K) = S cx f (K A0) := call_S h rfl
noncomputable def C197 (B0 B1 : Int) (K : Int → Int → Nd) : Nd := .call 197 [.fl (.int .u64 B0), .fl (.int .u64 B1)] fun R => .cons R.1 fun X0 X1 => .int .u64 X0 fun A0 => .cons X1 fun X2 X3 => .int .u64 X2 fun A1 => .nil X3 <| .nil R.2 <| K A0 A1
theorem C197_S {f : FuncId} {B0 B1 A0 A1 : Int} {K : Int → Int → Nd} (h : tw cx 197 [.fl (.int .u64 B0), .fl (.int .u64 B1)] = some ([.fl (.int .u64 A0), .fl (.int .u64 A1)], [])) : S cx f (C197 B0 B1 K) = S cx f (K A0 A1) := call_S h rfl
noncomputable def V2 (t : TV) (K : Int → Bool → Nd) : Nd := .st t fun L => .cons L fun TV0 L0 => .int .i64 TV0 fun A0 => .cons L0 fun TV1 L1 => .bool TV1 fun A1 => .nil L1 <| K A0 A1
theorem V2_S {f : FuncId} {A0 : Int} {A1 : Bool} {K : Int → Bool → Nd} : S cx f (V2 (.st [i64 A0, tb A1]) K) = S cx f (K A0 A1) := rfl
noncomputable def C198 (B0 : Int) (K : Int → Int → Nd) : Nd := .call 198 [i64 B0] fun R => .cons R.1 fun X0 X1 => .int .i64 X0 fun A0 => .cons X1 fun X2 X3 => .int .i64 X2 fun A1 => .nil X3 <| .nil R.2 <| K A0 A1
theorem C198_S {f : FuncId} {B0 A0 A1 : Int} {K : Int → Int → Nd} (h : tw cx 198 [i64 B0] = some ([i64 A0, i64 A1], [])) : S cx f (C198 B0 K) = S cx f (K A0 A1) := call_S h rfl
noncomputable def C199 (B0 B1 B2 B3 : List TV) (B4 B5 : Int) (K : Int → Nd) : Nd := .call 199 [.pt true () (.st [sl true ⟨3, true⟩ B0, sl false ⟨1, false⟩ B1, sl false ⟨1, false⟩ B2, sl false ⟨1, true⟩ B3]), i64 B4, i64 B5] fun R => .cons R.1 fun X0 X1 => .int .i64 X0 fun A0 => .nil X1 <| .nil R.2 <| K A0
theorem C199_S {f : FuncId} {B0 B1 B2 B3 : List TV} {B4 B5 A0 : Int} {K : Int → Nd} (h : tw cx 199 [.pt true () (.st [sl true ⟨3, true⟩ B0, sl false ⟨1, false⟩ B1, sl false ⟨1, false⟩ B2, sl false ⟨1, true⟩ B3]), i64 B4, i64 B5] = some ([i64 A0], [])) : S cx f (C199 B0 B1 B2 B3 B4 B5 K) = S cx f (K A0) := call_S h rfl
end Go.Tree.M

/- Trees of values: program points of functions. -/
namespace Go.Tree.M
open Go.Proofs
set_option linter.unusedVariables false
set_option maxRecDepth 20000
noncomputable def EH17_0 (a_0 out_1 : List TV) (i_2 : Int) : Env := [.val [] (sl true ⟨1, false⟩ a_0), .un, .un, .val [] (sl false ⟨1, false⟩ out_1), .val [] (i64 i_2)] ++ uns 18
noncomputable abbrev H17_0 (a_0 out_1 : List TV) (i_2 : Int) : Nd := .head [1, 1, 0, 1, 2] (EH17_0 a_0 out_1 i_2)
noncomputable abbrev B17_0 (a_0 out_1 : List TV) (i_2 : Int) : Nd := .back [1, 1, 0, 1, 2] (EH17_0 a_0 out_1 i_2)
noncomputable def N17 (a_0 : List TV) : Nd :=
 .ck (decide ((0 : Int) ≤ ((a_0.length : Nat) : Int)) && decide (((a_0.length : Nat) : Int) ≤ ((a_0.length : Nat) : Int)) && decide (((a_0.length : Nat) : Int) * 8 < (lim : Int)) && decide (((a_0.length : Nat) : Int) < 9223372036854775807) && true && true) <|
 H17_0 a_0 (List.replicate (((a_0.length : Nat) : Int).toNat) (i64 0)) 0
theorem e17 {a_0 : List TV} {r : Res} (h : S cx 17 (N17 a_0) = some r) : tw cx 17 [sl true ⟨1, false⟩ a_0] = some r :=
 tw_of (fun call hd hb pt rg => by kernel_rfl) h
noncomputable def NH17_0 (a_0 out_1 : List TV) (i_2 : Int) : Nd :=
 .bif (decide (i_2 < ((a_0.length : Nat) : Int)))
 (.ck (decide ((0 : Int) ≤ i_2) && decide (i_2 < ((a_0.length : Nat) : Int))) <|
 .int .i64 (a_0.getD (0 + i_2.toNat) (.dead ())) fun x_3db5 =>
 .ck (decide ((0 : Int) ≤ i_2) && decide (i_2 < ((out_1.length : Nat) : Int))) <|
 B17_0 a_0 (out_1.set (0 + i_2.toNat) (i64 x_3db5)) (w64 (i_2 + 1)))
 (.ret [sl false ⟨1, false⟩ out_1] [])
theorem eH17_0 {a_0 out_1 : List TV} {i_2 : Int} {r : Res} (h : S cx 17 (NH17_0 a_0 out_1 i_2) = some r) : S cx 17 (H17_0 a_0 out_1 i_2) = some r :=
 hw_of (fun call hd hb pt rg => by kernel_rfl) h
noncomputable def EH20_0 (a_0 b_1 : List TV) (i_2 : Int) : Env := [.val [] (sl true ⟨1, false⟩ a_0), .val [] (sl true ⟨1, false⟩ b_1), .un, .un, .un, .val [] (i64 i_2)] ++ uns 22
noncomputable abbrev H20_0 (a_0 b_1 : List TV) (i_2 : Int) : Nd := .head [1, 1, 0, 1, 2] (EH20_0 a_0 b_1 i_2)
noncomputable abbrev B20_0 (a_0 b_1 : List TV) (i_2 : Int) : Nd := .back [1, 1, 0, 1, 2] (EH20_0 a_0 b_1 i_2)
noncomputable def N20 (a_0 b_1 : List TV) : Nd :=
 .bif ((((a_0.length : Nat) : Int) != ((b_1.length : Nat) : Int)))
 (.ret [tb false] [])
 (H20_0 a_0 b_1 0)
theorem e20 {a_0 b_1 : List TV} {r : Res} (h : S cx 20 (N20 a_0 b_1) = some r) : tw cx 20 [sl true ⟨1, false⟩ a_0, sl true ⟨1, false⟩ b_1] = some r :=
 tw_of (fun call hd hb pt rg => by kernel_rfl) h
noncomputable def NH20_0 (a_0 b_1 : List TV) (i_2 : Int) : Nd :=
 .bif (decide (i_2 < ((a_0.length : Nat) : Int)))
 (.ck (decide ((0 : Int) ≤ i_2) && decide (i_2 < ((a_0.length : Nat) : Int))) <|
 .int .i64 (a_0.getD (0 + i_2.toNat) (.dead ())) fun x_3db5 =>
 .ck (decide ((0 : Int) ≤ i_2) && decide (i_2 < ((b_1.length : Nat) : Int))) <|
 .int .i64 (b_1.getD (0 + i_2.toNat) (.dead ())) fun x_a7d6 =>
 .bif ((x_3db5 != x_a7d6))
 (.ret [tb false] [])
 (B20_0 a_0 b_1 (w64 (i_2 + 1))))
 (.ret [tb true] [])
theorem eH20_0 {a_0 b_1 : List TV} {i_2 : Int} {r : Res} (h : S cx 20 (NH20_0 a_0 b_1 i_2) = some r) : S cx 20 (H20_0 a_0 b_1 i_2) = some r :=
 hw_of (fun call hd hb pt rg => by kernel_rfl) h
noncomputable def EH24_0 (k_0 i_2 : Int) (a_1 : List TV) : Env := [.ref 19 [] none 23 false, .val [] (i64 k_0), .un, .un, .un, .val [] (i64 i_2)] ++ uns 13 ++ [.val [] (sl false ⟨1, false⟩ a_1), .un]
noncomputable abbrev H24_0 (k_0 i_2 : Int) (a_1 : List TV) : Nd := .head [1, 0, 1, 2] (EH24_0 k_0 i_2 a_1)
noncomputable abbrev B24_0 (k_0 i_2 : Int) (a_1 : List TV) : Nd := .back [1, 0, 1, 2] (EH24_0 k_0 i_2 a_1)
noncomputable def N24 (a_0 : List TV) (k_1 : Int) : Nd :=
 H24_0 k_1 0 a_0
theorem e24 {a_0 : List TV} {k_1 : Int} {r : Res} (h : S cx 24 (N24 a_0 k_1) = some r) : tw cx 24 [sl false ⟨1, false⟩ a_0, i64 k_1] = some r :=
 tw_of (fun call hd hb pt rg => by kernel_rfl) h
noncomputable def NH24_0 (k_0 i_2 : Int) (a_1 : List TV) : Nd :=
 .bif (decide (i_2 < ((a_1.length : Nat) : Int)))
 (.ck (decide ((0 : Int) ≤ i_2) && decide (i_2 < ((a_1.length : Nat) : Int))) <|
 B24_0 (w64 (k_0 + 1)) (w64 (i_2 + 1)) (a_1.set (0 + i_2.toNat) (i64 k_0)))
 (.ret [i64 k_0] [sl false ⟨1, false⟩ a_1])
theorem eH24_0 {k_0 i_2 : Int} {a_1 : List TV} {r : Res} (h : S cx 24 (NH24_0 k_0 i_2 a_1) = some r) : S cx 24 (H24_0 k_0 i_2 a_1) = some r :=
 hw_of (fun call hd hb pt rg => by kernel_rfl) h
noncomputable def EH28_0 (a_0 b_1 : List TV) (i_2 : Int) : Env := [.val [] (sl true ⟨3, true⟩ a_0), .val [] (sl true ⟨3, true⟩ b_1), .un, .un, .un, .val [] (i64 i_2)] ++ uns 23
noncomputable abbrev H28_0 (a_0 b_1 : List TV) (i_2 : Int) : Nd := .head [1, 1, 0, 1, 2] (EH28_0 a_0 b_1 i_2)
noncomputable abbrev B28_0 (a_0 b_1 : List TV) (i_2 : Int) : Nd := .back [1, 1, 0, 1, 2] (EH28_0 a_0 b_1 i_2)
noncomputable def N28 (a_0 b_1 : List TV) : Nd :=
 .bif ((((a_0.length : Nat) : Int) != ((b_1.length : Nat) : Int)))
 (.ret [tb false] [])
 (H28_0 a_0 b_1 0)
theorem e28 {a_0 b_1 : List TV} {r : Res} (h : S cx 28 (N28 a_0 b_1) = some r) : tw cx 28 [sl true ⟨3, true⟩ a_0, sl true ⟨3, true⟩ b_1] = some r :=
 tw_of (fun call hd hb pt rg => by kernel_rfl) h
noncomputable def NH28_0 (a_0 b_1 : List TV) (i_2 : Int) : Nd :=
 .bif (decide (i_2 < ((a_0.length : Nat) : Int)))
 (.ck (decide ((0 : Int) ≤ i_2) && decide (i_2 < ((a_0.length : Nat) : Int))) <|
 V3 (a_0.getD (0 + i_2.toNat) (.dead ())) fun op_e85d n_c164 tables_e2d2 =>
 .ck (decide ((0 : Int) ≤ i_2) && decide (i_2 < ((b_1.length : Nat) : Int))) <|
 V3 (b_1.getD (0 + i_2.toNat) (.dead ())) fun op_001b n_f09b tables_4e95 =>
 C77 op_e85d n_c164 tables_e2d2 op_001b n_f09b tables_4e95 fun v_93de =>
 .bif ((!v_93de))
 (.ret [tb false] [])
 (B28_0 a_0 b_1 (w64 (i_2 + 1))))
 (.ret [tb true] [])
theorem eH28_0 {a_0 b_1 : List TV} {i_2 : Int} {r : Res} (h : S cx 28 (NH28_0 a_0 b_1 i_2) = some r) : S cx 28 (H28_0 a_0 b_1 i_2) = some r :=
 hw_of (fun call hd hb pt rg => by kernel_rfl) h
noncomputable def N35 (a_0 a_1 a_2 : List TV) (left_3 : Int) : Nd :=
 C84 a_0 left_3 fun v_aaae =>
 .bif (decide (v_aaae < 0))
 (.ret [i64 (-1)] [])
 (C84 a_1 v_aaae fun v_2c55 =>
 .bif (decide (v_2c55 < 0))
 (.ret [i64 (-1)] [])
 (C84 a_2 v_2c55 fun v_c16c =>
 .bif (decide (v_c16c < 0))
 (.ret [i64 (-1)] [])
 (.ret [i64 v_c16c] [])))
theorem e35 {a_0 a_1 a_2 : List TV} {left_3 : Int} {r : Res} (h : S cx 35 (N35 a_0 a_1 a_2 left_3) = some r) : tw cx 35 [.st [sl true ⟨1, false⟩ a_0, sl true ⟨1, false⟩ a_1, sl true ⟨1, false⟩ a_2], i64 left_3] = some r :=
 tw_of (fun call hd hb pt rg => by kernel_rfl) h
noncomputable def N38 (a_0 a_1 a_2 : List TV) : Nd :=
 C17 a_0 fun vs_a307 =>
 C17 a_1 fun vs_a312 =>
 C17 a_2 fun vs_36ab =>
 .ret [.st [sl false ⟨1, false⟩ vs_a307, sl false ⟨1, false⟩ vs_a312, sl false ⟨1, false⟩ vs_36ab]] []
theorem e38 {a_0 a_1 a_2 : List TV} {r : Res} (h : S cx 38 (N38 a_0 a_1 a_2) = some r) : tw cx 38 [.st [sl true ⟨1, false⟩ a_0, sl true ⟨1, false⟩ a_1, sl true ⟨1, false⟩ a_2]] = some r :=
 tw_of (fun call hd hb pt rg => by kernel_rfl) h
noncomputable def N40 (a_0 a_1 a_2 b_3 b_4 b_5 : List TV) : Nd :=
 C20 a_0 b_3 fun v_ff12 =>
 .bif ((!v_ff12))
 (.ret [tb false] [])
 (C20 a_1 b_4 fun v_f54c =>
 .bif ((!v_f54c))
 (.ret [tb false] [])
 (C20 a_2 b_5 fun v_3619 =>
 .bif ((!v_3619))
 (.ret [tb false] [])
 (.ret [tb true] [])))
theorem e40 {a_0 a_1 a_2 b_3 b_4 b_5 : List TV} {r : Res} (h : S cx 40 (N40 a_0 a_1 a_2 b_3 b_4 b_5) = some r) : tw cx 40 [.st [sl true ⟨1, false⟩ a_0, sl true ⟨1, false⟩ a_1, sl true ⟨1, false⟩ a_2], .st [sl true ⟨1, false⟩ b_3, sl true ⟨1, false⟩ b_4, sl true ⟨1, false⟩ b_5]] = some r :=
 tw_of (fun call hd hb pt rg => by kernel_rfl) h
noncomputable def EH49_0 (a_0 : List TV) (left_1 i_2 : Int) : Env := [.val [] (sl true ⟨3, true⟩ a_0), .val [] (i64 left_1), .un, .un, .un, .val [] (i64 i_2)] ++ uns 23
noncomputable abbrev H49_0 (a_0 : List TV) (left_1 i_2 : Int) : Nd := .head [1, 1, 1, 0, 1, 2] (EH49_0 a_0 left_1 i_2)
noncomputable abbrev B49_0 (a_0 : List TV) (left_1 i_2 : Int) : Nd := .back [1, 1, 1, 0, 1, 2] (EH49_0 a_0 left_1 i_2)
noncomputable def N49 (a_0 : List TV) (left_1 : Int) : Nd :=
 .bif (decide (w64 (left_1 - ((a_0.length : Nat) : Int)) < 0))
 (.ret [i64 (-1)] [])
 (H49_0 a_0 (w64 (left_1 - ((a_0.length : Nat) : Int))) 0)
theorem e49 {a_0 : List TV} {left_1 : Int} {r : Res} (h : S cx 49 (N49 a_0 left_1) = some r) : tw cx 49 [sl true ⟨3, true⟩ a_0, i64 left_1] = some r :=
 tw_of (fun call hd hb pt rg => by kernel_rfl) h
noncomputable def NH49_0 (a_0 : List TV) (left_1 i_2 : Int) : Nd :=
 .bif (decide (i_2 < ((a_0.length : Nat) : Int)))
 (.ck (decide ((0 : Int) ≤ i_2) && decide (i_2 < ((a_0.length : Nat) : Int))) <|
 V3 (a_0.getD (0 + i_2.toNat) (.dead ())) fun op_e85d n_c164 tables_e2d2 =>
 C101 op_e85d n_c164 tables_e2d2 left_1 fun v_6ca6 =>
 .bif (decide (v_6ca6 < 0))
 (.ret [i64 (-1)] [])
 (B49_0 a_0 v_6ca6 (w64 (i_2 + 1))))
 (.ret [i64 left_1] [])
theorem eH49_0 {a_0 : List TV} {left_1 i_2 : Int} {r : Res} (h : S cx 49 (NH49_0 a_0 left_1 i_2) = some r) : S cx 49 (H49_0 a_0 left_1 i_2) = some r :=
 hw_of (fun call hd hb pt rg => by kernel_rfl) h
noncomputable def EH51_0 (a_0 out_1 : List TV) (i_2 : Int) : Env := [.val [] (sl true ⟨3, true⟩ a_0), .un, .un, .val [] (sl false ⟨3, true⟩ out_1), .val [] (i64 i_2)] ++ uns 19
noncomputable abbrev H51_0 (a_0 out_1 : List TV) (i_2 : Int) : Nd := .head [1, 1, 0, 1, 2] (EH51_0 a_0 out_1 i_2)
noncomputable abbrev B51_0 (a_0 out_1 : List TV) (i_2 : Int) : Nd := .back [1, 1, 0, 1, 2] (EH51_0 a_0 out_1 i_2)
noncomputable def N51 (a_0 : List TV) : Nd :=
 .ck (decide ((0 : Int) ≤ ((a_0.length : Nat) : Int)) && decide (((a_0.length : Nat) : Int) ≤ ((a_0.length : Nat) : Int)) && decide (((a_0.length : Nat) : Int) * 40 < (lim : Int)) && decide (((a_0.length : Nat) : Int) < 9223372036854775807) && true && true) <|
 H51_0 a_0 (List.replicate (((a_0.length : Nat) : Int).toNat) (.st [i64 0, i64 0, sl false ⟨1, false⟩ ([])])) 0
theorem e51 {a_0 : List TV} {r : Res} (h : S cx 51 (N51 a_0) = some r) : tw cx 51 [sl true ⟨3, true⟩ a_0] = some r :=
 tw_of (fun call hd hb pt rg => by kernel_rfl) h
noncomputable def NH51_0 (a_0 out_1 : List TV) (i_2 : Int) : Nd :=
 .bif (decide (i_2 < ((a_0.length : Nat) : Int)))
 (.ck (decide ((0 : Int) ≤ i_2) && decide (i_2 < ((a_0.length : Nat) : Int))) <|
 V3 (a_0.getD (0 + i_2.toNat) (.dead ())) fun op_e85d n_c164 tables_e2d2 =>
 C104 op_e85d n_c164 tables_e2d2 fun op_eaa2 n_56f5 tables_d792 =>
 .ck (decide ((0 : Int) ≤ i_2) && decide (i_2 < ((out_1.length : Nat) : Int))) <|
 B51_0 a_0 (out_1.set (0 + i_2.toNat) (.st [i64 op_eaa2, i64 n_56f5, sl false ⟨1, false⟩ tables_d792])) (w64 (i_2 + 1)))
 (.ret [sl false ⟨3, true⟩ out_1] [])
theorem eH51_0 {a_0 out_1 : List TV} {i_2 : Int} {r : Res} (h : S cx 51 (NH51_0 a_0 out_1 i_2) = some r) : S cx 51 (H51_0 a_0 out_1 i_2) = some r :=
 hw_of (fun call hd hb pt rg => by kernel_rfl) h
noncomputable def N65 (n_0 low_1 high_2 : Int) : Nd :=
 .bif (decide (n_0 ≥ low_1))
 (.ret [tb (decide (n_0 ≤ high_2))] [])
 (.ret [tb false] [])
theorem e65 {n_0 low_1 high_2 : Int} {r : Res} (h : S cx 65 (N65 n_0 low_1 high_2) = some r) : tw cx 65 [i64 n_0, i64 low_1, i64 high_2] = some r :=
 tw_of (fun call hd hb pt rg => by kernel_rfl) h
noncomputable def N77 (a_0 a_1 : Int) (a_2 : List TV) (b_3 b_4 : Int) (b_5 : List TV) : Nd :=
 .bif ((a_0 != b_3))
 (.ret [tb false] [])
 (.bif ((a_1 != b_4))
 (.ret [tb false] [])
 (C20 a_2 b_5 fun v_3619 =>
 .bif ((!v_3619))
 (.ret [tb false] [])
 (.ret [tb true] [])))
theorem e77 {a_0 a_1 : Int} {a_2 : List TV} {b_3 b_4 : Int} {b_5 : List TV} {r : Res} (h : S cx 77 (N77 a_0 a_1 a_2 b_3 b_4 b_5) = some r) : tw cx 77 [.st [i64 a_0, i64 a_1, sl true ⟨1, false⟩ a_2], .st [i64 b_3, i64 b_4, sl true ⟨1, false⟩ b_5]] = some r :=
 tw_of (fun call hd hb pt rg => by kernel_rfl) h
noncomputable def N84 (a_0 : List TV) (left_1 : Int) : Nd :=
 .bif (decide (w64 (left_1 - ((a_0.length : Nat) : Int)) < 0))
 (.ret [i64 (-1)] [])
 (.ret [i64 (w64 (left_1 - ((a_0.length : Nat) : Int)))] [])
theorem e84 {a_0 : List TV} {left_1 : Int} {r : Res} (h : S cx 84 (N84 a_0 left_1) = some r) : tw cx 84 [sl true ⟨1, false⟩ a_0, i64 left_1] = some r :=
 tw_of (fun call hd hb pt rg => by kernel_rfl) h
noncomputable def N86 (s_0 s_1 s_2 : List TV) : Nd :=
 C122 s_0 8 fun v_ff15 =>
 .bif (v_ff15)
 (C122 s_1 16 fun v_a6bd =>
 .bif (v_a6bd)
 (.bif (decide (((s_2.length : Nat) : Int) ≤ 100))
 (C122 s_2 ((s_2.length : Nat) : Int) fun v_bfc2 =>
 .ret [tb v_bfc2] [])
 (.ret [tb false] []))
 (.ret [tb false] []))
 (.ret [tb false] [])
theorem e86 {s_0 s_1 s_2 : List TV} {r : Res} (h : S cx 86 (N86 s_0 s_1 s_2) = some r) : tw cx 86 [.st [sl true ⟨1, false⟩ s_0, sl true ⟨1, false⟩ s_1, sl true ⟨1, false⟩ s_2]] = some r :=
 tw_of (fun call hd hb pt rg => by kernel_rfl) h
noncomputable def N87 (n_0 : Int) : Nd :=
 C112 n_0 0 2000 fun v_f844 =>
 .ret [tb v_f844] []
theorem e87 {n_0 : Int} {r : Res} (h : S cx 87 (N87 n_0) = some r) : tw cx 87 [i64 n_0] = some r :=
 tw_of (fun call hd hb pt rg => by kernel_rfl) h
end Go.Tree.M

/- Trees of values: program points of functions. -/
namespace Go.Tree.M
open Go.Proofs
set_option linter.unusedVariables false
set_option maxRecDepth 20000
noncomputable def ER89_0 (s_0 s_1 s_2 : List TV) : Env := [.val [] (.st [sl true ⟨1, false⟩ s_0, sl true ⟨1, false⟩ s_1, sl true ⟨1, false⟩ s_2]), .val [] (.pt false () (.st [sl true ⟨1, false⟩ s_0, sl true ⟨1, false⟩ s_1, sl true ⟨1, false⟩ s_2])), .val [] (.pt false () (.st [sl false ⟨1, false⟩ ([]), sl false ⟨1, false⟩ ([]), sl false ⟨1, false⟩ ([])])), .val [] (sl false ⟨1, false⟩ ([])), .adr 1 [.d 51, .f 51 0], .val [] (sl true ⟨1, false⟩ s_0), .un, .un, .adr 1 [.d 51, .f 51 1], .un, .un, .un, .adr 1 [.d 51, .f 51 2], .un, .un, .un, .un]
noncomputable abbrev R89_0 (s_0 s_1 s_2 : List TV) : Nd := .rg [1, 0] [true, true, true, false, false, true, false, false, false, true, false, false, false, false] (ER89_0 s_0 s_1 s_2)
noncomputable def ER89_1 (s_0 s_1 s_2 : List TV) : Env := [.val [] (.st [sl true ⟨1, false⟩ s_0, sl true ⟨1, false⟩ s_1, sl true ⟨1, false⟩ s_2]), .val [] (.pt false () (.st [sl true ⟨1, false⟩ s_0, sl true ⟨1, false⟩ s_1, sl true ⟨1, false⟩ s_2])), .val [] (.pt false () (.st [sl false ⟨1, false⟩ ([]), sl false ⟨1, false⟩ ([]), sl false ⟨1, false⟩ ([])])), .un, .adr 1 [.d 51, .f 51 0], .val [] (sl true ⟨1, false⟩ s_0), .un, .val [] (sl false ⟨1, false⟩ ([])), .adr 1 [.d 51, .f 51 1], .un, .un, .un, .adr 1 [.d 51, .f 51 2], .un, .un, .un, .un]
noncomputable abbrev R89_1 (s_0 s_1 s_2 : List TV) : Nd := .rg [1, 0] [false, true, true, false, true, true, false, false, false, true, false, false, false, false] (ER89_1 s_0 s_1 s_2)
noncomputable def ER89_2 (s_0 s_1 s_2 : List TV) : Env := [.val [] (.st [sl true ⟨1, false⟩ s_0, sl true ⟨1, false⟩ s_1, sl true ⟨1, false⟩ s_2]), .val [] (.pt false () (.st [sl true ⟨1, false⟩ s_0, sl true ⟨1, false⟩ s_1, sl true ⟨1, false⟩ s_2])), .val [] (.pt false () (.st [sl false ⟨1, false⟩ ([]), sl false ⟨1, false⟩ ([]), sl false ⟨1, false⟩ ([])])), .un, .adr 1 [.d 51, .f 51 0], .val [] (sl true ⟨1, false⟩ s_0), .un, .un, .adr 1 [.d 51, .f 51 1], .val [] (sl true ⟨1, false⟩ s_1), .un, .un, .adr 1 [.d 51, .f 51 2], .un, .un, .un, .un]
noncomputable abbrev R89_2 (s_0 s_1 s_2 : List TV) : Nd := .rg [1, 0] [false, true, true, false, false, true, true, false, false, true, false, false, false, false] (ER89_2 s_0 s_1 s_2)
noncomputable def ER89_3 (s_0 s_1 s_2 : List TV) : Env := [.val [] (.st [sl true ⟨1, false⟩ s_0, sl true ⟨1, false⟩ s_1, sl true ⟨1, false⟩ s_2]), .val [] (.pt false () (.st [sl true ⟨1, false⟩ s_0, sl true ⟨1, false⟩ s_1, sl true ⟨1, false⟩ s_2])), .val [] (.pt false () (.st [sl false ⟨1, false⟩ ([]), sl false ⟨1, false⟩ ([]), sl false ⟨1, false⟩ ([])])), .un, .adr 1 [.d 51, .f 51 0], .val [] (sl true ⟨1, false⟩ s_0), .un, .un, .adr 1 [.d 51, .f 51 1], .un, .un, .val [] (sl false ⟨1, false⟩ ([])), .adr 1 [.d 51, .f 51 2], .un, .un, .un, .un]
noncomputable abbrev R89_3 (s_0 s_1 s_2 : List TV) : Nd := .rg [1, 0] [false, true, true, false, false, true, false, false, true, true, false, false, false, false] (ER89_3 s_0 s_1 s_2)
noncomputable def ER89_4 (s_0 s_1 s_2 : List TV) : Env := [.val [] (.st [sl true ⟨1, false⟩ s_0, sl true ⟨1, false⟩ s_1, sl true ⟨1, false⟩ s_2]), .val [] (.pt false () (.st [sl true ⟨1, false⟩ s_0, sl true ⟨1, false⟩ s_1, sl true ⟨1, false⟩ s_2])), .val [] (.pt false () (.st [sl false ⟨1, false⟩ ([]), sl false ⟨1, false⟩ ([]), sl false ⟨1, false⟩ ([])])), .un, .adr 1 [.d 51, .f 51 0], .val [] (sl true ⟨1, false⟩ s_0), .un, .un, .adr 1 [.d 51, .f 51 1], .un, .un, .un, .adr 1 [.d 51, .f 51 2], .val [] (sl true ⟨1, false⟩ s_2), .un, .un, .un]
noncomputable abbrev R89_4 (s_0 s_1 s_2 : List TV) : Nd := .rg [1, 0] [false, true, true, false, false, true, false, false, false, true, true, false, false, false] (ER89_4 s_0 s_1 s_2)
noncomputable def ER89_5 (s_0 s_1 s_2 : List TV) : Env := [.val [] (.st [sl true ⟨1, false⟩ s_0, sl true ⟨1, false⟩ s_1, sl true ⟨1, false⟩ s_2]), .val [] (.pt false () (.st [sl true ⟨1, false⟩ s_0, sl true ⟨1, false⟩ s_1, sl true ⟨1, false⟩ s_2])), .val [] (.pt false () (.st [sl false ⟨1, false⟩ ([]), sl false ⟨1, false⟩ ([]), sl false ⟨1, false⟩ ([])])), .un, .adr 1 [.d 51, .f 51 0], .val [] (sl true ⟨1, false⟩ s_0), .val [] (sl false ⟨1, false⟩ (([]) ++ s_0)), .un, .adr 1 [.d 51, .f 51 1], .un, .un, .un, .adr 1 [.d 51, .f 51 2], .un, .un, .un, .un]
noncomputable abbrev R89_5 (s_0 s_1 s_2 : List TV) : Nd := .rg [1, 0] [true, true, true, true, false, true, false, false, false, true, false, false, false, false] (ER89_5 s_0 s_1 s_2)
noncomputable def ER89_6 (s_0 s_1 s_2 : List TV) : Env := [.val [] (.st [sl true ⟨1, false⟩ s_0, sl true ⟨1, false⟩ s_1, sl true ⟨1, false⟩ s_2]), .val [] (.pt false () (.st [sl true ⟨1, false⟩ s_0, sl true ⟨1, false⟩ s_1, sl true ⟨1, false⟩ s_2])), .val [] (.pt false () (.st [sl false ⟨1, false⟩ ([]), sl false ⟨1, false⟩ ([]), sl false ⟨1, false⟩ ([])])), .val [] (sl false ⟨1, false⟩ ([])), .adr 1 [.d 51, .f 51 0], .val [] (sl true ⟨1, false⟩ s_0), .un, .val [] (sl false ⟨1, false⟩ ([])), .adr 1 [.d 51, .f 51 1], .un, .un, .un, .adr 1 [.d 51, .f 51 2], .un, .un, .un, .un]
noncomputable abbrev R89_6 (s_0 s_1 s_2 : List TV) : Nd := .rg [1, 0] [true, true, true, false, true, true, false, false, false, true, false, false, false, false] (ER89_6 s_0 s_1 s_2)
noncomputable def ER89_7 (s_0 s_1 s_2 : List TV) : Env := [.val [] (.st [sl true ⟨1, false⟩ s_0, sl true ⟨1, false⟩ s_1, sl true ⟨1, false⟩ s_2]), .val [] (.pt false () (.st [sl true ⟨1, false⟩ s_0, sl true ⟨1, false⟩ s_1, sl true ⟨1, false⟩ s_2])), .val [] (.pt false () (.st [sl false ⟨1, false⟩ ([]), sl false ⟨1, false⟩ ([]), sl false ⟨1, false⟩ ([])])), .val [] (sl false ⟨1, false⟩ ([])), .adr 1 [.d 51, .f 51 0], .val [] (sl true ⟨1, false⟩ s_0), .un, .un, .adr 1 [.d 51, .f 51 1], .val [] (sl true ⟨1, false⟩ s_1), .un, .un, .adr 1 [.d 51, .f 51 2], .un, .un, .un, .un]
noncomputable abbrev R89_7 (s_0 s_1 s_2 : List TV) : Nd := .rg [1, 0] [true, true, true, false, false, true, true, false, false, true, false, false, false, false] (ER89_7 s_0 s_1 s_2)
noncomputable def ER89_8 (s_0 s_1 s_2 : List TV) : Env := [.val [] (.st [sl true ⟨1, false⟩ s_0, sl true ⟨1, false⟩ s_1, sl true ⟨1, false⟩ s_2]), .val [] (.pt false () (.st [sl true ⟨1, false⟩ s_0, sl true ⟨1, false⟩ s_1, sl true ⟨1, false⟩ s_2])), .val [] (.pt false () (.st [sl false ⟨1, false⟩ ([]), sl false ⟨1, false⟩ ([]), sl false ⟨1, false⟩ ([])])), .val [] (sl false ⟨1, false⟩ ([])), .adr 1 [.d 51, .f 51 0], .val [] (sl true ⟨1, false⟩ s_0), .un, .un, .adr 1 [.d 51, .f 51 1], .un, .un, .val [] (sl false ⟨1, false⟩ ([])), .adr 1 [.d 51, .f 51 2], .un, .un, .un, .un]
noncomputable abbrev R89_8 (s_0 s_1 s_2 : List TV) : Nd := .rg [1, 0] [true, true, true, false, false, true, false, false, true, true, false, false, false, false] (ER89_8 s_0 s_1 s_2)
noncomputable def ER89_9 (s_0 s_1 s_2 : List TV) : Env := [.val [] (.st [sl true ⟨1, false⟩ s_0, sl true ⟨1, false⟩ s_1, sl true ⟨1, false⟩ s_2]), .val [] (.pt false () (.st [sl true ⟨1, false⟩ s_0, sl true ⟨1, false⟩ s_1, sl true ⟨1, false⟩ s_2])), .val [] (.pt false () (.st [sl false ⟨1, false⟩ ([]), sl false ⟨1, false⟩ ([]), sl false ⟨1, false⟩ ([])])), .val [] (sl false ⟨1, false⟩ ([])), .adr 1 [.d 51, .f 51 0], .val [] (sl true ⟨1, false⟩ s_0), .un, .un, .adr 1 [.d 51, .f 51 1], .un, .un, .un, .adr 1 [.d 51, .f 51 2], .val [] (sl true ⟨1, false⟩ s_2), .un, .un, .un]
noncomputable abbrev R89_9 (s_0 s_1 s_2 : List TV) : Nd := .rg [1, 0] [true, true, true, false, false, true, false, false, false, true, true, false, false, false] (ER89_9 s_0 s_1 s_2)
noncomputable def ER89_10 (s_0 s_1 s_2 : List TV) : Env := [.val [] (.st [sl true ⟨1, false⟩ s_0, sl true ⟨1, false⟩ s_1, sl true ⟨1, false⟩ s_2]), .val [] (.pt false () (.st [sl true ⟨1, false⟩ s_0, sl true ⟨1, false⟩ s_1, sl true ⟨1, false⟩ s_2])), .val [] (.pt false () (.st [sl false ⟨1, false⟩ ([]), sl false ⟨1, false⟩ ([]), sl false ⟨1, false⟩ ([])])), .un, .adr 1 [.d 51, .f 51 0], .val [] (sl true ⟨1, false⟩ s_0), .un, .val [] (sl false ⟨1, false⟩ ([])), .adr 1 [.d 51, .f 51 1], .val [] (sl true ⟨1, false⟩ s_1), .un, .un, .adr 1 [.d 51, .f 51 2], .un, .un, .un, .un]
noncomputable abbrev R89_10 (s_0 s_1 s_2 : List TV) : Nd := .rg [1, 0] [false, true, true, false, true, true, true, false, false, true, false, false, false, false] (ER89_10 s_0 s_1 s_2)
noncomputable def ER89_11 (s_0 s_1 s_2 : List TV) : Env := [.val [] (.st [sl true ⟨1, false⟩ s_0, sl true ⟨1, false⟩ s_1, sl true ⟨1, false⟩ s_2]), .val [] (.pt false () (.st [sl true ⟨1, false⟩ s_0, sl true ⟨1, false⟩ s_1, sl true ⟨1, false⟩ s_2])), .val [] (.pt false () (.st [sl false ⟨1, false⟩ ([]), sl false ⟨1, false⟩ ([]), sl false ⟨1, false⟩ ([])])), .un, .adr 1 [.d 51, .f 51 0], .val [] (sl true ⟨1, false⟩ s_0), .un, .val [] (sl false ⟨1, false⟩ ([])), .adr 1 [.d 51, .f 51 1], .un, .un, .val [] (sl false ⟨1, false⟩ ([])), .adr 1 [.d 51, .f 51 2], .un, .un, .un, .un]
noncomputable abbrev R89_11 (s_0 s_1 s_2 : List TV) : Nd := .rg [1, 0] [false, true, true, false, true, true, false, false, true, true, false, false, false, false] (ER89_11 s_0 s_1 s_2)
noncomputable def ER89_12 (s_0 s_1 s_2 : List TV) : Env := [.val [] (.st [sl true ⟨1, false⟩ s_0, sl true ⟨1, false⟩ s_1, sl true ⟨1, false⟩ s_2]), .val [] (.pt false () (.st [sl true ⟨1, false⟩ s_0, sl true ⟨1, false⟩ s_1, sl true ⟨1, false⟩ s_2])), .val [] (.pt false () (.st [sl false ⟨1, false⟩ ([]), sl false ⟨1, false⟩ ([]), sl false ⟨1, false⟩ ([])])), .un, .adr 1 [.d 51, .f 51 0], .val [] (sl true ⟨1, false⟩ s_0), .un, .val [] (sl false ⟨1, false⟩ ([])), .adr 1 [.d 51, .f 51 1], .un, .un, .un, .adr 1 [.d 51, .f 51 2], .val [] (sl true ⟨1, false⟩ s_2), .un, .un, .un]
noncomputable abbrev R89_12 (s_0 s_1 s_2 : List TV) : Nd := .rg [1, 0] [false, true, true, false, true, true, false, false, false, true, true, false, false, false] (ER89_12 s_0 s_1 s_2)
noncomputable def ER89_13 (s_0 s_1 s_2 : List TV) : Env := [.val [] (.st [sl true ⟨1, false⟩ s_0, sl true ⟨1, false⟩ s_1, sl true ⟨1, false⟩ s_2]), .val [] (.pt false () (.st [sl true ⟨1, false⟩ s_0, sl true ⟨1, false⟩ s_1, sl true ⟨1, false⟩ s_2])), .val [] (.pt false () (.st [sl false ⟨1, false⟩ ([]), sl false ⟨1, false⟩ ([]), sl false ⟨1, false⟩ ([])])), .un, .adr 1 [.d 51, .f 51 0], .val [] (sl true ⟨1, false⟩ s_0), .un, .un, .adr 1 [.d 51, .f 51 1], .val [] (sl true ⟨1, false⟩ s_1), .un, .val [] (sl false ⟨1, false⟩ ([])), .adr 1 [.d 51, .f 51 2], .un, .un, .un, .un]
noncomputable abbrev R89_13 (s_0 s_1 s_2 : List TV) : Nd := .rg [1, 0] [false, true, true, false, false, true, true, false, true, true, false, false, false, false] (ER89_13 s_0 s_1 s_2)
noncomputable def ER89_14 (s_0 s_1 s_2 : List TV) : Env := [.val [] (.st [sl true ⟨1, false⟩ s_0, sl true ⟨1, false⟩ s_1, sl true ⟨1, false⟩ s_2]), .val [] (.pt false () (.st [sl true ⟨1, false⟩ s_0, sl true ⟨1, false⟩ s_1, sl true ⟨1, false⟩ s_2])), .val [] (.pt false () (.st [sl false ⟨1, false⟩ ([]), sl false ⟨1, false⟩ ([]), sl false ⟨1, false⟩ ([])])), .un, .adr 1 [.d 51, .f 51 0], .val [] (sl true ⟨1, false⟩ s_0), .un, .un, .adr 1 [.d 51, .f 51 1], .val [] (sl true ⟨1, false⟩ s_1), .un, .un, .adr 1 [.d 51, .f 51 2], .val [] (sl true ⟨1, false⟩ s_2), .un, .un, .un]
noncomputable abbrev R89_14 (s_0 s_1 s_2 : List TV) : Nd := .rg [1, 0] [false, true, true, false, false, true, true, false, false, true, true, false, false, false] (ER89_14 s_0 s_1 s_2)
noncomputable def ER89_15 (s_0 s_1 s_2 : List TV) : Env := [.val [] (.st [sl true ⟨1, false⟩ s_0, sl true ⟨1, false⟩ s_1, sl true ⟨1, false⟩ s_2]), .val [] (.pt false () (.st [sl true ⟨1, false⟩ s_0, sl true ⟨1, false⟩ s_1, sl true ⟨1, false⟩ s_2])), .val [] (.pt false () (.st [sl false ⟨1, false⟩ ([]), sl false ⟨1, false⟩ ([]), sl false ⟨1, false⟩ ([])])), .un, .adr 1 [.d 51, .f 51 0], .val [] (sl true ⟨1, false⟩ s_0), .un, .un, .adr 1 [.d 51, .f 51 1], .un, .un, .val [] (sl false ⟨1, false⟩ ([])), .adr 1 [.d 51, .f 51 2], .val [] (sl true ⟨1, false⟩ s_2), .un, .un, .un]
noncomputable abbrev R89_15 (s_0 s_1 s_2 : List TV) : Nd := .rg [1, 0] [false, true, true, false, false, true, false, false, true, true, true, false, false, false] (ER89_15 s_0 s_1 s_2)
noncomputable def ER89_16 (s_0 s_1 s_2 : List TV) : Env := [.val [] (.st [sl true ⟨1, false⟩ s_0, sl true ⟨1, false⟩ s_1, sl true ⟨1, false⟩ s_2]), .val [] (.pt false () (.st [sl true ⟨1, false⟩ s_0, sl true ⟨1, false⟩ s_1, sl true ⟨1, false⟩ s_2])), .val [] (.pt false () (.st [sl false ⟨1, false⟩ ([]), sl false ⟨1, false⟩ ([]), sl false ⟨1, false⟩ ([])])), .un, .adr 1 [.d 51, .f 51 0], .val [] (sl true ⟨1, false⟩ s_0), .val [] (sl false ⟨1, false⟩ (([]) ++ s_0)), .val [] (sl false ⟨1, false⟩ ([])), .adr 1 [.d 51, .f 51 1], .val [] (sl true ⟨1, false⟩ s_1), .un, .un, .adr 1 [.d 51, .f 51 2], .un, .un, .un, .un]
noncomputable abbrev R89_16 (s_0 s_1 s_2 : List TV) : Nd := .rg [1, 0] [true, true, true, true, true, true, true, false, false, true, false, false, false, false] (ER89_16 s_0 s_1 s_2)
noncomputable def ER89_17 (s_0 s_1 s_2 : List TV) : Env := [.val [] (.st [sl true ⟨1, false⟩ s_0, sl true ⟨1, false⟩ s_1, sl true ⟨1, false⟩ s_2]), .val [] (.pt false () (.st [sl true ⟨1, false⟩ s_0, sl true ⟨1, false⟩ s_1, sl true ⟨1, false⟩ s_2])), .val [] (.pt false () (.st [sl false ⟨1, false⟩ ([]), sl false ⟨1, false⟩ ([]), sl false ⟨1, false⟩ ([])])), .un, .adr 1 [.d 51, .f 51 0], .val [] (sl true ⟨1, false⟩ s_0), .val [] (sl false ⟨1, false⟩ (([]) ++ s_0)), .un, .adr 1 [.d 51, .f 51 1], .val [] (sl true ⟨1, false⟩ s_1), .un, .val [] (sl false ⟨1, false⟩ ([])), .adr 1 [.d 51, .f 51 2], .un, .un, .un, .un]
noncomputable abbrev R89_17 (s_0 s_1 s_2 : List TV) : Nd := .rg [1, 0] [true, true, true, true, false, true, true, false, true, true, false, false, false, false] (ER89_17 s_0 s_1 s_2)
noncomputable def ER89_18 (s_0 s_1 s_2 : List TV) : Env := [.val [] (.st [sl true ⟨1, false⟩ s_0, sl true ⟨1, false⟩ s_1, sl true ⟨1, false⟩ s_2]), .val [] (.pt false () (.st [sl true ⟨1, false⟩ s_0, sl true ⟨1, false⟩ s_1, sl true ⟨1, false⟩ s_2])), .val [] (.pt false () (.st [sl false ⟨1, false⟩ ([]), sl false ⟨1, false⟩ ([]), sl false ⟨1, false⟩ ([])])), .un, .adr 1 [.d 51, .f 51 0], .val [] (sl true ⟨1, false⟩ s_0), .val [] (sl false ⟨1, false⟩ (([]) ++ s_0)), .un, .adr 1 [.d 51, .f 51 1], .val [] (sl true ⟨1, false⟩ s_1), .un, .un, .adr 1 [.d 51, .f 51 2], .val [] (sl true ⟨1, false⟩ s_2), .un, .un, .un]
noncomputable abbrev R89_18 (s_0 s_1 s_2 : List TV) : Nd := .rg [1, 0] [true, true, true, true, false, true, true, false, false, true, true, false, false, false] (ER89_18 s_0 s_1 s_2)
noncomputable def ER89_19 (s_0 s_1 s_2 : List TV) : Env := [.val [] (.st [sl true ⟨1, false⟩ s_0, sl true ⟨1, false⟩ s_1, sl true ⟨1, false⟩ s_2]), .val [] (.pt false () (.st [sl true ⟨1, false⟩ s_0, sl true ⟨1, false⟩ s_1, sl true ⟨1, false⟩ s_2])), .val [] (.pt false () (.st [sl false ⟨1, false⟩ ([]), sl false ⟨1, false⟩ ([]), sl false ⟨1, false⟩ ([])])), .un, .adr 1 [.d 51, .f 51 0], .val [] (sl true ⟨1, false⟩ s_0), .val [] (sl false ⟨1, false⟩ (([]) ++ s_0)), .val [] (sl false ⟨1, false⟩ ([])), .adr 1 [.d 51, .f 51 1], .un, .un, .un, .adr 1 [.d 51, .f 51 2], .un, .un, .un, .un]
noncomputable abbrev R89_19 (s_0 s_1 s_2 : List TV) : Nd := .rg [1, 0] [true, true, true, true, true, true, false, false, false, true, false, false, false, false] (ER89_19 s_0 s_1 s_2)
noncomputable def ER89_20 (s_0 s_1 s_2 : List TV) : Env := [.val [] (.st [sl true ⟨1, false⟩ s_0, sl true ⟨1, false⟩ s_1, sl true ⟨1, false⟩ s_2]), .val [] (.pt false () (.st [sl true ⟨1, false⟩ s_0, sl true ⟨1, false⟩ s_1, sl true ⟨1, false⟩ s_2])), .val [] (.pt false () (.st [sl false ⟨1, false⟩ ([]), sl false ⟨1, false⟩ ([]), sl false ⟨1, false⟩ ([])])), .val [] (sl false ⟨1, false⟩ ([])), .adr 1 [.d 51, .f 51 0], .val [] (sl true ⟨1, false⟩ s_0), .un, .val [] (sl false ⟨1, false⟩ ([])), .adr 1 [.d 51, .f 51 1], .val [] (sl true ⟨1, false⟩ s_1), .un, .un, .adr 1 [.d 51, .f 51 2], .un, .un, .un, .un]
noncomputable abbrev R89_20 (s_0 s_1 s_2 : List TV) : Nd := .rg [1, 0] [true, true, true, false, true, true, true, false, false, true, false, false, false, false] (ER89_20 s_0 s_1 s_2)
noncomputable def ER89_21 (s_0 s_1 s_2 : List TV) : Env := [.val [] (.st [sl true ⟨1, false⟩ s_0, sl true ⟨1, false⟩ s_1, sl true ⟨1, false⟩ s_2]), .val [] (.pt false () (.st [sl true ⟨1, false⟩ s_0, sl true ⟨1, false⟩ s_1, sl true ⟨1, false⟩ s_2])), .val [] (.pt false () (.st [sl false ⟨1, false⟩ ([]), sl false ⟨1, false⟩ ([]), sl false ⟨1, false⟩ ([])])), .val [] (sl false ⟨1, false⟩ ([])), .adr 1 [.d 51, .f 51 0], .val [] (sl true ⟨1, false⟩ s_0), .un, .val [] (sl false ⟨1, false⟩ ([])), .adr 1 [.d 51, .f 51 1], .un, .un, .val [] (sl false ⟨1, false⟩ ([])), .adr 1 [.d 51, .f 51 2], .un, .un, .un, .un]
noncomputable abbrev R89_21 (s_0 s_1 s_2 : List TV) : Nd := .rg [1, 0] [true, true, true, false, true, true, false, false, true, true, false, false, false, false] (ER89_21 s_0 s_1 s_2)
noncomputable def ER89_22 (s_0 s_1 s_2 : List TV) : Env := [.val [] (.st [sl true ⟨1, false⟩ s_0, sl true ⟨1, false⟩ s_1, sl true ⟨1, false⟩ s_2]), .val [] (.pt false () (.st [sl true ⟨1, false⟩ s_0, sl true ⟨1, false⟩ s_1, sl true ⟨1, false⟩ s_2])), .val [] (.pt false () (.st [sl false ⟨1, false⟩ ([]), sl false ⟨1, false⟩ ([]), sl false ⟨1, false⟩ ([])])), .val [] (sl false ⟨1, false⟩ ([])), .adr 1 [.d 51, .f 51 0], .val [] (sl true ⟨1, false⟩ s_0), .un, .val [] (sl false ⟨1, false⟩ ([])), .adr 1 [.d 51, .f 51 1], .un, .un, .un, .adr 1 [.d 51, .f 51 2], .val [] (sl true ⟨1, false⟩ s_2), .un, .un, .un]
noncomputable abbrev R89_22 (s_0 s_1 s_2 : List TV) : Nd := .rg [1, 0] [true, true, true, false, true, true, false, false, false, true, true, false, false, false] (ER89_22 s_0 s_1 s_2)
noncomputable def ER89_23 (s_0 s_1 s_2 : List TV) : Env := [.val [] (.st [sl true ⟨1, false⟩ s_0, sl true ⟨1, false⟩ s_1, sl true ⟨1, false⟩ s_2]), .val [] (.pt false () (.st [sl true ⟨1, false⟩ s_0, sl true ⟨1, false⟩ s_1, sl true ⟨1, false⟩ s_2])), .val [] (.pt false () (.st [sl false ⟨1, false⟩ ([]), sl false ⟨1, false⟩ ([]), sl false ⟨1, false⟩ ([])])), .un, .adr 1 [.d 51, .f 51 0], .val [] (sl true ⟨1, false⟩ s_0), .val [] (sl false ⟨1, false⟩ (([]) ++ s_0)), .un, .adr 1 [.d 51, .f 51 1], .val [] (sl true ⟨1, false⟩ s_1), .un, .un, .adr 1 [.d 51, .f 51 2], .un, .un, .un, .un]
noncomputable abbrev R89_23 (s_0 s_1 s_2 : List TV) : Nd := .rg [1, 0] [true, true, true, true, false, true, true, false, false, true, false, false, false, false] (ER89_23 s_0 s_1 s_2)
noncomputable def ER89_24 (s_0 s_1 s_2 : List TV) : Env := [.val [] (.st [sl true ⟨1, false⟩ s_0, sl true ⟨1, false⟩ s_1, sl true ⟨1, false⟩ s_2]), .val [] (.pt false () (.st [sl true ⟨1, false⟩ s_0, sl true ⟨1, false⟩ s_1, sl true ⟨1, false⟩ s_2])), .val [] (.pt false () (.st [sl false ⟨1, false⟩ ([]), sl false ⟨1, false⟩ ([]), sl false ⟨1, false⟩ ([])])), .val [] (sl false ⟨1, false⟩ ([])), .adr 1 [.d 51, .f 51 0], .val [] (sl true ⟨1, false⟩ s_0), .un, .un, .adr 1 [.d 51, .f 51 1], .val [] (sl true ⟨1, false⟩ s_1), .un, .val [] (sl false ⟨1, false⟩ ([])), .adr 1 [.d 51, .f 51 2], .un, .un, .un, .un]
noncomputable abbrev R89_24 (s_0 s_1 s_2 : List TV) : Nd := .rg [1, 0] [true, true, true, false, false, true, true, false, true, true, false, false, false, false] (ER89_24 s_0 s_1 s_2)
noncomputable def ER89_25 (s_0 s_1 s_2 : List TV) : Env := [.val [] (.st [sl true ⟨1, false⟩ s_0, sl true ⟨1, false⟩ s_1, sl true ⟨1, false⟩ s_2]), .val [] (.pt false () (.st [sl true ⟨1, false⟩ s_0, sl true ⟨1, false⟩ s_1, sl true ⟨1, false⟩ s_2])), .val [] (.pt false () (.st [sl false ⟨1, false⟩ ([]), sl false ⟨1, false⟩ ([]), sl false ⟨1, false⟩ ([])])), .val [] (sl false ⟨1, false⟩ ([])), .adr 1 [.d 51, .f 51 0], .val [] (sl true ⟨1, false⟩ s_0), .un, .un, .adr 1 [.d 51, .f 51 1], .val [] (sl true ⟨1, false⟩ s_1), .un, .un, .adr 1 [.d 51, .f 51 2], .val [] (sl true ⟨1, false⟩ s_2), .un, .un, .un]
noncomputable abbrev R89_25 (s_0 s_1 s_2 : List TV) : Nd := .rg [1, 0] [true, true, true, false, false, true, true, false, false, true, true, false, false, false] (ER89_25 s_0 s_1 s_2)
noncomputable def ER89_26 (s_0 s_1 s_2 : List TV) : Env := [.val [] (.st [sl true ⟨1, false⟩ s_0, sl true ⟨1, false⟩ s_1, sl true ⟨1, false⟩ s_2]), .val [] (.pt false () (.st [sl true ⟨1, false⟩ s_0, sl true ⟨1, false⟩ s_1, sl true ⟨1, false⟩ s_2])), .val [] (.pt false () (.st [sl false ⟨1, false⟩ ([]), sl false ⟨1, false⟩ ([]), sl false ⟨1, false⟩ ([])])), .un, .adr 1 [.d 51, .f 51 0], .val [] (sl true ⟨1, false⟩ s_0), .val [] (sl false ⟨1, false⟩ (([]) ++ s_0)), .un, .adr 1 [.d 51, .f 51 1], .un, .un, .val [] (sl false ⟨1, false⟩ ([])), .adr 1 [.d 51, .f 51 2], .un, .un, .un, .un]
noncomputable abbrev R89_26 (s_0 s_1 s_2 : List TV) : Nd := .rg [1, 0] [true, true, true, true, false, true, false, false, true, true, false, false, false, false] (ER89_26 s_0 s_1 s_2)
noncomputable def ER89_27 (s_0 s_1 s_2 : List TV) : Env := [.val [] (.st [sl true ⟨1, false⟩ s_0, sl true ⟨1, false⟩ s_1, sl true ⟨1, false⟩ s_2]), .val [] (.pt false () (.st [sl true ⟨1, false⟩ s_0, sl true ⟨1, false⟩ s_1, sl true ⟨1, false⟩ s_2])), .val [] (.pt false () (.st [sl false ⟨1, false⟩ ([]), sl false ⟨1, false⟩ ([]), sl false ⟨1, false⟩ ([])])), .val [] (sl false ⟨1, false⟩ ([])), .adr 1 [.d 51, .f 51 0], .val [] (sl true ⟨1, false⟩ s_0), .un, .un, .adr 1 [.d 51, .f 51 1], .un, .un, .val [] (sl false ⟨1, false⟩ ([])), .adr 1 [.d 51, .f 51 2], .val [] (sl true ⟨1, false⟩ s_2), .un, .un, .un]
noncomputable abbrev R89_27 (s_0 s_1 s_2 : List TV) : Nd := .rg [1, 0] [true, true, true, false, false, true, false, false, true, true, true, false, false, false] (ER89_27 s_0 s_1 s_2)
noncomputable def ER89_28 (s_0 s_1 s_2 : List TV) : Env := [.val [] (.st [sl true ⟨1, false⟩ s_0, sl true ⟨1, false⟩ s_1, sl true ⟨1, false⟩ s_2]), .val [] (.pt false () (.st [sl true ⟨1, false⟩ s_0, sl true ⟨1, false⟩ s_1, sl true ⟨1, false⟩ s_2])), .val [] (.pt false () (.st [sl false ⟨1, false⟩ ([]), sl false ⟨1, false⟩ ([]), sl false ⟨1, false⟩ ([])])), .un, .adr 1 [.d 51, .f 51 0], .val [] (sl true ⟨1, false⟩ s_0), .val [] (sl false ⟨1, false⟩ (([]) ++ s_0)), .un, .adr 1 [.d 51, .f 51 1], .un, .un, .un, .adr 1 [.d 51, .f 51 2], .val [] (sl true ⟨1, false⟩ s_2), .un, .un, .un]
noncomputable abbrev R89_28 (s_0 s_1 s_2 : List TV) : Nd := .rg [1, 0] [true, true, true, true, false, true, false, false, false, true, true, false, false, false] (ER89_28 s_0 s_1 s_2)
noncomputable def ER89_29 (s_0 s_1 s_2 : List TV) : Env := [.val [] (.st [sl true ⟨1, false⟩ s_0, sl true ⟨1, false⟩ s_1, sl true ⟨1, false⟩ s_2]), .val [] (.pt false () (.st [sl true ⟨1, false⟩ s_0, sl true ⟨1, false⟩ s_1, sl true ⟨1, false⟩ s_2])), .val [] (.pt false () (.st [sl false ⟨1, false⟩ ([]), sl false ⟨1, false⟩ ([]), sl false ⟨1, false⟩ ([])])), .un, .adr 1 [.d 51, .f 51 0], .val [] (sl true ⟨1, false⟩ s_0), .un, .val [] (sl false ⟨1, false⟩ ([])), .adr 1 [.d 51, .f 51 1], .val [] (sl true ⟨1, false⟩ s_1), .un, .val [] (sl false ⟨1, false⟩ ([])), .adr 1 [.d 51, .f 51 2], .un, .un, .un, .un]
noncomputable abbrev R89_29 (s_0 s_1 s_2 : List TV) : Nd := .rg [1, 0] [false, true, true, false, true, true, true, false, true, true, false, false, false, false] (ER89_29 s_0 s_1 s_2)
noncomputable def ER89_30 (s_0 s_1 s_2 : List TV) : Env := [.val [] (.st [sl true ⟨1, false⟩ s_0, sl true ⟨1, false⟩ s_1, sl true ⟨1, false⟩ s_2]), .val [] (.pt false () (.st [sl true ⟨1, false⟩ s_0, sl true ⟨1, false⟩ s_1, sl true ⟨1, false⟩ s_2])), .val [] (.pt false () (.st [sl false ⟨1, false⟩ ([]), sl false ⟨1, false⟩ ([]), sl false ⟨1, false⟩ ([])])), .un, .adr 1 [.d 51, .f 51 0], .val [] (sl true ⟨1, false⟩ s_0), .un, .val [] (sl false ⟨1, false⟩ ([])), .adr 1 [.d 51, .f 51 1], .val [] (sl true ⟨1, false⟩ s_1), .un, .un, .adr 1 [.d 51, .f 51 2], .val [] (sl true ⟨1, false⟩ s_2), .un, .un, .un]
noncomputable abbrev R89_30 (s_0 s_1 s_2 : List TV) : Nd := .rg [1, 0] [false, true, true, false, true, true, true, false, false, true, true, false, false, false] (ER89_30 s_0 s_1 s_2)
noncomputable def ER89_31 (s_0 s_1 s_2 : List TV) : Env := [.val [] (.st [sl true ⟨1, false⟩ s_0, sl true ⟨1, false⟩ s_1, sl true ⟨1, false⟩ s_2]), .val [] (.pt false () (.st [sl true ⟨1, false⟩ s_0, sl true ⟨1, false⟩ s_1, sl true ⟨1, false⟩ s_2])), .val [] (.pt false () (.st [sl false ⟨1, false⟩ ([]), sl false ⟨1, false⟩ ([]), sl false ⟨1, false⟩ ([])])), .un, .adr 1 [.d 51, .f 51 0], .val [] (sl true ⟨1, false⟩ s_0), .un, .val [] (sl false ⟨1, false⟩ ([])), .adr 1 [.d 51, .f 51 1], .un, .un, .val [] (sl false ⟨1, false⟩ ([])), .adr 1 [.d 51, .f 51 2], .val [] (sl true ⟨1, false⟩ s_2), .un, .un, .un]
noncomputable abbrev R89_31 (s_0 s_1 s_2 : List TV) : Nd := .rg [1, 0] [false, true, true, false, true, true, false, false, true, true, true, false, false, false] (ER89_31 s_0 s_1 s_2)
noncomputable def ER89_32 (s_0 s_1 s_2 : List TV) : Env := [.val [] (.st [sl true ⟨1, false⟩ s_0, sl true ⟨1, false⟩ s_1, sl true ⟨1, false⟩ s_2]), .val [] (.pt false () (.st [sl true ⟨1, false⟩ s_0, sl true ⟨1, false⟩ s_1, sl true ⟨1, false⟩ s_2])), .val [] (.pt false () (.st [sl false ⟨1, false⟩ ([]), sl false ⟨1, false⟩ ([]), sl false ⟨1, false⟩ ([])])), .un, .adr 1 [.d 51, .f 51 0], .val [] (sl true ⟨1, false⟩ s_0), .un, .un, .adr 1 [.d 51, .f 51 1], .val [] (sl true ⟨1, false⟩ s_1), .un, .val [] (sl false ⟨1, false⟩ ([])), .adr 1 [.d 51, .f 51 2], .val [] (sl true ⟨1, false⟩ s_2), .un, .un, .un]
noncomputable abbrev R89_32 (s_0 s_1 s_2 : List TV) : Nd := .rg [1, 0] [false, true, true, false, false, true, true, false, true, true, true, false, false, false] (ER89_32 s_0 s_1 s_2)
noncomputable def ER89_33 (s_0 s_1 s_2 : List TV) : Env := [.val [] (.st [sl true ⟨1, false⟩ s_0, sl true ⟨1, false⟩ s_1, sl true ⟨1, false⟩ s_2]), .val [] (.pt false () (.st [sl true ⟨1, false⟩ s_0, sl true ⟨1, false⟩ s_1, sl true ⟨1, false⟩ s_2])), .val [] (.pt false () (.st [sl false ⟨1, false⟩ ([]), sl false ⟨1, false⟩ ([]), sl false ⟨1, false⟩ ([])])), .un, .adr 1 [.d 51, .f 51 0], .val [] (sl true ⟨1, false⟩ s_0), .val [] (sl false ⟨1, false⟩ (([]) ++ s_0)), .un, .adr 1 [.d 51, .f 51 1], .val [] (sl true ⟨1, false⟩ s_1), .val [] (sl false ⟨1, false⟩ (([]) ++ s_1)), .un, .adr 1 [.d 51, .f 51 2], .un, .un, .un, .un]
noncomputable abbrev R89_33 (s_0 s_1 s_2 : List TV) : Nd := .rg [1, 0] [true, true, true, true, true, true, true, true, false, true, false, false, false, false] (ER89_33 s_0 s_1 s_2)
noncomputable def ER89_34 (s_0 s_1 s_2 : List TV) : Env := [.val [] (.st [sl true ⟨1, false⟩ s_0, sl true ⟨1, false⟩ s_1, sl true ⟨1, false⟩ s_2]), .val [] (.pt false () (.st [sl true ⟨1, false⟩ s_0, sl true ⟨1, false⟩ s_1, sl true ⟨1, false⟩ s_2])), .val [] (.pt false () (.st [sl false ⟨1, false⟩ ([]), sl false ⟨1, false⟩ ([]), sl false ⟨1, false⟩ ([])])), .un, .adr 1 [.d 51, .f 51 0], .val [] (sl true ⟨1, false⟩ s_0), .val [] (sl false ⟨1, false⟩ (([]) ++ s_0)), .val [] (sl false ⟨1, false⟩ ([])), .adr 1 [.d 51, .f 51 1], .val [] (sl true ⟨1, false⟩ s_1), .un, .val [] (sl false ⟨1, false⟩ ([])), .adr 1 [.d 51, .f 51 2], .un, .un, .un, .un]
noncomputable abbrev R89_34 (s_0 s_1 s_2 : List TV) : Nd := .rg [1, 0] [true, true, true, true, true, true, true, false, true, true, false, false, false, false] (ER89_34 s_0 s_1 s_2)
noncomputable def ER89_35 (s_0 s_1 s_2 : List TV) : Env := [.val [] (.st [sl true ⟨1, false⟩ s_0, sl true ⟨1, false⟩ s_1, sl true ⟨1, false⟩ s_2]), .val [] (.pt false () (.st [sl true ⟨1, false⟩ s_0, sl true ⟨1, false⟩ s_1, sl true ⟨1, false⟩ s_2])), .val [] (.pt false () (.st [sl false ⟨1, false⟩ ([]), sl false ⟨1, false⟩ ([]), sl false ⟨1, false⟩ ([])])), .un, .adr 1 [.d 51, .f 51 0], .val [] (sl true ⟨1, false⟩ s_0), .val [] (sl false ⟨1, false⟩ (([]) ++ s_0)), .val [] (sl false ⟨1, false⟩ ([])), .adr 1 [.d 51, .f 51 1], .val [] (sl true ⟨1, false⟩ s_1), .un, .un, .adr 1 [.d 51, .f 51 2], .val [] (sl true ⟨1, false⟩ s_2), .un, .un, .un]
noncomputable abbrev R89_35 (s_0 s_1 s_2 : List TV) : Nd := .rg [1, 0] [true, true, true, true, true, true, true, false, false, true, true, false, false, false] (ER89_35 s_0 s_1 s_2)
noncomputable def ER89_36 (s_0 s_1 s_2 : List TV) : Env := [.val [] (.st [sl true ⟨1, false⟩ s_0, sl true ⟨1, false⟩ s_1, sl true ⟨1, false⟩ s_2]), .val [] (.pt false () (.st [sl true ⟨1, false⟩ s_0, sl true ⟨1, false⟩ s_1, sl true ⟨1, false⟩ s_2])), .val [] (.pt false () (.st [sl false ⟨1, false⟩ ([]), sl false ⟨1, false⟩ ([]), sl false ⟨1, false⟩ ([])])), .un, .adr 1 [.d 51, .f 51 0], .val [] (sl true ⟨1, false⟩ s_0), .val [] (sl false ⟨1, false⟩ (([]) ++ s_0)), .un, .adr 1 [.d 51, .f 51 1], .val [] (sl true ⟨1, false⟩ s_1), .un, .val [] (sl false ⟨1, false⟩ ([])), .adr 1 [.d 51, .f 51 2], .val [] (sl true ⟨1, false⟩ s_2), .un, .un, .un]
noncomputable abbrev R89_36 (s_0 s_1 s_2 : List TV) : Nd := .rg [1, 0] [true, true, true, true, false, true, true, false, true, true, true, false, false, false] (ER89_36 s_0 s_1 s_2)
noncomputable def ER89_37 (s_0 s_1 s_2 : List TV) : Env := [.val [] (.st [sl true ⟨1, false⟩ s_0, sl true ⟨1, false⟩ s_1, sl true ⟨1, false⟩ s_2]), .val [] (.pt false () (.st [sl true ⟨1, false⟩ s_0, sl true ⟨1, false⟩ s_1, sl true ⟨1, false⟩ s_2])), .val [] (.pt false () (.st [sl false ⟨1, false⟩ ([]), sl false ⟨1, false⟩ ([]), sl false ⟨1, false⟩ ([])])), .val [] (sl false ⟨1, false⟩ ([])), .adr 1 [.d 51, .f 51 0], .val [] (sl true ⟨1, false⟩ s_0), .un, .val [] (sl false ⟨1, false⟩ ([])), .adr 1 [.d 51, .f 51 1], .val [] (sl true ⟨1, false⟩ s_1), .un, .val [] (sl false ⟨1, false⟩ ([])), .adr 1 [.d 51, .f 51 2], .un, .un, .un, .un]
noncomputable abbrev R89_37 (s_0 s_1 s_2 : List TV) : Nd := .rg [1, 0] [true, true, true, false, true, true, true, false, true, true, false, false, false, false] (ER89_37 s_0 s_1 s_2)
noncomputable def ER89_38 (s_0 s_1 s_2 : List TV) : Env := [.val [] (.st [sl true ⟨1, false⟩ s_0, sl true ⟨1, false⟩ s_1, sl true ⟨1, false⟩ s_2]), .val [] (.pt false () (.st [sl true ⟨1, false⟩ s_0, sl true ⟨1, false⟩ s_1, sl true ⟨1, false⟩ s_2])), .val [] (.pt false () (.st [sl false ⟨1, false⟩ ([]), sl false ⟨1, false⟩ ([]), sl false ⟨1, false⟩ ([])])), .val [] (sl false ⟨1, false⟩ ([])), .adr 1 [.d 51, .f 51 0], .val [] (sl true ⟨1, false⟩ s_0), .un, .val [] (sl false ⟨1, false⟩ ([])), .adr 1 [.d 51, .f 51 1], .val [] (sl true ⟨1, false⟩ s_1), .un, .un, .adr 1 [.d 51, .f 51 2], .val [] (sl true ⟨1, false⟩ s_2), .un, .un, .un]
noncomputable abbrev R89_38 (s_0 s_1 s_2 : List TV) : Nd := .rg [1, 0] [true, true, true, false, true, true, true, false, false, true, true, false, false, false] (ER89_38 s_0 s_1 s_2)
noncomputable def ER89_39 (s_0 s_1 s_2 : List TV) : Env := [.val [] (.st [sl true ⟨1, false⟩ s_0, sl true ⟨1, false⟩ s_1, sl true ⟨1, false⟩ s_2]), .val [] (.pt false () (.st [sl true ⟨1, false⟩ s_0, sl true ⟨1, false⟩ s_1, sl true ⟨1, false⟩ s_2])), .val [] (.pt false () (.st [sl false ⟨1, false⟩ ([]), sl false ⟨1, false⟩ ([]), sl false ⟨1, false⟩ ([])])), .un, .adr 1 [.d 51, .f 51 0], .val [] (sl true ⟨1, false⟩ s_0), .val [] (sl false ⟨1, false⟩ (([]) ++ s_0)), .val [] (sl false ⟨1, false⟩ ([])), .adr 1 [.d 51, .f 51 1], .un, .un, .val [] (sl false ⟨1, false⟩ ([])), .adr 1 [.d 51, .f 51 2], .un, .un, .un, .un]
noncomputable abbrev R89_39 (s_0 s_1 s_2 : List TV) : Nd := .rg [1, 0] [true, true, true, true, true, true, false, false, true, true, false, false, false, false] (ER89_39 s_0 s_1 s_2)
noncomputable def ER89_40 (s_0 s_1 s_2 : List TV) : Env := [.val [] (.st [sl true ⟨1, false⟩ s_0, sl true ⟨1, false⟩ s_1, sl true ⟨1, false⟩ s_2]), .val [] (.pt false () (.st [sl true ⟨1, false⟩ s_0, sl true ⟨1, false⟩ s_1, sl true ⟨1, false⟩ s_2])), .val [] (.pt false () (.st [sl false ⟨1, false⟩ ([]), sl false ⟨1, false⟩ ([]), sl false ⟨1, false⟩ ([])])), .val [] (sl false ⟨1, false⟩ ([])), .adr 1 [.d 51, .f 51 0], .val [] (sl true ⟨1, false⟩ s_0), .un, .val [] (sl false ⟨1, false⟩ ([])), .adr 1 [.d 51, .f 51 1], .un, .un, .val [] (sl false ⟨1, false⟩ ([])), .adr 1 [.d 51, .f 51 2], .val [] (sl true ⟨1, false⟩ s_2), .un, .un, .un]
noncomputable abbrev R89_40 (s_0 s_1 s_2 : List TV) : Nd := .rg [1, 0] [true, true, true, false, true, true, false, false, true, true, true, false, false, false] (ER89_40 s_0 s_1 s_2)
noncomputable def ER89_41 (s_0 s_1 s_2 : List TV) : Env := [.val [] (.st [sl true ⟨1, false⟩ s_0, sl true ⟨1, false⟩ s_1, sl true ⟨1, false⟩ s_2]), .val [] (.pt false () (.st [sl true ⟨1, false⟩ s_0, sl true ⟨1, false⟩ s_1, sl true ⟨1, false⟩ s_2])), .val [] (.pt false () (.st [sl false ⟨1, false⟩ ([]), sl false ⟨1, false⟩ ([]), sl false ⟨1, false⟩ ([])])), .un, .adr 1 [.d 51, .f 51 0], .val [] (sl true ⟨1, false⟩ s_0), .val [] (sl false ⟨1, false⟩ (([]) ++ s_0)), .val [] (sl false ⟨1, false⟩ ([])), .adr 1 [.d 51, .f 51 1], .un, .un, .un, .adr 1 [.d 51, .f 51 2], .val [] (sl true ⟨1, false⟩ s_2), .un, .un, .un]
noncomputable abbrev R89_41 (s_0 s_1 s_2 : List TV) : Nd := .rg [1, 0] [true, true, true, true, true, true, false, false, false, true, true, false, false, false] (ER89_41 s_0 s_1 s_2)
noncomputable def ER89_42 (s_0 s_1 s_2 : List TV) : Env := [.val [] (.st [sl true ⟨1, false⟩ s_0, sl true ⟨1, false⟩ s_1, sl true ⟨1, false⟩ s_2]), .val [] (.pt false () (.st [sl true ⟨1, false⟩ s_0, sl true ⟨1, false⟩ s_1, sl true ⟨1, false⟩ s_2])), .val [] (.pt false () (.st [sl false ⟨1, false⟩ ([]), sl false ⟨1, false⟩ ([]), sl false ⟨1, false⟩ ([])])), .val [] (sl false ⟨1, false⟩ ([])), .adr 1 [.d 51, .f 51 0], .val [] (sl true ⟨1, false⟩ s_0), .un, .un, .adr 1 [.d 51, .f 51 1], .val [] (sl true ⟨1, false⟩ s_1), .un, .val [] (sl false ⟨1, false⟩ ([])), .adr 1 [.d 51, .f 51 2], .val [] (sl true ⟨1, false⟩ s_2), .un, .un, .un]
noncomputable abbrev R89_42 (s_0 s_1 s_2 : List TV) : Nd := .rg [1, 0] [true, true, true, false, false, true, true, false, true, true, true, false, false, false] (ER89_42 s_0 s_1 s_2)
noncomputable def ER89_43 (s_0 s_1 s_2 : List TV) : Env := [.val [] (.st [sl true ⟨1, false⟩ s_0, sl true ⟨1, false⟩ s_1, sl true ⟨1, false⟩ s_2]), .val [] (.pt false () (.st [sl true ⟨1, false⟩ s_0, sl true ⟨1, false⟩ s_1, sl true ⟨1, false⟩ s_2])), .val [] (.pt false () (.st [sl false ⟨1, false⟩ ([]), sl false ⟨1, false⟩ ([]), sl false ⟨1, false⟩ ([])])), .un, .adr 1 [.d 51, .f 51 0], .val [] (sl true ⟨1, false⟩ s_0), .val [] (sl false ⟨1, false⟩ (([]) ++ s_0)), .un, .adr 1 [.d 51, .f 51 1], .un, .un, .val [] (sl false ⟨1, false⟩ ([])), .adr 1 [.d 51, .f 51 2], .val [] (sl true ⟨1, false⟩ s_2), .un, .un, .un]
noncomputable abbrev R89_43 (s_0 s_1 s_2 : List TV) : Nd := .rg [1, 0] [true, true, true, true, false, true, false, false, true, true, true, false, false, false] (ER89_43 s_0 s_1 s_2)
noncomputable def ER89_44 (s_0 s_1 s_2 : List TV) : Env := [.val [] (.st [sl true ⟨1, false⟩ s_0, sl true ⟨1, false⟩ s_1, sl true ⟨1, false⟩ s_2]), .val [] (.pt false () (.st [sl true ⟨1, false⟩ s_0, sl true ⟨1, false⟩ s_1, sl true ⟨1, false⟩ s_2])), .val [] (.pt false () (.st [sl false ⟨1, false⟩ ([]), sl false ⟨1, false⟩ ([]), sl false ⟨1, false⟩ ([])])), .un, .adr 1 [.d 51, .f 51 0], .val [] (sl true ⟨1, false⟩ s_0), .un, .val [] (sl false ⟨1, false⟩ ([])), .adr 1 [.d 51, .f 51 1], .val [] (sl true ⟨1, false⟩ s_1), .un, .val [] (sl false ⟨1, false⟩ ([])), .adr 1 [.d 51, .f 51 2], .val [] (sl true ⟨1, false⟩ s_2), .un, .un, .un]
noncomputable abbrev R89_44 (s_0 s_1 s_2 : List TV) : Nd := .rg [1, 0] [false, true, true, false, true, true, true, false, true, true, true, false, false, false] (ER89_44 s_0 s_1 s_2)
noncomputable def ER89_45 (s_0 s_1 s_2 : List TV) : Env := [.val [] (.st [sl true ⟨1, false⟩ s_0, sl true ⟨1, false⟩ s_1, sl true ⟨1, false⟩ s_2]), .val [] (.pt false () (.st [sl true ⟨1, false⟩ s_0, sl true ⟨1, false⟩ s_1, sl true ⟨1, false⟩ s_2])), .val [] (.pt false () (.st [sl false ⟨1, false⟩ ([]), sl false ⟨1, false⟩ ([]), sl false ⟨1, false⟩ ([])])), .un, .adr 1 [.d 51, .f 51 0], .val [] (sl true ⟨1, false⟩ s_0), .val [] (sl false ⟨1, false⟩ (([]) ++ s_0)), .un, .adr 1 [.d 51, .f 51 1], .val [] (sl true ⟨1, false⟩ s_1), .val [] (sl false ⟨1, false⟩ (([]) ++ s_1)), .val [] (sl false ⟨1, false⟩ ([])), .adr 1 [.d 51, .f 51 2], .un, .un, .un, .un]
noncomputable abbrev R89_45 (s_0 s_1 s_2 : List TV) : Nd := .rg [1, 0] [true, true, true, true, true, true, true, true, true, true, false, false, false, false] (ER89_45 s_0 s_1 s_2)
noncomputable def ER89_46 (s_0 s_1 s_2 : List TV) : Env := [.val [] (.st [sl true ⟨1, false⟩ s_0, sl true ⟨1, false⟩ s_1, sl true ⟨1, false⟩ s_2]), .val [] (.pt false () (.st [sl true ⟨1, false⟩ s_0, sl true ⟨1, false⟩ s_1, sl true ⟨1, false⟩ s_2])), .val [] (.pt false () (.st [sl false ⟨1, false⟩ ([]), sl false ⟨1, false⟩ ([]), sl false ⟨1, false⟩ ([])])), .un, .adr 1 [.d 51, .f 51 0], .val [] (sl true ⟨1, false⟩ s_0), .val [] (sl false ⟨1, false⟩ (([]) ++ s_0)), .val [] (sl false ⟨1, false⟩ ([])), .adr 1 [.d 51, .f 51 1], .val [] (sl true ⟨1, false⟩ s_1), .un, .val [] (sl false ⟨1, false⟩ ([])), .adr 1 [.d 51, .f 51 2], .val [] (sl true ⟨1, false⟩ s_2), .un, .un, .un]
noncomputable abbrev R89_46 (s_0 s_1 s_2 : List TV) : Nd := .rg [1, 0] [true, true, true, true, true, true, true, false, true, true, true, false, false, false] (ER89_46 s_0 s_1 s_2)
noncomputable def ER89_47 (s_0 s_1 s_2 : List TV) : Env := [.val [] (.st [sl true ⟨1, false⟩ s_0, sl true ⟨1, false⟩ s_1, sl true ⟨1, false⟩ s_2]), .val [] (.pt false () (.st [sl true ⟨1, false⟩ s_0, sl true ⟨1, false⟩ s_1, sl true ⟨1, false⟩ s_2])), .val [] (.pt false () (.st [sl false ⟨1, false⟩ ([]), sl false ⟨1, false⟩ ([]), sl false ⟨1, false⟩ ([])])), .un, .adr 1 [.d 51, .f 51 0], .val [] (sl true ⟨1, false⟩ s_0), .val [] (sl false ⟨1, false⟩ (([]) ++ s_0)), .un, .adr 1 [.d 51, .f 51 1], .val [] (sl true ⟨1, false⟩ s_1), .val [] (sl false ⟨1, false⟩ (([]) ++ s_1)), .un, .adr 1 [.d 51, .f 51 2], .val [] (sl true ⟨1, false⟩ s_2), .un, .un, .un]
noncomputable abbrev R89_47 (s_0 s_1 s_2 : List TV) : Nd := .rg [1, 0] [true, true, true, true, true, true, true, true, false, true, true, false, false, false] (ER89_47 s_0 s_1 s_2)
noncomputable def ER89_48 (s_0 s_1 s_2 : List TV) : Env := [.val [] (.st [sl true ⟨1, false⟩ s_0, sl true ⟨1, false⟩ s_1, sl true ⟨1, false⟩ s_2]), .val [] (.pt false () (.st [sl true ⟨1, false⟩ s_0, sl true ⟨1, false⟩ s_1, sl true ⟨1, false⟩ s_2])), .val [] (.pt false () (.st [sl false ⟨1, false⟩ ([]), sl false ⟨1, false⟩ ([]), sl false ⟨1, false⟩ ([])])), .val [] (sl false ⟨1, false⟩ ([])), .adr 1 [.d 51, .f 51 0], .val [] (sl true ⟨1, false⟩ s_0), .un, .val [] (sl false ⟨1, false⟩ ([])), .adr 1 [.d 51, .f 51 1], .val [] (sl true ⟨1, false⟩ s_1), .un, .val [] (sl false ⟨1, false⟩ ([])), .adr 1 [.d 51, .f 51 2], .val [] (sl true ⟨1, false⟩ s_2), .un, .un, .un]
noncomputable abbrev R89_48 (s_0 s_1 s_2 : List TV) : Nd := .rg [1, 0] [true, true, true, false, true, true, true, false, true, true, true, false, false, false] (ER89_48 s_0 s_1 s_2)
noncomputable def ER89_49 (s_0 s_1 s_2 : List TV) : Env := [.val [] (.st [sl true ⟨1, false⟩ s_0, sl true ⟨1, false⟩ s_1, sl true ⟨1, false⟩ s_2]), .val [] (.pt false () (.st [sl true ⟨1, false⟩ s_0, sl true ⟨1, false⟩ s_1, sl true ⟨1, false⟩ s_2])), .val [] (.pt false () (.st [sl false ⟨1, false⟩ ([]), sl false ⟨1, false⟩ ([]), sl false ⟨1, false⟩ ([])])), .un, .adr 1 [.d 51, .f 51 0], .val [] (sl true ⟨1, false⟩ s_0), .val [] (sl false ⟨1, false⟩ (([]) ++ s_0)), .val [] (sl false ⟨1, false⟩ ([])), .adr 1 [.d 51, .f 51 1], .un, .un, .val [] (sl false ⟨1, false⟩ ([])), .adr 1 [.d 51, .f 51 2], .val [] (sl true ⟨1, false⟩ s_2), .un, .un, .un]
noncomputable abbrev R89_49 (s_0 s_1 s_2 : List TV) : Nd := .rg [1, 0] [true, true, true, true, true, true, false, false, true, true, true, false, false, false] (ER89_49 s_0 s_1 s_2)
noncomputable def N89 (s_0 s_1 s_2 : List TV) : Nd :=
 .amb5 
 (R89_0 s_0 s_1 s_2) 
 (R89_1 s_0 s_1 s_2) 
 (R89_2 s_0 s_1 s_2) 
 (R89_3 s_0 s_1 s_2) 
 (R89_4 s_0 s_1 s_2)
theorem e89 {s_0 s_1 s_2 : List TV} {r : Res} (h : S cx 89 (N89 s_0 s_1 s_2) = some r) : tw cx 89 [.st [sl true ⟨1, false⟩ s_0, sl true ⟨1, false⟩ s_1, sl true ⟨1, false⟩ s_2]] = some r :=
 tw_of (fun call hd hb pt rg => by kernel_rfl) h
noncomputable def NR89_0 (s_0 s_1 s_2 : List TV) : Nd :=
 .amb5 
 (.ck (decide ((0 + s_0.length) * 8 < lim)) <|
 R89_5 s_0 s_1 s_2) 
 (R89_6 s_0 s_1 s_2) 
 (R89_7 s_0 s_1 s_2) 
 (R89_8 s_0 s_1 s_2) 
 (R89_9 s_0 s_1 s_2)
theorem eR89_0 {s_0 s_1 s_2 : List TV} {r : Res} (h : S cx 89 (NR89_0 s_0 s_1 s_2) = some r) : S cx 89 (R89_0 s_0 s_1 s_2) = some r :=
 gw_of (fun call hd hb pt rg => by kernel_rfl) h
noncomputable def NR89_1 (s_0 s_1 s_2 : List TV) : Nd :=
 .amb4 
 (R89_6 s_0 s_1 s_2) 
 (R89_10 s_0 s_1 s_2) 
 (R89_11 s_0 s_1 s_2) 
 (R89_12 s_0 s_1 s_2)
theorem eR89_1 {s_0 s_1 s_2 : List TV} {r : Res} (h : S cx 89 (NR89_1 s_0 s_1 s_2) = some r) : S cx 89 (R89_1 s_0 s_1 s_2) = some r :=
 gw_of (fun call hd hb pt rg => by kernel_rfl) h
noncomputable def NR89_2 (s_0 s_1 s_2 : List TV) : Nd :=
 .amb4 
 (R89_7 s_0 s_1 s_2) 
 (R89_10 s_0 s_1 s_2) 
 (R89_13 s_0 s_1 s_2) 
 (R89_14 s_0 s_1 s_2)
theorem eR89_2 {s_0 s_1 s_2 : List TV} {r : Res} (h : S cx 89 (NR89_2 s_0 s_1 s_2) = some r) : S cx 89 (R89_2 s_0 s_1 s_2) = some r :=
 gw_of (fun call hd hb pt rg => by kernel_rfl) h
noncomputable def NR89_3 (s_0 s_1 s_2 : List TV) : Nd :=
 .amb4 
 (R89_8 s_0 s_1 s_2) 
 (R89_11 s_0 s_1 s_2) 
 (R89_13 s_0 s_1 s_2) 
 (R89_15 s_0 s_1 s_2)
theorem eR89_3 {s_0 s_1 s_2 : List TV} {r : Res} (h : S cx 89 (NR89_3 s_0 s_1 s_2) = some r) : S cx 89 (R89_3 s_0 s_1 s_2) = some r :=
 gw_of (fun call hd hb pt rg => by kernel_rfl) h
noncomputable def NR89_4 (s_0 s_1 s_2 : List TV) : Nd :=
 .amb4 
 (R89_9 s_0 s_1 s_2) 
 (R89_12 s_0 s_1 s_2) 
 (R89_14 s_0 s_1 s_2) 
 (R89_15 s_0 s_1 s_2)
theorem eR89_4 {s_0 s_1 s_2 : List TV} {r : Res} (h : S cx 89 (NR89_4 s_0 s_1 s_2) = some r) : S cx 89 (R89_4 s_0 s_1 s_2) = some r :=
 gw_of (fun call hd hb pt rg => by kernel_rfl) h
noncomputable def NR89_5 (s_0 s_1 s_2 : List TV) : Nd :=
 .amb3 
 (R89_16 s_0 s_1 s_2) 
 (R89_17 s_0 s_1 s_2) 
 (R89_18 s_0 s_1 s_2)
theorem eR89_5 {s_0 s_1 s_2 : List TV} {r : Res} (h : S cx 89 (NR89_5 s_0 s_1 s_2) = some r) : S cx 89 (R89_5 s_0 s_1 s_2) = some r :=
 gw_of (fun call hd hb pt rg => by kernel_rfl) h
noncomputable def NR89_6 (s_0 s_1 s_2 : List TV) : Nd :=
 .amb4 
 (.ck (decide ((0 + s_0.length) * 8 < lim)) <|
 R89_19 s_0 s_1 s_2) 
 (R89_20 s_0 s_1 s_2) 
 (R89_21 s_0 s_1 s_2) 
 (R89_22 s_0 s_1 s_2)
theorem eR89_6 {s_0 s_1 s_2 : List TV} {r : Res} (h : S cx 89 (NR89_6 s_0 s_1 s_2) = some r) : S cx 89 (R89_6 s_0 s_1 s_2) = some r :=
 gw_of (fun call hd hb pt rg => by kernel_rfl) h
noncomputable def NR89_7 (s_0 s_1 s_2 : List TV) : Nd :=
 .amb4 
 (.ck (decide ((0 + s_0.length) * 8 < lim)) <|
 R89_23 s_0 s_1 s_2) 
 (R89_20 s_0 s_1 s_2) 
 (R89_24 s_0 s_1 s_2) 
 (R89_25 s_0 s_1 s_2)
theorem eR89_7 {s_0 s_1 s_2 : List TV} {r : Res} (h : S cx 89 (NR89_7 s_0 s_1 s_2) = some r) : S cx 89 (R89_7 s_0 s_1 s_2) = some r :=
 gw_of (fun call hd hb pt rg => by kernel_rfl) h
noncomputable def NR89_8 (s_0 s_1 s_2 : List TV) : Nd :=
 .amb4 
 (.ck (decide ((0 + s_0.length) * 8 < lim)) <|
 R89_26 s_0 s_1 s_2) 
 (R89_21 s_0 s_1 s_2) 
 (R89_24 s_0 s_1 s_2) 
 (R89_27 s_0 s_1 s_2)
theorem eR89_8 {s_0 s_1 s_2 : List TV} {r : Res} (h : S cx 89 (NR89_8 s_0 s_1 s_2) = some r) : S cx 89 (R89_8 s_0 s_1 s_2) = some r :=
 gw_of (fun call hd hb pt rg => by kernel_rfl) h
noncomputable def NR89_9 (s_0 s_1 s_2 : List TV) : Nd :=
 .amb4 
 (.ck (decide ((0 + s_0.length) * 8 < lim)) <|
 R89_28 s_0 s_1 s_2) 
 (R89_22 s_0 s_1 s_2) 
 (R89_25 s_0 s_1 s_2) 
 (R89_27 s_0 s_1 s_2)
theorem eR89_9 {s_0 s_1 s_2 : List TV} {r : Res} (h : S cx 89 (NR89_9 s_0 s_1 s_2) = some r) : S cx 89 (R89_9 s_0 s_1 s_2) = some r :=
 gw_of (fun call hd hb pt rg => by kernel_rfl) h
noncomputable def NR89_10 (s_0 s_1 s_2 : List TV) : Nd :=
 .amb3 
 (R89_20 s_0 s_1 s_2) 
 (R89_29 s_0 s_1 s_2) 
 (R89_30 s_0 s_1 s_2)
theorem eR89_10 {s_0 s_1 s_2 : List TV} {r : Res} (h : S cx 89 (NR89_10 s_0 s_1 s_2) = some r) : S cx 89 (R89_10 s_0 s_1 s_2) = some r :=
 gw_of (fun call hd hb pt rg => by kernel_rfl) h
noncomputable def NR89_11 (s_0 s_1 s_2 : List TV) : Nd :=
 .amb3 
 (R89_21 s_0 s_1 s_2) 
 (R89_29 s_0 s_1 s_2) 
 (R89_31 s_0 s_1 s_2)
theorem eR89_11 {s_0 s_1 s_2 : List TV} {r : Res} (h : S cx 89 (NR89_11 s_0 s_1 s_2) = some r) : S cx 89 (R89_11 s_0 s_1 s_2) = some r :=
 gw_of (fun call hd hb pt rg => by kernel_rfl) h
noncomputable def NR89_12 (s_0 s_1 s_2 : List TV) : Nd :=
 .amb3 
 (R89_22 s_0 s_1 s_2) 
 (R89_30 s_0 s_1 s_2) 
 (R89_31 s_0 s_1 s_2)
theorem eR89_12 {s_0 s_1 s_2 : List TV} {r : Res} (h : S cx 89 (NR89_12 s_0 s_1 s_2) = some r) : S cx 89 (R89_12 s_0 s_1 s_2) = some r :=
 gw_of (fun call hd hb pt rg => by kernel_rfl) h
noncomputable def NR89_13 (s_0 s_1 s_2 : List TV) : Nd :=
 .amb3 
 (R89_24 s_0 s_1 s_2) 
 (R89_29 s_0 s_1 s_2) 
 (R89_32 s_0 s_1 s_2)
theorem eR89_13 {s_0 s_1 s_2 : List TV} {r : Res} (h : S cx 89 (NR89_13 s_0 s_1 s_2) = some r) : S cx 89 (R89_13 s_0 s_1 s_2) = some r :=
 gw_of (fun call hd hb pt rg => by kernel_rfl) h
noncomputable def NR89_14 (s_0 s_1 s_2 : List TV) : Nd :=
 .amb3 
 (R89_25 s_0 s_1 s_2) 
 (R89_30 s_0 s_1 s_2) 
 (R89_32 s_0 s_1 s_2)
theorem eR89_14 {s_0 s_1 s_2 : List TV} {r : Res} (h : S cx 89 (NR89_14 s_0 s_1 s_2) = some r) : S cx 89 (R89_14 s_0 s_1 s_2) = some r :=
 gw_of (fun call hd hb pt rg => by kernel_rfl) h
noncomputable def NR89_15 (s_0 s_1 s_2 : List TV) : Nd :=
 .amb3 
 (R89_27 s_0 s_1 s_2) 
 (R89_31 s_0 s_1 s_2) 
 (R89_32 s_0 s_1 s_2)
theorem eR89_15 {s_0 s_1 s_2 : List TV} {r : Res} (h : S cx 89 (NR89_15 s_0 s_1 s_2) = some r) : S cx 89 (R89_15 s_0 s_1 s_2) = some r :=
 gw_of (fun call hd hb pt rg => by kernel_rfl) h
noncomputable def NR89_16 (s_0 s_1 s_2 : List TV) : Nd :=
 .amb3 
 (.ck (decide ((0 + s_1.length) * 8 < lim)) <|
 R89_33 s_0 s_1 s_2) 
 (R89_34 s_0 s_1 s_2) 
 (R89_35 s_0 s_1 s_2)
theorem eR89_16 {s_0 s_1 s_2 : List TV} {r : Res} (h : S cx 89 (NR89_16 s_0 s_1 s_2) = some r) : S cx 89 (R89_16 s_0 s_1 s_2) = some r :=
 gw_of (fun call hd hb pt rg => by kernel_rfl) h
noncomputable def NR89_17 (s_0 s_1 s_2 : List TV) : Nd :=
 .amb2 
 (R89_34 s_0 s_1 s_2) 
 (R89_36 s_0 s_1 s_2)
theorem eR89_17 {s_0 s_1 s_2 : List TV} {r : Res} (h : S cx 89 (NR89_17 s_0 s_1 s_2) = some r) : S cx 89 (R89_17 s_0 s_1 s_2) = some r :=
 gw_of (fun call hd hb pt rg => by kernel_rfl) h
noncomputable def NR89_18 (s_0 s_1 s_2 : List TV) : Nd :=
 .amb2 
 (R89_35 s_0 s_1 s_2) 
 (R89_36 s_0 s_1 s_2)
theorem eR89_18 {s_0 s_1 s_2 : List TV} {r : Res} (h : S cx 89 (NR89_18 s_0 s_1 s_2) = some r) : S cx 89 (R89_18 s_0 s_1 s_2) = some r :=
 gw_of (fun call hd hb pt rg => by kernel_rfl) h
noncomputable def NR89_19 (s_0 s_1 s_2 : List TV) : Nd :=
 .amb3 
 (.ck (decide ((0 + s_1.length) * 8 < lim)) <|
 R89_33 s_0 s_1 s_2) 
 (R89_34 s_0 s_1 s_2) 
 (R89_35 s_0 s_1 s_2)
theorem eR89_19 {s_0 s_1 s_2 : List TV} {r : Res} (h : S cx 89 (NR89_19 s_0 s_1 s_2) = some r) : S cx 89 (R89_19 s_0 s_1 s_2) = some r :=
 gw_of (fun call hd hb pt rg => by kernel_rfl) h
noncomputable def NR89_20 (s_0 s_1 s_2 : List TV) : Nd :=
 .amb3 
 (.ck (decide ((0 + s_0.length) * 8 < lim)) <|
 R89_16 s_0 s_1 s_2) 
 (R89_37 s_0 s_1 s_2) 
 (R89_38 s_0 s_1 s_2)
theorem eR89_20 {s_0 s_1 s_2 : List TV} {r : Res} (h : S cx 89 (NR89_20 s_0 s_1 s_2) = some r) : S cx 89 (R89_20 s_0 s_1 s_2) = some r :=
 gw_of (fun call hd hb pt rg => by kernel_rfl) h
noncomputable def NR89_21 (s_0 s_1 s_2 : List TV) : Nd :=
 .amb3 
 (.ck (decide ((0 + s_0.length) * 8 < lim)) <|
 R89_39 s_0 s_1 s_2) 
 (R89_37 s_0 s_1 s_2) 
 (R89_40 s_0 s_1 s_2)
theorem eR89_21 {s_0 s_1 s_2 : List TV} {r : Res} (h : S cx 89 (NR89_21 s_0 s_1 s_2) = some r) : S cx 89 (R89_21 s_0 s_1 s_2) = some r :=
 gw_of (fun call hd hb pt rg => by kernel_rfl) h
noncomputable def NR89_22 (s_0 s_1 s_2 : List TV) : Nd :=
 .amb3 
 (.ck (decide ((0 + s_0.length) * 8 < lim)) <|
 R89_41 s_0 s_1 s_2) 
 (R89_38 s_0 s_1 s_2) 
 (R89_40 s_0 s_1 s_2)
theorem eR89_22 {s_0 s_1 s_2 : List TV} {r : Res} (h : S cx 89 (NR89_22 s_0 s_1 s_2) = some r) : S cx 89 (R89_22 s_0 s_1 s_2) = some r :=
 gw_of (fun call hd hb pt rg => by kernel_rfl) h
noncomputable def NR89_23 (s_0 s_1 s_2 : List TV) : Nd :=
 .amb3 
 (R89_16 s_0 s_1 s_2) 
 (R89_17 s_0 s_1 s_2) 
 (R89_18 s_0 s_1 s_2)
theorem eR89_23 {s_0 s_1 s_2 : List TV} {r : Res} (h : S cx 89 (NR89_23 s_0 s_1 s_2) = some r) : S cx 89 (R89_23 s_0 s_1 s_2) = some r :=
 gw_of (fun call hd hb pt rg => by kernel_rfl) h
noncomputable def NR89_24 (s_0 s_1 s_2 : List TV) : Nd :=
 .amb3 
 (.ck (decide ((0 + s_0.length) * 8 < lim)) <|
 R89_17 s_0 s_1 s_2) 
 (R89_37 s_0 s_1 s_2) 
 (R89_42 s_0 s_1 s_2)
theorem eR89_24 {s_0 s_1 s_2 : List TV} {r : Res} (h : S cx 89 (NR89_24 s_0 s_1 s_2) = some r) : S cx 89 (R89_24 s_0 s_1 s_2) = some r :=
 gw_of (fun call hd hb pt rg => by kernel_rfl) h
noncomputable def NR89_25 (s_0 s_1 s_2 : List TV) : Nd :=
 .amb3 
 (.ck (decide ((0 + s_0.length) * 8 < lim)) <|
 R89_18 s_0 s_1 s_2) 
 (R89_38 s_0 s_1 s_2) 
 (R89_42 s_0 s_1 s_2)
theorem eR89_25 {s_0 s_1 s_2 : List TV} {r : Res} (h : S cx 89 (NR89_25 s_0 s_1 s_2) = some r) : S cx 89 (R89_25 s_0 s_1 s_2) = some r :=
 gw_of (fun call hd hb pt rg => by kernel_rfl) h
noncomputable def NR89_26 (s_0 s_1 s_2 : List TV) : Nd :=
 .amb2 
 (R89_34 s_0 s_1 s_2) 
 (R89_36 s_0 s_1 s_2)
theorem eR89_26 {s_0 s_1 s_2 : List TV} {r : Res} (h : S cx 89 (NR89_26 s_0 s_1 s_2) = some r) : S cx 89 (R89_26 s_0 s_1 s_2) = some r :=
 gw_of (fun call hd hb pt rg => by kernel_rfl) h
noncomputable def NR89_27 (s_0 s_1 s_2 : List TV) : Nd :=
 .amb3 
 (.ck (decide ((0 + s_0.length) * 8 < lim)) <|
 R89_43 s_0 s_1 s_2) 
 (R89_40 s_0 s_1 s_2) 
 (R89_42 s_0 s_1 s_2)
theorem eR89_27 {s_0 s_1 s_2 : List TV} {r : Res} (h : S cx 89 (NR89_27 s_0 s_1 s_2) = some r) : S cx 89 (R89_27 s_0 s_1 s_2) = some r :=
 gw_of (fun call hd hb pt rg => by kernel_rfl) h
noncomputable def NR89_28 (s_0 s_1 s_2 : List TV) : Nd :=
 .amb2 
 (R89_35 s_0 s_1 s_2) 
 (R89_36 s_0 s_1 s_2)
theorem eR89_28 {s_0 s_1 s_2 : List TV} {r : Res} (h : S cx 89 (NR89_28 s_0 s_1 s_2) = some r) : S cx 89 (R89_28 s_0 s_1 s_2) = some r :=
 gw_of (fun call hd hb pt rg => by kernel_rfl) h
noncomputable def NR89_29 (s_0 s_1 s_2 : List TV) : Nd :=
 .amb2 
 (R89_37 s_0 s_1 s_2) 
 (R89_44 s_0 s_1 s_2)
theorem eR89_29 {s_0 s_1 s_2 : List TV} {r : Res} (h : S cx 89 (NR89_29 s_0 s_1 s_2) = some r) : S cx 89 (R89_29 s_0 s_1 s_2) = some r :=
 gw_of (fun call hd hb pt rg => by kernel_rfl) h
noncomputable def NR89_30 (s_0 s_1 s_2 : List TV) : Nd :=
 .amb2 
 (R89_38 s_0 s_1 s_2) 
 (R89_44 s_0 s_1 s_2)
theorem eR89_30 {s_0 s_1 s_2 : List TV} {r : Res} (h : S cx 89 (NR89_30 s_0 s_1 s_2) = some r) : S cx 89 (R89_30 s_0 s_1 s_2) = some r :=
 gw_of (fun call hd hb pt rg => by kernel_rfl) h
noncomputable def NR89_31 (s_0 s_1 s_2 : List TV) : Nd :=
 .amb2 
 (R89_40 s_0 s_1 s_2) 
 (R89_44 s_0 s_1 s_2)
theorem eR89_31 {s_0 s_1 s_2 : List TV} {r : Res} (h : S cx 89 (NR89_31 s_0 s_1 s_2) = some r) : S cx 89 (R89_31 s_0 s_1 s_2) = some r :=
 gw_of (fun call hd hb pt rg => by kernel_rfl) h
noncomputable def NR89_32 (s_0 s_1 s_2 : List TV) : Nd :=
 .amb2 
 (R89_42 s_0 s_1 s_2) 
 (R89_44 s_0 s_1 s_2)
theorem eR89_32 {s_0 s_1 s_2 : List TV} {r : Res} (h : S cx 89 (NR89_32 s_0 s_1 s_2) = some r) : S cx 89 (R89_32 s_0 s_1 s_2) = some r :=
 gw_of (fun call hd hb pt rg => by kernel_rfl) h
noncomputable def NR89_33 (s_0 s_1 s_2 : List TV) : Nd :=
 .ck (decide ((0 + s_2.length) * 8 < lim)) <|
 .ret [.st [sl false ⟨1, false⟩ (([]) ++ s_0), sl false ⟨1, false⟩ (([]) ++ s_1), sl false ⟨1, false⟩ (([]) ++ s_2)]] []
theorem eR89_33 {s_0 s_1 s_2 : List TV} {r : Res} (h : S cx 89 (NR89_33 s_0 s_1 s_2) = some r) : S cx 89 (R89_33 s_0 s_1 s_2) = some r :=
 gw_of (fun call hd hb pt rg => by kernel_rfl) h
noncomputable def NR89_34 (s_0 s_1 s_2 : List TV) : Nd :=
 .amb2 
 (.ck (decide ((0 + s_1.length) * 8 < lim)) <|
 R89_45 s_0 s_1 s_2) 
 (R89_46 s_0 s_1 s_2)
theorem eR89_34 {s_0 s_1 s_2 : List TV} {r : Res} (h : S cx 89 (NR89_34 s_0 s_1 s_2) = some r) : S cx 89 (R89_34 s_0 s_1 s_2) = some r :=
 gw_of (fun call hd hb pt rg => by kernel_rfl) h
noncomputable def NR89_35 (s_0 s_1 s_2 : List TV) : Nd :=
 .amb2 
 (.ck (decide ((0 + s_1.length) * 8 < lim)) <|
 R89_47 s_0 s_1 s_2) 
 (R89_46 s_0 s_1 s_2)
theorem eR89_35 {s_0 s_1 s_2 : List TV} {r : Res} (h : S cx 89 (NR89_35 s_0 s_1 s_2) = some r) : S cx 89 (R89_35 s_0 s_1 s_2) = some r :=
 gw_of (fun call hd hb pt rg => by kernel_rfl) h
noncomputable def NR89_36 (s_0 s_1 s_2 : List TV) : Nd :=
 .ck (decide ((0 + s_1.length) * 8 < lim)) <|
 .ck (decide ((0 + s_2.length) * 8 < lim)) <|
 .ret [.st [sl false ⟨1, false⟩ (([]) ++ s_0), sl false ⟨1, false⟩ (([]) ++ s_1), sl false ⟨1, false⟩ (([]) ++ s_2)]] []
theorem eR89_36 {s_0 s_1 s_2 : List TV} {r : Res} (h : S cx 89 (NR89_36 s_0 s_1 s_2) = some r) : S cx 89 (R89_36 s_0 s_1 s_2) = some r :=
 gw_of (fun call hd hb pt rg => by kernel_rfl) h
noncomputable def NR89_37 (s_0 s_1 s_2 : List TV) : Nd :=
 .amb2 
 (.ck (decide ((0 + s_0.length) * 8 < lim)) <|
 R89_34 s_0 s_1 s_2) 
 (R89_48 s_0 s_1 s_2)
theorem eR89_37 {s_0 s_1 s_2 : List TV} {r : Res} (h : S cx 89 (NR89_37 s_0 s_1 s_2) = some r) : S cx 89 (R89_37 s_0 s_1 s_2) = some r :=
 gw_of (fun call hd hb pt rg => by kernel_rfl) h
noncomputable def NR89_38 (s_0 s_1 s_2 : List TV) : Nd :=
 .amb2 
 (.ck (decide ((0 + s_0.length) * 8 < lim)) <|
 R89_35 s_0 s_1 s_2) 
 (R89_48 s_0 s_1 s_2)
theorem eR89_38 {s_0 s_1 s_2 : List TV} {r : Res} (h : S cx 89 (NR89_38 s_0 s_1 s_2) = some r) : S cx 89 (R89_38 s_0 s_1 s_2) = some r :=
 gw_of (fun call hd hb pt rg => by kernel_rfl) h
noncomputable def NR89_39 (s_0 s_1 s_2 : List TV) : Nd :=
 .amb2 
 (.ck (decide ((0 + s_1.length) * 8 < lim)) <|
 R89_45 s_0 s_1 s_2) 
 (R89_46 s_0 s_1 s_2)
theorem eR89_39 {s_0 s_1 s_2 : List TV} {r : Res} (h : S cx 89 (NR89_39 s_0 s_1 s_2) = some r) : S cx 89 (R89_39 s_0 s_1 s_2) = some r :=
 gw_of (fun call hd hb pt rg => by kernel_rfl) h
noncomputable def NR89_40 (s_0 s_1 s_2 : List TV) : Nd :=
 .amb2 
 (.ck (decide ((0 + s_0.length) * 8 < lim)) <|
 R89_49 s_0 s_1 s_2) 
 (R89_48 s_0 s_1 s_2)
theorem eR89_40 {s_0 s_1 s_2 : List TV} {r : Res} (h : S cx 89 (NR89_40 s_0 s_1 s_2) = some r) : S cx 89 (R89_40 s_0 s_1 s_2) = some r :=
 gw_of (fun call hd hb pt rg => by kernel_rfl) h
noncomputable def NR89_41 (s_0 s_1 s_2 : List TV) : Nd :=
 .amb2 
 (.ck (decide ((0 + s_1.length) * 8 < lim)) <|
 R89_47 s_0 s_1 s_2) 
 (R89_46 s_0 s_1 s_2)
theorem eR89_41 {s_0 s_1 s_2 : List TV} {r : Res} (h : S cx 89 (NR89_41 s_0 s_1 s_2) = some r) : S cx 89 (R89_41 s_0 s_1 s_2) = some r :=
 gw_of (fun call hd hb pt rg => by kernel_rfl) h
noncomputable def NR89_42 (s_0 s_1 s_2 : List TV) : Nd :=
 .amb2 
 (.ck (decide ((0 + s_0.length) * 8 < lim)) <|
 R89_36 s_0 s_1 s_2) 
 (R89_48 s_0 s_1 s_2)
theorem eR89_42 {s_0 s_1 s_2 : List TV} {r : Res} (h : S cx 89 (NR89_42 s_0 s_1 s_2) = some r) : S cx 89 (R89_42 s_0 s_1 s_2) = some r :=
 gw_of (fun call hd hb pt rg => by kernel_rfl) h
noncomputable def NR89_43 (s_0 s_1 s_2 : List TV) : Nd :=
 .ck (decide ((0 + s_1.length) * 8 < lim)) <|
 .ck (decide ((0 + s_2.length) * 8 < lim)) <|
 .ret [.st [sl false ⟨1, false⟩ (([]) ++ s_0), sl false ⟨1, false⟩ (([]) ++ s_1), sl false ⟨1, false⟩ (([]) ++ s_2)]] []
theorem eR89_43 {s_0 s_1 s_2 : List TV} {r : Res} (h : S cx 89 (NR89_43 s_0 s_1 s_2) = some r) : S cx 89 (R89_43 s_0 s_1 s_2) = some r :=
 gw_of (fun call hd hb pt rg => by kernel_rfl) h
noncomputable def NR89_44 (s_0 s_1 s_2 : List TV) : Nd :=
 .ck (decide ((0 + s_0.length) * 8 < lim)) <|
 .ck (decide ((0 + s_1.length) * 8 < lim)) <|
 .ck (decide ((0 + s_2.length) * 8 < lim)) <|
 .ret [.st [sl false ⟨1, false⟩ (([]) ++ s_0), sl false ⟨1, false⟩ (([]) ++ s_1), sl false ⟨1, false⟩ (([]) ++ s_2)]] []
theorem eR89_44 {s_0 s_1 s_2 : List TV} {r : Res} (h : S cx 89 (NR89_44 s_0 s_1 s_2) = some r) : S cx 89 (R89_44 s_0 s_1 s_2) = some r :=
 gw_of (fun call hd hb pt rg => by kernel_rfl) h
noncomputable def NR89_45 (s_0 s_1 s_2 : List TV) : Nd :=
 .ck (decide ((0 + s_2.length) * 8 < lim)) <|
 .ret [.st [sl false ⟨1, false⟩ (([]) ++ s_0), sl false ⟨1, false⟩ (([]) ++ s_1), sl false ⟨1, false⟩ (([]) ++ s_2)]] []
theorem eR89_45 {s_0 s_1 s_2 : List TV} {r : Res} (h : S cx 89 (NR89_45 s_0 s_1 s_2) = some r) : S cx 89 (R89_45 s_0 s_1 s_2) = some r :=
 gw_of (fun call hd hb pt rg => by kernel_rfl) h
noncomputable def NR89_46 (s_0 s_1 s_2 : List TV) : Nd :=
 .ck (decide ((0 + s_1.length) * 8 < lim)) <|
 .ck (decide ((0 + s_2.length) * 8 < lim)) <|
 .ret [.st [sl false ⟨1, false⟩ (([]) ++ s_0), sl false ⟨1, false⟩ (([]) ++ s_1), sl false ⟨1, false⟩ (([]) ++ s_2)]] []
theorem eR89_46 {s_0 s_1 s_2 : List TV} {r : Res} (h : S cx 89 (NR89_46 s_0 s_1 s_2) = some r) : S cx 89 (R89_46 s_0 s_1 s_2) = some r :=
 gw_of (fun call hd hb pt rg => by kernel_rfl) h
noncomputable def NR89_47 (s_0 s_1 s_2 : List TV) : Nd :=
 .ck (decide ((0 + s_2.length) * 8 < lim)) <|
 .ret [.st [sl false ⟨1, false⟩ (([]) ++ s_0), sl false ⟨1, false⟩ (([]) ++ s_1), sl false ⟨1, false⟩ (([]) ++ s_2)]] []
theorem eR89_47 {s_0 s_1 s_2 : List TV} {r : Res} (h : S cx 89 (NR89_47 s_0 s_1 s_2) = some r) : S cx 89 (R89_47 s_0 s_1 s_2) = some r :=
 gw_of (fun call hd hb pt rg => by kernel_rfl) h
noncomputable def NR89_48 (s_0 s_1 s_2 : List TV) : Nd :=
 .ck (decide ((0 + s_0.length) * 8 < lim)) <|
 .ck (decide ((0 + s_1.length) * 8 < lim)) <|
 .ck (decide ((0 + s_2.length) * 8 < lim)) <|
 .ret [.st [sl false ⟨1, false⟩ (([]) ++ s_0), sl false ⟨1, false⟩ (([]) ++ s_1), sl false ⟨1, false⟩ (([]) ++ s_2)]] []
theorem eR89_48 {s_0 s_1 s_2 : List TV} {r : Res} (h : S cx 89 (NR89_48 s_0 s_1 s_2) = some r) : S cx 89 (R89_48 s_0 s_1 s_2) = some r :=
 gw_of (fun call hd hb pt rg => by kernel_rfl) h
noncomputable def NR89_49 (s_0 s_1 s_2 : List TV) : Nd :=
 .ck (decide ((0 + s_1.length) * 8 < lim)) <|
 .ck (decide ((0 + s_2.length) * 8 < lim)) <|
 .ret [.st [sl false ⟨1, false⟩ (([]) ++ s_0), sl false ⟨1, false⟩ (([]) ++ s_1), sl false ⟨1, false⟩ (([]) ++ s_2)]] []
theorem eR89_49 {s_0 s_1 s_2 : List TV} {r : Res} (h : S cx 89 (NR89_49 s_0 s_1 s_2) = some r) : S cx 89 (R89_49 s_0 s_1 s_2) = some r :=
 gw_of (fun call hd hb pt rg => by kernel_rfl) h
noncomputable def N92 (s_0 s_1 s_2 : List TV) : Nd :=
 .bif ((((s_0.length : Nat) : Int) == 8))
 (.bif ((((s_1.length : Nat) : Int) == 16))
 (.bif (decide (((s_2.length : Nat) : Int) ≤ 100))
 (C128 s_0 fun v_bdae =>
 .bif (v_bdae)
 (C128 s_1 fun v_6e68 =>
 .bif (v_6e68)
 (C128 s_2 fun v_a9ea =>
 .ret [tb v_a9ea] [])
 (.ret [tb false] []))
 (.ret [tb false] []))
 (.ret [tb false] []))
 (.ret [tb false] []))
 (.ret [tb false] [])
theorem e92 {s_0 s_1 s_2 : List TV} {r : Res} (h : S cx 92 (N92 s_0 s_1 s_2) = some r) : tw cx 92 [.st [sl true ⟨1, false⟩ s_0, sl true ⟨1, false⟩ s_1, sl true ⟨1, false⟩ s_2]] = some r :=
 tw_of (fun call hd hb pt rg => by kernel_rfl) h
noncomputable def N93_s0 (s_1 s_2 vs_fe4f : List TV) : Nd :=
 C129 s_1 fun vs_101a =>
 C129 s_2 fun vs_2c91 =>
 .ret [.st [sl false ⟨1, false⟩ vs_fe4f, sl false ⟨1, false⟩ vs_101a, sl false ⟨1, false⟩ vs_2c91]] []
noncomputable def N93_s1 (s_0 s_1 s_2 : List TV) : Nd :=
 C129 s_0 fun vs_fe4f =>
 .amb2 
 (N93_s0 s_1 s_2 vs_fe4f) 
 (N93_s0 s_1 s_2 vs_fe4f)
noncomputable def N93_s2 (s_0 s_1 s_2 : List TV) : Nd :=
 C129 s_0 fun vs_fe4f =>
 N93_s0 s_1 s_2 vs_fe4f
noncomputable def N93 (s_0 s_1 s_2 : List TV) : Nd :=
 .amb3 
 (N93_s1 s_0 s_1 s_2) 
 (.amb2 
 (N93_s1 s_0 s_1 s_2) 
 (N93_s2 s_0 s_1 s_2)) 
 (.amb2 
 (N93_s2 s_0 s_1 s_2) 
 (N93_s2 s_0 s_1 s_2))
theorem e93 {s_0 s_1 s_2 : List TV} {r : Res} (h : S cx 93 (N93 s_0 s_1 s_2) = some r) : tw cx 93 [.st [sl true ⟨1, false⟩ s_0, sl true ⟨1, false⟩ s_1, sl true ⟨1, false⟩ s_2]] = some r :=
 tw_of (fun call hd hb pt rg => by kernel_rfl) h
noncomputable def N98 (l_0 : List TV) : Nd :=
 C137 l_0 fun vs_fa13 v_f44f =>
 .ret [tb v_f44f] []
theorem e98 {l_0 : List TV} {r : Res} (h : S cx 98 (N98 l_0) = some r) : tw cx 98 [sl true ⟨3, true⟩ l_0] = some r :=
 tw_of (fun call hd hb pt rg => by kernel_rfl) h
noncomputable def N101 (a_0 a_1 : Int) (a_2 : List TV) (left_3 : Int) : Nd :=
 C84 a_2 left_3 fun v_f834 =>
 .bif (decide (v_f834 < 0))
 (.ret [i64 (-1)] [])
 (.ret [i64 v_f834] [])
theorem e101 {a_0 a_1 : Int} {a_2 : List TV} {left_3 : Int} {r : Res} (h : S cx 101 (N101 a_0 a_1 a_2 left_3) = some r) : tw cx 101 [.st [i64 a_0, i64 a_1, sl true ⟨1, false⟩ a_2], i64 left_3] = some r :=
 tw_of (fun call hd hb pt rg => by kernel_rfl) h
noncomputable def N102 (l_0 : List TV) : Nd :=
 C98 l_0 fun v_4dfb =>
 .bif ((!v_4dfb))
 (.ret [.st [sl false ⟨1, false⟩ ([]), sl false ⟨1, false⟩ ([]), i64 0, i64 0], tb false] [])
 (C143 l_0 fun heightss_8726 deads_99ad code_ef5f at_7810 =>
 .amb2 
 (.amb2 
 (.ret [.st [sl false ⟨1, false⟩ heightss_8726, sl false ⟨1, false⟩ deads_99ad, i64 code_ef5f, i64 at_7810], tb (code_ef5f == 0)] []) 
 (.ret [.st [sl false ⟨1, false⟩ heightss_8726, sl false ⟨1, false⟩ deads_99ad, i64 code_ef5f, i64 at_7810], tb (code_ef5f == 0)] [])) 
 (.ret [.st [sl false ⟨1, false⟩ heightss_8726, sl false ⟨1, false⟩ deads_99ad, i64 code_ef5f, i64 at_7810], tb (code_ef5f == 0)] []))
theorem e102 {l_0 : List TV} {r : Res} (h : S cx 102 (N102 l_0) = some r) : tw cx 102 [sl true ⟨3, true⟩ l_0] = some r :=
 tw_of (fun call hd hb pt rg => by kernel_rfl) h
end Go.Tree.M

/- Trees of values: program points of functions. -/
namespace Go.Tree.M
open Go.Proofs
set_option linter.unusedVariables false
set_option maxRecDepth 20000
noncomputable def EG103_0 (l_0 : List TV) (fuel_1 : Int) (m_2 m_3 m_4 m_5 m_6 : List TV) : Env := [.val [] (sl true ⟨3, true⟩ l_0), .un, .un, .val [] (i64 fuel_1), .un, .un, .un, .un, .val [] (.pt false () (.st [sl false ⟨1, false⟩ ([]), sl false ⟨1, false⟩ ([]), sl false ⟨1, false⟩ ([])])), .un, .un, .un, .un, .val [] (.pt false () (.st [sl true ⟨3, true⟩ l_0, sl false ⟨1, false⟩ m_2, sl true ⟨1, false⟩ m_3, .st [sl false ⟨1, false⟩ m_4, sl false ⟨1, false⟩ m_5, sl false ⟨1, false⟩ m_6], sl false ⟨1, false⟩ ([]), i64 0]))] ++ uns 54
noncomputable abbrev G103_0 (l_0 : List TV) (fuel_1 : Int) (m_2 m_3 m_4 m_5 m_6 : List TV) : Nd := .go [1, 1, 1] (EG103_0 l_0 fuel_1 m_2 m_3 m_4 m_5 m_6)
noncomputable def EH103_1 (l_0 : List TV) (fuel_1 : Int) (m_7 m_2 m_3 m_4 m_5 m_6 m_8 : List TV) (m_9 : Int) (done_10 : List TV) : Env := [.val [] (sl true ⟨3, true⟩ l_0), .un, .un, .val [] (i64 fuel_1), .un, .un, .un, .un, .val [] (.pt false () (.st [sl false ⟨1, false⟩ ([]), sl false ⟨1, false⟩ ([]), sl false ⟨1, false⟩ ([])])), .un, .un, .un, .un, .val [] (.pt false () (.st [sl true ⟨3, true⟩ m_7, sl false ⟨1, false⟩ m_2, sl true ⟨1, false⟩ m_3, .st [sl false ⟨1, false⟩ m_4, sl false ⟨1, false⟩ m_5, sl false ⟨1, false⟩ m_6], sl false ⟨1, false⟩ m_8, i64 m_9])), .val [] (sl false ⟨1, false⟩ done_10)] ++ uns 53
noncomputable abbrev H103_1 (l_0 : List TV) (fuel_1 : Int) (m_7 m_2 m_3 m_4 m_5 m_6 m_8 : List TV) (m_9 : Int) (done_10 : List TV) : Nd := .head [1, 1, 1, 1, 0, 2] (EH103_1 l_0 fuel_1 m_7 m_2 m_3 m_4 m_5 m_6 m_8 m_9 done_10)
noncomputable abbrev B103_1 (l_0 : List TV) (fuel_1 : Int) (m_7 m_2 m_3 m_4 m_5 m_6 m_8 : List TV) (m_9 : Int) (done_10 : List TV) : Nd := .back [1, 1, 1, 1, 0, 2] (EH103_1 l_0 fuel_1 m_7 m_2 m_3 m_4 m_5 m_6 m_8 m_9 done_10)
noncomputable def N103_s0 (l_0 w_1 s_5 s_6 s_7 : List TV) (fuel_8 : Int) (vs_fa13 : List TV) : Nd :=
 C89 s_5 s_6 s_7 fun localss_1263 mems_b082 tolds_304c =>
 G103_0 l_0 fuel_8 vs_fa13 w_1 localss_1263 mems_b082 tolds_304c
noncomputable def N103 (l_0 w_1 w_2 : List TV) (w_3 w_4 : Int) (s_5 s_6 s_7 : List TV) (fuel_8 : Int) : Nd :=
 C137 l_0 fun vs_fa13 v_f44f =>
 .amb2 
 (N103_s0 l_0 w_1 s_5 s_6 s_7 fuel_8 vs_fa13) 
 (N103_s0 l_0 w_1 s_5 s_6 s_7 fuel_8 vs_fa13)
theorem e103 {l_0 w_1 w_2 : List TV} {w_3 w_4 : Int} {s_5 s_6 s_7 : List TV} {fuel_8 : Int} {r : Res} (h : S cx 103 (N103 l_0 w_1 w_2 w_3 w_4 s_5 s_6 s_7 fuel_8) = some r) : tw cx 103 [sl true ⟨3, true⟩ l_0, .st [sl true ⟨1, false⟩ w_1, sl true ⟨1, false⟩ w_2, i64 w_3, i64 w_4], .st [sl true ⟨1, false⟩ s_5, sl true ⟨1, false⟩ s_6, sl true ⟨1, false⟩ s_7], i64 fuel_8] = some r :=
 tw_of (fun call hd hb pt rg => by kernel_rfl) h
noncomputable def NG103_0 (l_0 : List TV) (fuel_1 : Int) (m_2 m_3 m_4 m_5 m_6 : List TV) : Nd :=
 H103_1 l_0 fuel_1 l_0 m_2 m_3 m_4 m_5 m_6 ([]) 0 ([])
theorem eG103_0 {l_0 : List TV} {fuel_1 : Int} {m_2 m_3 m_4 m_5 m_6 : List TV} {r : Res} (h : S cx 103 (NG103_0 l_0 fuel_1 m_2 m_3 m_4 m_5 m_6) = some r) : S cx 103 (G103_0 l_0 fuel_1 m_2 m_3 m_4 m_5 m_6) = some r :=
 pw_of (fun call hd hb pt rg => by kernel_rfl) h
noncomputable def NH103_1 (l_0 : List TV) (fuel_1 : Int) (m_7 m_2 m_3 m_4 m_5 m_6 m_8 : List TV) (m_9 : Int) (done_10 : List TV) : Nd :=
 .bif (decide (m_9 < ((l_0.length : Nat) : Int)))
 (.bif ((((done_10.length : Nat) : Int) == fuel_1))
 (.ret [.st [sl false ⟨1, false⟩ m_4, sl false ⟨1, false⟩ m_5, sl false ⟨1, false⟩ m_6], i64 3, sl false ⟨1, false⟩ done_10] [])
 (.ck (decide ((done_10.length + ([i64 m_9] : List TV).length) * 8 < lim)) <|
 C144 m_7 m_2 m_3 m_4 m_5 m_6 m_8 m_9 fun v_fa69 ls_d688 endss_1279 heightss_631b localss_2425 mems_3341 tolds_5fcb stacks_8831 at_c4ec =>
 .bif ((!v_fa69))
 (.ret [.st [sl false ⟨1, false⟩ localss_2425, sl false ⟨1, false⟩ mems_3341, sl false ⟨1, false⟩ tolds_5fcb], i64 2, sl false ⟨1, false⟩ (done_10 ++ ([i64 m_9]))] [])
 (B103_1 l_0 fuel_1 ls_d688 endss_1279 heightss_631b localss_2425 mems_3341 tolds_5fcb stacks_8831 at_c4ec (done_10 ++ ([i64 m_9])))))
 (.ret [.st [sl false ⟨1, false⟩ m_4, sl false ⟨1, false⟩ m_5, sl false ⟨1, false⟩ m_6], i64 1, sl false ⟨1, false⟩ done_10] [])
theorem eH103_1 {l_0 : List TV} {fuel_1 : Int} {m_7 m_2 m_3 m_4 m_5 m_6 m_8 : List TV} {m_9 : Int} {done_10 : List TV} {r : Res} (h : S cx 103 (NH103_1 l_0 fuel_1 m_7 m_2 m_3 m_4 m_5 m_6 m_8 m_9 done_10) = some r) : S cx 103 (H103_1 l_0 fuel_1 m_7 m_2 m_3 m_4 m_5 m_6 m_8 m_9 done_10) = some r :=
 hw_of (fun call hd hb pt rg => by kernel_rfl) h
noncomputable def N104 (a_0 a_1 : Int) (a_2 : List TV) : Nd :=
 C17 a_2 fun vs_36ab =>
 .ret [.st [i64 a_0, i64 a_1, sl false ⟨1, false⟩ vs_36ab]] []
theorem e104 {a_0 a_1 : Int} {a_2 : List TV} {r : Res} (h : S cx 104 (N104 a_0 a_1 a_2) = some r) : tw cx 104 [.st [i64 a_0, i64 a_1, sl true ⟨1, false⟩ a_2]] = some r :=
 tw_of (fun call hd hb pt rg => by kernel_rfl) h
noncomputable def N105 (l_0 s_1 s_2 s_3 : List TV) (fuel_4 : Int) : Nd :=
 .call 145 [sl true ⟨3, true⟩ l_0] fun r_299a =>
 .cons r_299a.1 fun t_2a90 ts_ee07 =>
 .ptO t_2a90 (.nil ts_ee07 <|
 .nil r_299a.2 <|
 .ret [tnil] []) fun p_1f1b =>
 .st p_1f1b fun ts_9b0d =>
 .cons ts_9b0d fun t_715e ts_c734 =>
 .ptO t_715e (.non) fun p_f3bc =>
 V4 p_f3bc fun ls_439a endss_9ad3 others_69d3 opens_b01e =>
 .cons ts_c734 fun t_27ca ts_2c21 =>
 .slO ⟨1, false⟩ t_27ca fun heightss_43c0 =>
 .cons ts_2c21 fun t_a81c ts_a336 =>
 .slO ⟨1, false⟩ t_a81c fun deads_1fa3 =>
 .cons ts_a336 fun t_6f53 ts_4193 =>
 .slO ⟨1, false⟩ t_6f53 fun basess_1847 =>
 .cons ts_4193 fun t_1b29 ts_86d3 =>
 .int .i64 t_1b29 fun code_ca2a =>
 .cons ts_86d3 fun t_f4d9 ts_f2de =>
 .int .i64 t_f4d9 fun place_ed5d =>
 .nil ts_f2de <|
 .nil ts_ee07 <|
 .nil r_299a.2 <|
 C92 s_1 s_2 s_3 fun v_cdd3 =>
 .bif ((!v_cdd3))
 (.ret [tnil] [])
 (C65 fuel_4 0 2000 fun v_6836 =>
 .bif ((!v_6836))
 (.ret [tnil] [])
 (C93 s_1 s_2 s_3 fun localss_908c mems_14e5 tolds_40d2 =>
 .ret [.pt false () (.st [.pt false () (.st [.pt false () (.st [sl true ⟨3, true⟩ ls_439a, sl false ⟨1, false⟩ endss_9ad3, sl false ⟨1, false⟩ others_69d3, sl false ⟨1, true⟩ opens_b01e]), sl false ⟨1, false⟩ heightss_43c0, sl false ⟨1, false⟩ deads_1fa3, sl false ⟨1, false⟩ basess_1847, i64 code_ca2a, i64 place_ed5d]), .st [sl false ⟨1, false⟩ localss_908c, sl false ⟨1, false⟩ mems_14e5, sl false ⟨1, false⟩ tolds_40d2], sl false ⟨1, false⟩ ([]), i64 0])] []))
theorem e105 {l_0 s_1 s_2 s_3 : List TV} {fuel_4 : Int} {r : Res} (h : S cx 105 (N105 l_0 s_1 s_2 s_3 fuel_4) = some r) : tw cx 105 [sl true ⟨3, true⟩ l_0, .st [sl true ⟨1, false⟩ s_1, sl true ⟨1, false⟩ s_2, sl true ⟨1, false⟩ s_3], i64 fuel_4] = some r :=
 tw_of (fun call hd hb pt rg => by kernel_rfl) h
noncomputable def EH106_0 (fuel_0 : Int) (done_15 r_1 r_2 r_3 r_4 r_5 r_6 r_7 : List TV) (r_8 r_9 : Int) (r_10 r_11 r_12 r_13 : List TV) (r_14 : Int) : Env := [.ref 41 [] none 126 false, .val [] (i64 fuel_0), .un, .un, .un, .un, .val [] (sl false ⟨1, false⟩ done_15)] ++ uns 34 ++ [.val [] (.pt false () (.st [.pt false () (.st [.pt false () (.st [sl true ⟨3, true⟩ r_1, sl false ⟨1, false⟩ r_2, sl false ⟨1, false⟩ r_3, sl false ⟨1, true⟩ r_4]), sl false ⟨1, false⟩ r_5, sl false ⟨1, false⟩ r_6, sl false ⟨1, false⟩ r_7, i64 r_8, i64 r_9]), .st [sl false ⟨1, false⟩ r_10, sl false ⟨1, false⟩ r_11, sl false ⟨1, false⟩ r_12], sl false ⟨1, false⟩ r_13, i64 r_14])), .un]
noncomputable abbrev H106_0 (fuel_0 : Int) (done_15 r_1 r_2 r_3 r_4 r_5 r_6 r_7 : List TV) (r_8 r_9 : Int) (r_10 r_11 r_12 r_13 : List TV) (r_14 : Int) : Nd := .head [1, 1, 0, 2] (EH106_0 fuel_0 done_15 r_1 r_2 r_3 r_4 r_5 r_6 r_7 r_8 r_9 r_10 r_11 r_12 r_13 r_14)
noncomputable abbrev B106_0 (fuel_0 : Int) (done_15 r_1 r_2 r_3 r_4 r_5 r_6 r_7 : List TV) (r_8 r_9 : Int) (r_10 r_11 r_12 r_13 : List TV) (r_14 : Int) : Nd := .back [1, 1, 0, 2] (EH106_0 fuel_0 done_15 r_1 r_2 r_3 r_4 r_5 r_6 r_7 r_8 r_9 r_10 r_11 r_12 r_13 r_14)
noncomputable def N106 (r_0 r_1 r_2 r_3 r_4 r_5 r_6 : List TV) (r_7 r_8 : Int) (r_9 r_10 r_11 r_12 : List TV) (r_13 fuel_14 : Int) : Nd :=
 H106_0 fuel_14 ([]) r_0 r_1 r_2 r_3 r_4 r_5 r_6 r_7 r_8 r_9 r_10 r_11 r_12 r_13
theorem e106 {r_0 r_1 r_2 r_3 r_4 r_5 r_6 : List TV} {r_7 r_8 : Int} {r_9 r_10 r_11 r_12 : List TV} {r_13 fuel_14 : Int} {r : Res} (h : S cx 106 (N106 r_0 r_1 r_2 r_3 r_4 r_5 r_6 r_7 r_8 r_9 r_10 r_11 r_12 r_13 fuel_14) = some r) : tw cx 106 [.pt false () (.st [.pt false () (.st [.pt false () (.st [sl true ⟨3, true⟩ r_0, sl false ⟨1, false⟩ r_1, sl false ⟨1, false⟩ r_2, sl false ⟨1, true⟩ r_3]), sl false ⟨1, false⟩ r_4, sl false ⟨1, false⟩ r_5, sl false ⟨1, false⟩ r_6, i64 r_7, i64 r_8]), .st [sl false ⟨1, false⟩ r_9, sl false ⟨1, false⟩ r_10, sl false ⟨1, false⟩ r_11], sl false ⟨1, false⟩ r_12, i64 r_13]), i64 fuel_14] = some r :=
 tw_of (fun call hd hb pt rg => by kernel_rfl) h
noncomputable def NH106_0 (fuel_0 : Int) (done_15 r_1 r_2 r_3 r_4 r_5 r_6 r_7 : List TV) (r_8 r_9 : Int) (r_10 r_11 r_12 r_13 : List TV) (r_14 : Int) : Nd :=
 .bif (decide (r_14 < ((r_1.length : Nat) : Int)))
 (.bif ((((done_15.length : Nat) : Int) == fuel_0))
 (.ret [i64 3, sl false ⟨1, false⟩ done_15] [.pt false () (.st [.pt false () (.st [.pt false () (.st [sl true ⟨3, true⟩ r_1, sl false ⟨1, false⟩ r_2, sl false ⟨1, false⟩ r_3, sl false ⟨1, true⟩ r_4]), sl false ⟨1, false⟩ r_5, sl false ⟨1, false⟩ r_6, sl false ⟨1, false⟩ r_7, i64 r_8, i64 r_9]), .st [sl false ⟨1, false⟩ r_10, sl false ⟨1, false⟩ r_11, sl false ⟨1, false⟩ r_12], sl false ⟨1, false⟩ r_13, i64 r_14])])
 (.ck (decide ((done_15.length + ([i64 r_14] : List TV).length) * 8 < lim)) <|
 C146 r_1 r_2 r_3 r_4 r_5 r_6 r_7 r_8 r_9 r_10 r_11 r_12 r_13 r_14 fun v_9eb4 ls_aeb0 endss_7227 others_7aea opens_fcf7 heightss_b586 deads_4714 basess_3a02 code_3c2d place_2ff0 localss_9aa5 mems_86b4 tolds_c15b stacks_9f80 at_99fa =>
 .bif ((!v_9eb4))
 (.ret [i64 2, sl false ⟨1, false⟩ (done_15 ++ ([i64 r_14]))] [.pt false () (.st [.pt false () (.st [.pt false () (.st [sl true ⟨3, true⟩ ls_aeb0, sl false ⟨1, false⟩ endss_7227, sl false ⟨1, false⟩ others_7aea, sl false ⟨1, true⟩ opens_fcf7]), sl false ⟨1, false⟩ heightss_b586, sl false ⟨1, false⟩ deads_4714, sl false ⟨1, false⟩ basess_3a02, i64 code_3c2d, i64 place_2ff0]), .st [sl false ⟨1, false⟩ localss_9aa5, sl false ⟨1, false⟩ mems_86b4, sl false ⟨1, false⟩ tolds_c15b], sl false ⟨1, false⟩ stacks_9f80, i64 at_99fa])])
 (B106_0 fuel_0 (done_15 ++ ([i64 r_14])) ls_aeb0 endss_7227 others_7aea opens_fcf7 heightss_b586 deads_4714 basess_3a02 code_3c2d place_2ff0 localss_9aa5 mems_86b4 tolds_c15b stacks_9f80 at_99fa)))
 (.ret [i64 1, sl false ⟨1, false⟩ done_15] [.pt false () (.st [.pt false () (.st [.pt false () (.st [sl true ⟨3, true⟩ r_1, sl false ⟨1, false⟩ r_2, sl false ⟨1, false⟩ r_3, sl false ⟨1, true⟩ r_4]), sl false ⟨1, false⟩ r_5, sl false ⟨1, false⟩ r_6, sl false ⟨1, false⟩ r_7, i64 r_8, i64 r_9]), .st [sl false ⟨1, false⟩ r_10, sl false ⟨1, false⟩ r_11, sl false ⟨1, false⟩ r_12], sl false ⟨1, false⟩ r_13, i64 r_14])])
theorem eH106_0 {fuel_0 : Int} {done_15 r_1 r_2 r_3 r_4 r_5 r_6 r_7 : List TV} {r_8 r_9 : Int} {r_10 r_11 r_12 r_13 : List TV} {r_14 : Int} {r : Res} (h : S cx 106 (NH106_0 fuel_0 done_15 r_1 r_2 r_3 r_4 r_5 r_6 r_7 r_8 r_9 r_10 r_11 r_12 r_13 r_14) = some r) : S cx 106 (H106_0 fuel_0 done_15 r_1 r_2 r_3 r_4 r_5 r_6 r_7 r_8 r_9 r_10 r_11 r_12 r_13 r_14) = some r :=
 hw_of (fun call hd hb pt rg => by kernel_rfl) h
noncomputable def N112 (n_0 lo_1 hi_2 : Int) : Nd :=
 .bif (decide (n_0 ≥ lo_1))
 (.ret [tb (decide (n_0 ≤ hi_2))] [])
 (.ret [tb false] [])
theorem e112 {n_0 lo_1 hi_2 : Int} {r : Res} (h : S cx 112 (N112 n_0 lo_1 hi_2) = some r) : tw cx 112 [i64 n_0, i64 lo_1, i64 hi_2] = some r :=
 tw_of (fun call hd hb pt rg => by kernel_rfl) h
noncomputable def EH122_0 (l_0 : List TV) (many_1 v_2 : Int) : Env := [.val [] (sl true ⟨1, false⟩ l_0), .val [] (i64 many_1), .un, .un, .un, .un, .un, .val [] (sl true ⟨1, false⟩ l_0), .val [] (i64 ((l_0.length : Nat) : Int)), .val [] (i64 v_2)] ++ uns 13
noncomputable abbrev H122_0 (l_0 : List TV) (many_1 v_2 : Int) : Nd := .head [1, 0, 1, 2] (EH122_0 l_0 many_1 v_2)
noncomputable abbrev B122_0 (l_0 : List TV) (many_1 v_2 : Int) : Nd := .back [1, 0, 1, 2] (EH122_0 l_0 many_1 v_2)
noncomputable def N122 (l_0 : List TV) (many_1 : Int) : Nd :=
 H122_0 l_0 many_1 0
theorem e122 {l_0 : List TV} {many_1 : Int} {r : Res} (h : S cx 122 (N122 l_0 many_1) = some r) : tw cx 122 [sl true ⟨1, false⟩ l_0, i64 many_1] = some r :=
 tw_of (fun call hd hb pt rg => by kernel_rfl) h
noncomputable def NH122_0 (l_0 : List TV) (many_1 v_2 : Int) : Nd :=
 .bif (decide (v_2 < ((l_0.length : Nat) : Int)))
 (.ck (decide ((0 : Int) ≤ v_2) && decide (v_2 < ((l_0.length : Nat) : Int))) <|
 .int .i64 (l_0.getD (0 + v_2.toNat) (.dead ())) fun x_9183 =>
 C112 x_9183 0 65535 fun v_275e =>
 .bif ((!v_275e))
 (.ret [tb false] [])
 (B122_0 l_0 many_1 (w64 (v_2 + 1))))
 (.ret [tb (((l_0.length : Nat) : Int) == many_1)] [])
theorem eH122_0 {l_0 : List TV} {many_1 v_2 : Int} {r : Res} (h : S cx 122 (NH122_0 l_0 many_1 v_2) = some r) : S cx 122 (H122_0 l_0 many_1 v_2) = some r :=
 hw_of (fun call hd hb pt rg => by kernel_rfl) h
noncomputable def N128 (l_0 : List TV) : Nd :=
 C156 l_0 fun v_28f3 =>
 .ret [tb (!v_28f3)] []
theorem e128 {l_0 : List TV} {r : Res} (h : S cx 128 (N128 l_0) = some r) : tw cx 128 [sl true ⟨1, false⟩ l_0] = some r :=
 tw_of (fun call hd hb pt rg => by kernel_rfl) h
noncomputable def N129 (s_0 : List TV) : Nd :=
 .isNil s_0
 (.amb2 
 (.ret [sl false ⟨1, false⟩ ([])] []) 
 (.ck (decide ((0 + s_0.length) * 8 < lim)) <|
 .ret [sl false ⟨1, false⟩ (([]) ++ s_0)] []))
 (.ck (decide ((0 + s_0.length) * 8 < lim)) <|
 .ret [sl false ⟨1, false⟩ (([]) ++ s_0)] [])
theorem e129 {s_0 : List TV} {r : Res} (h : S cx 129 (N129 s_0) = some r) : tw cx 129 [sl true ⟨1, false⟩ s_0] = some r :=
 tw_of (fun call hd hb pt rg => by kernel_rfl) h
noncomputable def N130 (op_0 a_1 b_2 : Int) : Nd :=
 .bif ((op_0 == 4))
 (.ret [i64 (w64 (((BitVec.ofInt 64 (w64 (a_1 + b_2)) &&& BitVec.ofInt 64 65535).toNat : Int))), tb true] [])
 (.bif ((op_0 == 5))
 (.ret [i64 (w64 (((BitVec.ofInt 64 (w64 (a_1 - b_2)) &&& BitVec.ofInt 64 65535).toNat : Int))), tb true] [])
 (.bif ((op_0 == 6))
 (.ret [i64 (w64 (((BitVec.ofInt 64 (w64 (a_1 * b_2)) &&& BitVec.ofInt 64 65535).toNat : Int))), tb true] [])
 (.bif ((op_0 == 7))
 (.bif ((b_2 == 0))
 (.ret [i64 0, tb false] [])
 (.ck ((!(decide (b_2 = 0)))) <|
 .ret [i64 (w64 (a_1.tdiv b_2)), tb true] []))
 (.bif ((op_0 == 8))
 (C134 (decide (a_1 < b_2)) fun v_4be3 =>
 .ret [i64 v_4be3, tb true] [])
 (C134 (a_1 == b_2) fun v_1ac2 =>
 .ret [i64 v_1ac2, tb true] [])))))
theorem e130 {op_0 a_1 b_2 : Int} {r : Res} (h : S cx 130 (N130 op_0 a_1 b_2) = some r) : tw cx 130 [i64 op_0, i64 a_1, i64 b_2] = some r :=
 tw_of (fun call hd hb pt rg => by kernel_rfl) h
noncomputable def N134 (is_0 : Bool) : Nd :=
 .bif (is_0)
 (.ret [i64 1] [])
 (.ret [i64 0] [])
theorem e134 {is_0 : Bool} {r : Res} (h : S cx 134 (N134 is_0) = some r) : tw cx 134 [tb is_0] = some r :=
 tw_of (fun call hd hb pt rg => by kernel_rfl) h
noncomputable def EH137_0 (l_0 out_1 open_2 : List TV) (v_3 : Int) : Env := [.val [] (sl true ⟨3, true⟩ l_0), .un, .un, .un, .val [] (sl false ⟨1, false⟩ out_1), .val [] (sl false ⟨1, false⟩ open_2), .un, .un, .un, .un, .val [] (sl true ⟨3, true⟩ l_0), .val [] (i64 ((l_0.length : Nat) : Int)), .val [] (i64 v_3)] ++ uns 111
noncomputable abbrev H137_0 (l_0 out_1 open_2 : List TV) (v_3 : Int) : Nd := .head [1, 1, 0, 1, 2] (EH137_0 l_0 out_1 open_2 v_3)
noncomputable abbrev B137_0 (l_0 out_1 open_2 : List TV) (v_3 : Int) : Nd := .back [1, 1, 0, 1, 2] (EH137_0 l_0 out_1 open_2 v_3)
noncomputable def EG137_1 (l_0 out_3 open_4 : List TV) (i_1 k_2 : Int) : Env := [.val [] (sl true ⟨3, true⟩ l_0), .un, .un, .un, .val [] (sl false ⟨1, false⟩ out_3), .val [] (sl false ⟨1, false⟩ open_4), .val [] (i64 i_1), .un, .un, .val [] (i64 k_2), .val [] (sl true ⟨3, true⟩ l_0), .val [] (i64 ((l_0.length : Nat) : Int)), .val [] (i64 i_1)] ++ uns 111
noncomputable abbrev G137_1 (l_0 out_3 open_4 : List TV) (i_1 k_2 : Int) : Nd := .go [1, 1, 0, 1, 2, 5, 1, 1, 0, 2, 1, 1, 1, 1, 2, 1, 4, 1, 4, 1, 3, 1, 1, 1, 1] (EG137_1 l_0 out_3 open_4 i_1 k_2)
noncomputable def N137 (l_0 : List TV) : Nd :=
 H137_0 l_0 ([]) ([]) 0
theorem e137 {l_0 : List TV} {r : Res} (h : S cx 137 (N137 l_0) = some r) : tw cx 137 [sl true ⟨3, true⟩ l_0] = some r :=
 tw_of (fun call hd hb pt rg => by kernel_rfl) h
noncomputable def NH137_0 (l_0 out_1 open_2 : List TV) (v_3 : Int) : Nd :=
 .bif (decide (v_3 < ((l_0.length : Nat) : Int)))
 (.ck (decide ((0 : Int) ≤ v_3) && decide (v_3 < ((l_0.length : Nat) : Int))) <|
 V3 (l_0.getD (0 + v_3.toNat) (.dead ())) fun op_dc63 n_0914 tables_746d =>
 .ck (decide ((out_1.length + ([i64 (-1)] : List TV).length) * 8 < lim)) <|
 C161 op_dc63 n_0914 tables_746d fun v_73a7 =>
 .bif ((!v_73a7))
 (.ret [sl false ⟨1, false⟩ ([]), tb false] [])
 (C162 op_dc63 n_0914 tables_746d ((open_2.length : Nat) : Int) fun v_8f72 =>
 .bif ((!v_8f72))
 (.ret [sl false ⟨1, false⟩ ([]), tb false] [])
 (C163 op_dc63 fun v_cfc3 =>
 .bif (v_cfc3)
 (.bif ((((open_2.length : Nat) : Int) == 8))
 (.ret [sl false ⟨1, false⟩ ([]), tb false] [])
 (.ck (decide ((open_2.length + ([i64 v_3] : List TV).length) * 8 < lim)) <|
 B137_0 l_0 (out_1 ++ ([i64 (-1)])) (open_2 ++ ([i64 v_3])) (w64 (v_3 + 1))))
 (.bif ((op_dc63 == 18))
 (.bif ((((open_2.length : Nat) : Int) == 0))
 (.ret [sl false ⟨1, false⟩ ([]), tb false] [])
 (.ck (decide ((0 : Int) ≤ w64 (((open_2.length : Nat) : Int) - 1)) && decide (w64 (((open_2.length : Nat) : Int) - 1) < ((open_2.length : Nat) : Int))) <|
 .int .i64 (open_2.getD (0 + (w64 (((open_2.length : Nat) : Int) - 1)).toNat) (.dead ())) fun x_3473 =>
 .ck (decide ((0 : Int) ≤ x_3473) && decide (x_3473 < ((l_0.length : Nat) : Int))) <|
 V3 (l_0.getD (0 + x_3473.toNat) (.dead ())) fun op_ba66 n_54f1 tables_ff67 =>
 .bif ((op_ba66 != 17))
 (.ret [sl false ⟨1, false⟩ ([]), tb false] [])
 (.ck (decide ((0 : Int) ≤ w64 (((open_2.length : Nat) : Int) - 1)) && decide (w64 (((open_2.length : Nat) : Int) - 1) < ((open_2.length : Nat) : Int))) <|
 .int .i64 (open_2.getD (0 + (w64 (((open_2.length : Nat) : Int) - 1)).toNat) (.dead ())) fun x_3473_2 =>
 .ck (decide ((0 : Int) ≤ x_3473_2) && decide (x_3473_2 < (((out_1 ++ ([i64 (-1)])).length : Nat) : Int))) <|
 .int .i64 ((out_1 ++ ([i64 (-1)])).getD (0 + x_3473_2.toNat) (.dead ())) fun x_7c7f =>
 .bif (decide (x_7c7f ≥ 0))
 (.ret [sl false ⟨1, false⟩ ([]), tb false] [])
 (.ck (decide ((0 : Int) ≤ w64 (((open_2.length : Nat) : Int) - 1)) && decide (w64 (((open_2.length : Nat) : Int) - 1) < ((open_2.length : Nat) : Int))) <|
 .int .i64 (open_2.getD (0 + (w64 (((open_2.length : Nat) : Int) - 1)).toNat) (.dead ())) fun x_3473_3 =>
 .ck (decide ((0 : Int) ≤ x_3473_3) && decide (x_3473_3 < (((out_1 ++ ([i64 (-1)])).length : Nat) : Int))) <|
 B137_0 l_0 ((out_1 ++ ([i64 (-1)])).set (0 + x_3473_3.toNat) (i64 v_3)) open_2 (w64 (v_3 + 1))))))
 (.bif ((op_dc63 == 19))
 (.bif ((((open_2.length : Nat) : Int) == 0))
 (.ret [sl false ⟨1, false⟩ ([]), tb false] [])
 (.ck (decide ((0 : Int) ≤ w64 (((open_2.length : Nat) : Int) - 1)) && decide (w64 (((open_2.length : Nat) : Int) - 1) < ((open_2.length : Nat) : Int))) <|
 .int .i64 (open_2.getD (0 + (w64 (((open_2.length : Nat) : Int) - 1)).toNat) (.dead ())) fun x_3473 =>
 .ck (decide ((0 : Int) ≤ w64 (((open_2.length : Nat) : Int) - 1)) && decide (w64 (((open_2.length : Nat) : Int) - 1) ≤ ((open_2.length : Nat) : Int))) <|
 .ck (decide ((0 : Int) ≤ x_3473) && decide (x_3473 < (((out_1 ++ ([i64 (-1)])).length : Nat) : Int))) <|
 .int .i64 ((out_1 ++ ([i64 (-1)])).getD (0 + x_3473.toNat) (.dead ())) fun x_04b3 =>
 .bif (decide (x_04b3 ≥ 0))
 (.ck (decide ((0 : Int) ≤ x_3473) && decide (x_3473 < (((out_1 ++ ([i64 (-1)])).length : Nat) : Int))) <|
 .int .i64 ((out_1 ++ ([i64 (-1)])).getD (0 + x_3473.toNat) (.dead ())) fun x_04b3_2 =>
 .ck (decide ((0 : Int) ≤ x_04b3_2) && decide (x_04b3_2 < (((out_1 ++ ([i64 (-1)])).length : Nat) : Int))) <|
 G137_1 l_0 ((out_1 ++ ([i64 (-1)])).set (0 + x_04b3_2.toNat) (i64 v_3)) ((open_2.drop 0).take ((w64 (((open_2.length : Nat) : Int) - 1) - 0).toNat)) v_3 x_3473)
 (G137_1 l_0 (out_1 ++ ([i64 (-1)])) ((open_2.drop 0).take ((w64 (((open_2.length : Nat) : Int) - 1) - 0).toNat)) v_3 x_3473)))
 (B137_0 l_0 (out_1 ++ ([i64 (-1)])) open_2 (w64 (v_3 + 1))))))))
 (.bif ((((open_2.length : Nat) : Int) == 0))
 (.ret [sl false ⟨1, false⟩ out_1, tb (decide (((l_0.length : Nat) : Int) ≤ 60))] [])
 (.ret [sl false ⟨1, false⟩ out_1, tb false] []))
theorem eH137_0 {l_0 out_1 open_2 : List TV} {v_3 : Int} {r : Res} (h : S cx 137 (NH137_0 l_0 out_1 open_2 v_3) = some r) : S cx 137 (H137_0 l_0 out_1 open_2 v_3) = some r :=
 hw_of (fun call hd hb pt rg => by kernel_rfl) h
noncomputable def NG137_1 (l_0 out_3 open_4 : List TV) (i_1 k_2 : Int) : Nd :=
 .ck (decide ((0 : Int) ≤ k_2) && decide (k_2 < ((out_3.length : Nat) : Int))) <|
 .ck (decide ((0 : Int) ≤ i_1) && decide (i_1 < (((out_3.set (0 + k_2.toNat) (i64 i_1)).length : Nat) : Int))) <|
 B137_0 l_0 ((out_3.set (0 + k_2.toNat) (i64 i_1)).set (0 + i_1.toNat) (i64 k_2)) open_4 (w64 (i_1 + 1))
theorem eG137_1 {l_0 out_3 open_4 : List TV} {i_1 k_2 : Int} {r : Res} (h : S cx 137 (NG137_1 l_0 out_3 open_4 i_1 k_2) = some r) : S cx 137 (G137_1 l_0 out_3 open_4 i_1 k_2) = some r :=
 pw_of (fun call hd hb pt rg => by kernel_rfl) h
noncomputable def EG142_0 (l_0 s_1 s_2 : List TV) : Env := [.val [] (sl true ⟨3, true⟩ l_0), .un, .un, .val [] (.pt false () (.st [sl true ⟨3, true⟩ l_0, sl false ⟨1, false⟩ s_1, sl false ⟨1, false⟩ s_2, sl false ⟨1, true⟩ (List.replicate (((l_0.length : Nat) : Int).toNat) (sl false ⟨1, false⟩ ([])))]))] ++ uns 156
noncomputable abbrev G142_0 (l_0 s_1 s_2 : List TV) : Nd := .go [1, 1, 1] (EG142_0 l_0 s_1 s_2)
noncomputable def EH142_1 (l_0 s_1 s_2 s_3 open_4 : List TV) (v_5 : Int) : Env := [.val [] (sl true ⟨3, true⟩ l_0), .un, .un, .val [] (.pt false () (.st [sl true ⟨3, true⟩ l_0, sl false ⟨1, false⟩ s_1, sl false ⟨1, false⟩ s_2, sl false ⟨1, true⟩ s_3])), .val [] (sl false ⟨1, false⟩ open_4)] ++ uns 26 ++ [.val [] (sl true ⟨3, true⟩ l_0), .val [] (i64 ((l_0.length : Nat) : Int)), .val [] (i64 v_5)] ++ uns 126
noncomputable abbrev H142_1 (l_0 s_1 s_2 s_3 open_4 : List TV) (v_5 : Int) : Nd := .head [1, 1, 1, 1, 0, 1, 2] (EH142_1 l_0 s_1 s_2 s_3 open_4 v_5)
noncomputable abbrev B142_1 (l_0 s_1 s_2 s_3 open_4 : List TV) (v_5 : Int) : Nd := .back [1, 1, 1, 1, 0, 1, 2] (EH142_1 l_0 s_1 s_2 s_3 open_4 v_5)
noncomputable def EG142_2 (l_0 s_1 s_2 s_6 open_7 : List TV) (i_8 x_3 x_4 : Int) (x_5 : List TV) (v_9 : Int) : Env := [.val [] (sl true ⟨3, true⟩ l_0), .un, .un, .val [] (.pt false () (.st [sl true ⟨3, true⟩ l_0, sl false ⟨1, false⟩ s_1, sl false ⟨1, false⟩ s_2, sl false ⟨1, true⟩ s_6])), .val [] (sl false ⟨1, false⟩ open_7), .val [] (i64 i_8), .val [] (.pt false () (.st [i64 x_3, i64 x_4, sl true ⟨1, false⟩ x_5]))] ++ uns 24 ++ [.val [] (sl true ⟨3, true⟩ l_0), .val [] (i64 ((l_0.length : Nat) : Int)), .val [] (i64 v_9)] ++ uns 126
noncomputable abbrev G142_2 (l_0 s_1 s_2 s_6 open_7 : List TV) (i_8 x_3 x_4 : Int) (x_5 : List TV) (v_9 : Int) : Nd := .go [1, 1, 1, 1, 0, 1, 2, 5, 1, 1, 0, 2, 1, 1] (EG142_2 l_0 s_1 s_2 s_6 open_7 i_8 x_3 x_4 x_5 v_9)
noncomputable def EG142_3 (l_0 s_5 s_1 s_2 open_3 : List TV) (v_4 : Int) : Env := [.val [] (sl true ⟨3, true⟩ l_0), .un, .un, .val [] (.pt false () (.st [sl true ⟨3, true⟩ l_0, sl false ⟨1, false⟩ s_5, sl false ⟨1, false⟩ s_1, sl false ⟨1, true⟩ s_2])), .val [] (sl false ⟨1, false⟩ open_3), .un, .un, .val [] (i64 (w64 (((open_3.length : Nat) : Int) - 1)))] ++ uns 23 ++ [.val [] (sl true ⟨3, true⟩ l_0), .val [] (i64 ((l_0.length : Nat) : Int)), .val [] (i64 v_4)] ++ uns 126
noncomputable abbrev G142_3 (l_0 s_5 s_1 s_2 open_3 : List TV) (v_4 : Int) : Nd := .go [1, 1, 1, 1, 0, 1, 2, 5, 1, 1, 0, 2, 1, 1, 1, 2, 1, 4, 1, 4, 1, 4, 1, 3, 1, 1, 1, 1] (EG142_3 l_0 s_5 s_1 s_2 open_3 v_4)
noncomputable def N142_s0 (l_0 vs_d5d6 : List TV) : Nd :=
 C169 ([i64 (-1)]) ((l_0.length : Nat) : Int) fun vs_811b =>
 G142_0 l_0 vs_d5d6 vs_811b
noncomputable def N142_s1 (l_0 vs_d5d6 : List TV) : Nd :=
 .ck (decide ((0 : Int) ≤ ((l_0.length : Nat) : Int)) && decide (((l_0.length : Nat) : Int) ≤ ((l_0.length : Nat) : Int)) && decide (((l_0.length : Nat) : Int) * 24 < (lim : Int)) && decide (((l_0.length : Nat) : Int) < 9223372036854775807) && true && true) <|
 N142_s0 l_0 vs_d5d6
noncomputable def N142_s2 (l_0 vs_d5d6 : List TV) : Nd :=
 .amb2 
 (C169 ([i64 (-1)]) ((l_0.length : Nat) : Int) fun vs_811b =>
 .ck (decide ((0 : Int) ≤ ((l_0.length : Nat) : Int)) && decide (((l_0.length : Nat) : Int) ≤ ((l_0.length : Nat) : Int)) && decide (((l_0.length : Nat) : Int) * 24 < (lim : Int)) && decide (((l_0.length : Nat) : Int) < 9223372036854775807) && true && true) <|
 G142_0 l_0 vs_d5d6 vs_811b) 
 (N142_s1 l_0 vs_d5d6)
noncomputable def N142_s3 (l_0 : List TV) : Nd :=
 C169 ([i64 (-1)]) ((l_0.length : Nat) : Int) fun vs_d5d6 =>
 N142_s0 l_0 vs_d5d6
noncomputable def N142_s4 (l_0 : List TV) : Nd :=
 .ck (decide ((0 : Int) ≤ ((l_0.length : Nat) : Int)) && decide (((l_0.length : Nat) : Int) ≤ ((l_0.length : Nat) : Int)) && decide (((l_0.length : Nat) : Int) * 24 < (lim : Int)) && decide (((l_0.length : Nat) : Int) < 9223372036854775807) && true && true) <|
 N142_s3 l_0
noncomputable def N142_s5 (l_0 : List TV) : Nd :=
 .amb2 
 (C169 ([i64 (-1)]) ((l_0.length : Nat) : Int) fun vs_d5d6 =>
 N142_s2 l_0 vs_d5d6) 
 (N142_s4 l_0)
noncomputable def N142_s6 (l_0 : List TV) : Nd :=
 .amb2 
 (N142_s3 l_0) 
 (N142_s3 l_0)
noncomputable def N142 (l_0 : List TV) : Nd :=
 .bif (decide (((l_0.length : Nat) : Int) > 60))
 (.ret [tnil] [])
 (C166 l_0 fun v_4c5e =>
 .bif (v_4c5e)
 (.ret [tnil] [])
 (.amb3 
 (.amb3 
 (C169 ([i64 (-1)]) ((l_0.length : Nat) : Int) fun vs_d5d6 =>
 .amb2 
 (N142_s2 l_0 vs_d5d6) 
 (N142_s1 l_0 vs_d5d6)) 
 (N142_s5 l_0) 
 (.ck (decide ((0 : Int) ≤ ((l_0.length : Nat) : Int)) && decide (((l_0.length : Nat) : Int) ≤ ((l_0.length : Nat) : Int)) && decide (((l_0.length : Nat) : Int) * 24 < (lim : Int)) && decide (((l_0.length : Nat) : Int) < 9223372036854775807) && true && true) <|
 N142_s6 l_0)) 
 (.amb2 
 (N142_s5 l_0) 
 (N142_s4 l_0)) 
 (.ck (decide ((0 : Int) ≤ ((l_0.length : Nat) : Int)) && decide (((l_0.length : Nat) : Int) ≤ ((l_0.length : Nat) : Int)) && decide (((l_0.length : Nat) : Int) * 24 < (lim : Int)) && decide (((l_0.length : Nat) : Int) < 9223372036854775807) && true && true) <|
 .amb2 
 (N142_s6 l_0) 
 (N142_s3 l_0))))
theorem e142 {l_0 : List TV} {r : Res} (h : S cx 142 (N142 l_0) = some r) : tw cx 142 [sl true ⟨3, true⟩ l_0] = some r :=
 tw_of (fun call hd hb pt rg => by kernel_rfl) h
noncomputable def NG142_0 (l_0 s_1 s_2 : List TV) : Nd :=
 H142_1 l_0 s_1 s_2 (List.replicate (((l_0.length : Nat) : Int).toNat) (sl false ⟨1, false⟩ ([]))) ([]) 0
theorem eG142_0 {l_0 s_1 s_2 : List TV} {r : Res} (h : S cx 142 (NG142_0 l_0 s_1 s_2) = some r) : S cx 142 (G142_0 l_0 s_1 s_2) = some r :=
 pw_of (fun call hd hb pt rg => by kernel_rfl) h
noncomputable def NH142_1_s0 (l_0 s_1 s_2 s_3 open_4 : List TV) (v_5 op_cbb9 n_f5a6 : Int) (tables_2e35 : List TV) : Nd :=
 C129 open_4 fun vs_1d99 =>
 .ck (decide ((0 : Int) ≤ v_5) && decide (v_5 < ((s_3.length : Nat) : Int))) <|
 G142_2 l_0 s_1 s_2 (s_3.set (0 + v_5.toNat) (sl false ⟨1, false⟩ vs_1d99)) open_4 v_5 op_cbb9 n_f5a6 tables_2e35 v_5
noncomputable def NH142_1 (l_0 s_1 s_2 s_3 open_4 : List TV) (v_5 : Int) : Nd :=
 .bif (decide (v_5 < ((l_0.length : Nat) : Int)))
 (.ck (decide ((0 : Int) ≤ v_5) && decide (v_5 < ((l_0.length : Nat) : Int))) <|
 V3 (l_0.getD (0 + v_5.toNat) (.dead ())) fun op_cbb9 n_f5a6 tables_2e35 =>
 .amb2 
 (NH142_1_s0 l_0 s_1 s_2 s_3 open_4 v_5 op_cbb9 n_f5a6 tables_2e35) 
 (NH142_1_s0 l_0 s_1 s_2 s_3 open_4 v_5 op_cbb9 n_f5a6 tables_2e35))
 (.bif (decide (((open_4.length : Nat) : Int) > 0))
 (.ret [tnil] [])
 (.ret [.pt false () (.st [sl true ⟨3, true⟩ l_0, sl false ⟨1, false⟩ s_1, sl false ⟨1, false⟩ s_2, sl false ⟨1, true⟩ s_3])] []))
theorem eH142_1 {l_0 s_1 s_2 s_3 open_4 : List TV} {v_5 : Int} {r : Res} (h : S cx 142 (NH142_1 l_0 s_1 s_2 s_3 open_4 v_5) = some r) : S cx 142 (H142_1 l_0 s_1 s_2 s_3 open_4 v_5) = some r :=
 hw_of (fun call hd hb pt rg => by kernel_rfl) h
noncomputable def NG142_2 (l_0 s_1 s_2 s_6 open_7 : List TV) (i_8 x_3 x_4 : Int) (x_5 : List TV) (v_9 : Int) : Nd :=
 C170 x_3 x_4 x_5 fun v_fae6 =>
 .bif (decide (v_fae6 > ((open_7.length : Nat) : Int)))
 (.ret [tnil] [])
 (C171 x_3 fun v_c5c2 =>
 .bif (v_c5c2)
 (.ck (decide ((open_7.length + ([i64 i_8] : List TV).length) * 8 < lim)) <|
 .bif (decide ((((open_7 ++ ([i64 i_8])).length : Nat) : Int) > 8))
 (.ret [tnil] [])
 (B142_1 l_0 s_1 s_2 s_6 (open_7 ++ ([i64 i_8])) (w64 (v_9 + 1))))
 (.bif ((x_3 == 18))
 (.bif (decide (w64 (((open_7.length : Nat) : Int) - 1) < 0))
 (.ret [tnil] [])
 (.ck (decide ((0 : Int) ≤ w64 (((open_7.length : Nat) : Int) - 1)) && decide (w64 (((open_7.length : Nat) : Int) - 1) < ((open_7.length : Nat) : Int))) <|
 .int .i64 (open_7.getD (0 + (w64 (((open_7.length : Nat) : Int) - 1)).toNat) (.dead ())) fun x_71e1 =>
 .ck (decide ((0 : Int) ≤ x_71e1) && decide (x_71e1 < ((l_0.length : Nat) : Int))) <|
 V3 (l_0.getD (0 + x_71e1.toNat) (.dead ())) fun op_c5be n_8bbf tables_9d98 =>
 .bif ((op_c5be != 17))
 (.ret [tnil] [])
 (.ck (decide ((0 : Int) ≤ w64 (((open_7.length : Nat) : Int) - 1)) && decide (w64 (((open_7.length : Nat) : Int) - 1) < ((open_7.length : Nat) : Int))) <|
 .int .i64 (open_7.getD (0 + (w64 (((open_7.length : Nat) : Int) - 1)).toNat) (.dead ())) fun x_71e1_2 =>
 .ck (decide ((0 : Int) ≤ x_71e1_2) && decide (x_71e1_2 < ((s_2.length : Nat) : Int))) <|
 .int .i64 (s_2.getD (0 + x_71e1_2.toNat) (.dead ())) fun x_a4bb =>
 .bif (decide (x_a4bb ≥ 0))
 (.ret [tnil] [])
 (.ck (decide ((0 : Int) ≤ w64 (((open_7.length : Nat) : Int) - 1)) && decide (w64 (((open_7.length : Nat) : Int) - 1) < ((open_7.length : Nat) : Int))) <|
 .int .i64 (open_7.getD (0 + (w64 (((open_7.length : Nat) : Int) - 1)).toNat) (.dead ())) fun x_71e1_3 =>
 .ck (decide ((0 : Int) ≤ x_71e1_3) && decide (x_71e1_3 < ((s_2.length : Nat) : Int))) <|
 B142_1 l_0 s_1 (s_2.set (0 + x_71e1_3.toNat) (i64 i_8)) s_6 open_7 (w64 (v_9 + 1))))))
 (.bif ((x_3 == 19))
 (.bif (decide (w64 (((open_7.length : Nat) : Int) - 1) < 0))
 (.ret [tnil] [])
 (.ck (decide ((0 : Int) ≤ w64 (((open_7.length : Nat) : Int) - 1)) && decide (w64 (((open_7.length : Nat) : Int) - 1) < ((open_7.length : Nat) : Int))) <|
 .int .i64 (open_7.getD (0 + (w64 (((open_7.length : Nat) : Int) - 1)).toNat) (.dead ())) fun x_71e1 =>
 .ck (decide ((0 : Int) ≤ i_8) && decide (i_8 < ((s_1.length : Nat) : Int))) <|
 .ck (decide ((0 : Int) ≤ x_71e1) && decide (x_71e1 < (((s_1.set (0 + i_8.toNat) (i64 x_71e1)).length : Nat) : Int))) <|
 .ck (decide ((0 : Int) ≤ x_71e1) && decide (x_71e1 < ((s_2.length : Nat) : Int))) <|
 .int .i64 (s_2.getD (0 + x_71e1.toNat) (.dead ())) fun x_d75d =>
 .bif (decide (x_d75d ≥ 0))
 (.ck (decide ((0 : Int) ≤ x_71e1) && decide (x_71e1 < ((s_2.length : Nat) : Int))) <|
 .int .i64 (s_2.getD (0 + x_71e1.toNat) (.dead ())) fun x_d75d_2 =>
 .ck (decide ((0 : Int) ≤ x_d75d_2) && decide (x_d75d_2 < ((((s_1.set (0 + i_8.toNat) (i64 x_71e1)).set (0 + x_71e1.toNat) (i64 i_8)).length : Nat) : Int))) <|
 G142_3 l_0 (((s_1.set (0 + i_8.toNat) (i64 x_71e1)).set (0 + x_71e1.toNat) (i64 i_8)).set (0 + x_d75d_2.toNat) (i64 i_8)) s_2 s_6 open_7 v_9)
 (G142_3 l_0 ((s_1.set (0 + i_8.toNat) (i64 x_71e1)).set (0 + x_71e1.toNat) (i64 i_8)) s_2 s_6 open_7 v_9)))
 (B142_1 l_0 s_1 s_2 s_6 open_7 (w64 (v_9 + 1))))))
theorem eG142_2 {l_0 s_1 s_2 s_6 open_7 : List TV} {i_8 x_3 x_4 : Int} {x_5 : List TV} {v_9 : Int} {r : Res} (h : S cx 142 (NG142_2 l_0 s_1 s_2 s_6 open_7 i_8 x_3 x_4 x_5 v_9) = some r) : S cx 142 (G142_2 l_0 s_1 s_2 s_6 open_7 i_8 x_3 x_4 x_5 v_9) = some r :=
 pw_of (fun call hd hb pt rg => by kernel_rfl) h
noncomputable def NG142_3 (l_0 s_5 s_1 s_2 open_3 : List TV) (v_4 : Int) : Nd :=
 .ck (decide ((0 : Int) ≤ w64 (((open_3.length : Nat) : Int) - 1)) && decide (w64 (((open_3.length : Nat) : Int) - 1) ≤ ((open_3.length : Nat) : Int))) <|
 B142_1 l_0 s_5 s_1 s_2 ((open_3.drop 0).take ((w64 (((open_3.length : Nat) : Int) - 1) - 0).toNat)) (w64 (v_4 + 1))
theorem eG142_3 {l_0 s_5 s_1 s_2 open_3 : List TV} {v_4 : Int} {r : Res} (h : S cx 142 (NG142_3 l_0 s_5 s_1 s_2 open_3 v_4) = some r) : S cx 142 (G142_3 l_0 s_5 s_1 s_2 open_3 v_4) = some r :=
 pw_of (fun call hd hb pt rg => by kernel_rfl) h
noncomputable def EH143_0 (l_0 w_1 w_2 : List TV) (w_9 height_3 base_4 : Int) (dead_8 : Bool) (bases_5 deads_6 : List TV) (v_7 : Int) : Env := [.val [] (sl true ⟨3, true⟩ l_0), .un, .val [] (.pt false () (.st [sl false ⟨1, false⟩ ([]), sl false ⟨1, false⟩ ([]), i64 0, i64 0])), .val [] (.pt false () (.st [sl false ⟨1, false⟩ w_1, sl false ⟨1, false⟩ w_2, i64 0, i64 w_9])), .val [] (i64 height_3), .val [] (i64 base_4), .val [] (tb dead_8), .val [] (sl false ⟨1, false⟩ bases_5), .val [] (sl false ⟨1, false⟩ deads_6), .un, .un, .un, .un, .un, .un, .val [] (sl true ⟨3, true⟩ l_0), .val [] (i64 ((l_0.length : Nat) : Int)), .val [] (i64 v_7)] ++ uns 125
noncomputable abbrev H143_0 (l_0 w_1 w_2 : List TV) (w_9 height_3 base_4 : Int) (dead_8 : Bool) (bases_5 deads_6 : List TV) (v_7 : Int) : Nd := .head [1, 1, 1, 1, 1, 1, 1, 0, 1, 2] (EH143_0 l_0 w_1 w_2 w_9 height_3 base_4 dead_8 bases_5 deads_6 v_7)
noncomputable abbrev B143_0 (l_0 w_1 w_2 : List TV) (w_9 height_3 base_4 : Int) (dead_8 : Bool) (bases_5 deads_6 : List TV) (v_7 : Int) : Nd := .back [1, 1, 1, 1, 1, 1, 1, 0, 1, 2] (EH143_0 l_0 w_1 w_2 w_9 height_3 base_4 dead_8 bases_5 deads_6 v_7)
noncomputable def EG143_1 (l_0 w_6 w_7 : List TV) (w_8 height_9 base_10 : Int) (dead_11 : Bool) (bases_12 deads_13 : List TV) (x_1 x_2 : Int) (x_3 : List TV) (off_4 on_5 v_14 : Int) : Env := [.val [] (sl true ⟨3, true⟩ l_0), .un, .val [] (.pt false () (.st [sl false ⟨1, false⟩ ([]), sl false ⟨1, false⟩ ([]), i64 0, i64 0])), .val [] (.pt false () (.st [sl false ⟨1, false⟩ w_6, sl false ⟨1, false⟩ w_7, i64 0, i64 w_8])), .val [] (i64 height_9), .val [] (i64 base_10), .val [] (tb dead_11), .val [] (sl false ⟨1, false⟩ bases_12), .val [] (sl false ⟨1, false⟩ deads_13), .un, .val [] (.pt false () (.st [i64 x_1, i64 x_2, sl true ⟨1, false⟩ x_3])), .val [] (i64 off_4), .val [] (i64 on_5), .un, .un, .val [] (sl true ⟨3, true⟩ l_0), .val [] (i64 ((l_0.length : Nat) : Int)), .val [] (i64 v_14)] ++ uns 125
noncomputable abbrev G143_1 (l_0 w_6 w_7 : List TV) (w_8 height_9 base_10 : Int) (dead_11 : Bool) (bases_12 deads_13 : List TV) (x_1 x_2 : Int) (x_3 : List TV) (off_4 on_5 v_14 : Int) : Nd := .go [1, 1, 1, 1, 1, 1, 1, 0, 1, 2, 5, 1, 1, 0, 2, 1, 1, 1, 1, 1, 1] (EG143_1 l_0 w_6 w_7 w_8 height_9 base_10 dead_11 bases_12 deads_13 x_1 x_2 x_3 off_4 on_5 v_14)
noncomputable def EG143_2 (w_1 w_2 : List TV) (w_3 w_0 : Int) : Env := [.un, .un, .val [] (.pt false () (.st [sl false ⟨1, false⟩ ([]), sl false ⟨1, false⟩ ([]), i64 0, i64 0])), .val [] (.pt false () (.st [sl false ⟨1, false⟩ w_1, sl false ⟨1, false⟩ w_2, i64 w_3, i64 w_0]))] ++ uns 139
noncomputable abbrev G143_2 (w_1 w_2 : List TV) (w_3 w_0 : Int) : Nd := .go [1, 1, 1, 1, 1, 1, 1, 1, 1, 1, 1] (EG143_2 w_1 w_2 w_3 w_0)
noncomputable def EG143_3 (l_0 w_6 w_7 : List TV) (w_8 height_4 base_9 : Int) (dead_10 : Bool) (bases_11 deads_12 : List TV) (x_1 x_2 : Int) (x_3 : List TV) (n_13 v_14 : Int) (v_5 : Bool) : Env := [.val [] (sl true ⟨3, true⟩ l_0), .un, .val [] (.pt false () (.st [sl false ⟨1, false⟩ ([]), sl false ⟨1, false⟩ ([]), i64 0, i64 0])), .val [] (.pt false () (.st [sl false ⟨1, false⟩ w_6, sl false ⟨1, false⟩ w_7, i64 0, i64 w_8])), .val [] (i64 height_4), .val [] (i64 base_9), .val [] (tb dead_10), .val [] (sl false ⟨1, false⟩ bases_11), .val [] (sl false ⟨1, false⟩ deads_12), .un, .val [] (.pt false () (.st [i64 x_1, i64 x_2, sl true ⟨1, false⟩ x_3])), .un, .un, .val [] (i64 n_13), .un, .val [] (sl true ⟨3, true⟩ l_0), .val [] (i64 ((l_0.length : Nat) : Int)), .val [] (i64 v_14)] ++ uns 60 ++ [.val [] (tb v_5)] ++ uns 64
noncomputable abbrev G143_3 (l_0 w_6 w_7 : List TV) (w_8 height_4 base_9 : Int) (dead_10 : Bool) (bases_11 deads_12 : List TV) (x_1 x_2 : Int) (x_3 : List TV) (n_13 v_14 : Int) (v_5 : Bool) : Nd := .go [1, 1, 1, 1, 1, 1, 1, 0, 1, 2, 5, 1, 1, 0, 2, 1, 1, 1, 1, 1, 1, 1, 1, 1, 2, 1, 4, 1] (EG143_3 l_0 w_6 w_7 w_8 height_4 base_9 dead_10 bases_11 deads_12 x_1 x_2 x_3 n_13 v_14 v_5)
noncomputable def N143 (l_0 : List TV) : Nd :=
 H143_0 l_0 ([]) ([]) 0 0 0 false ([]) ([]) 0
theorem e143 {l_0 : List TV} {r : Res} (h : S cx 143 (N143 l_0) = some r) : tw cx 143 [sl true ⟨3, true⟩ l_0] = some r :=
 tw_of (fun call hd hb pt rg => by kernel_rfl) h
noncomputable def NH143_0 (l_0 w_1 w_2 : List TV) (w_9 height_3 base_4 : Int) (dead_8 : Bool) (bases_5 deads_6 : List TV) (v_7 : Int) : Nd :=
 .bif (decide (v_7 < ((l_0.length : Nat) : Int)))
 (.ck (decide ((0 : Int) ≤ v_7) && decide (v_7 < ((l_0.length : Nat) : Int))) <|
 V3 (l_0.getD (0 + v_7.toNat) (.dead ())) fun op_fbb8 n_e88b tables_9268 =>
 .ck (decide ((w_1.length + ([i64 height_3] : List TV).length) * 8 < lim)) <|
 .ck (decide ((w_2.length + ([tb dead_8] : List TV).length) * 1 < lim)) <|
 C172 op_fbb8 fun v_9f3a v_4297 =>
 .bif (decide (w64 (height_3 - v_9f3a) < base_4))
 (.bif ((!dead_8))
 (.ret [.st [sl false ⟨1, false⟩ (w_1 ++ ([i64 height_3])), sl false ⟨1, false⟩ (w_2 ++ ([tb dead_8])), i64 2, i64 v_7]] [])
 (G143_1 l_0 (w_1 ++ ([i64 height_3])) (w_2 ++ ([tb dead_8])) v_7 (w64 (base_4 + v_9f3a)) base_4 dead_8 bases_5 deads_6 op_fbb8 n_e88b tables_9268 v_9f3a v_4297 v_7))
 (G143_1 l_0 (w_1 ++ ([i64 height_3])) (w_2 ++ ([tb dead_8])) v_7 height_3 base_4 dead_8 bases_5 deads_6 op_fbb8 n_e88b tables_9268 v_9f3a v_4297 v_7))
 (.ck (decide ((w_1.length + ([i64 height_3] : List TV).length) * 8 < lim)) <|
 .bif ((height_3 != 0))
 (G143_2 (w_1 ++ ([i64 height_3])) w_2 3 ((l_0.length : Nat) : Int))
 (G143_2 (w_1 ++ ([i64 height_3])) w_2 0 ((l_0.length : Nat) : Int)))
theorem eH143_0 {l_0 w_1 w_2 : List TV} {w_9 height_3 base_4 : Int} {dead_8 : Bool} {bases_5 deads_6 : List TV} {v_7 : Int} {r : Res} (h : S cx 143 (NH143_0 l_0 w_1 w_2 w_9 height_3 base_4 dead_8 bases_5 deads_6 v_7) = some r) : S cx 143 (H143_0 l_0 w_1 w_2 w_9 height_3 base_4 dead_8 bases_5 deads_6 v_7) = some r :=
 hw_of (fun call hd hb pt rg => by kernel_rfl) h
noncomputable def NG143_1 (l_0 w_6 w_7 : List TV) (w_8 height_9 base_10 : Int) (dead_11 : Bool) (bases_12 deads_13 : List TV) (x_1 x_2 : Int) (x_3 : List TV) (off_4 on_5 v_14 : Int) : Nd :=
 .bif (decide (w64 (height_9 + (w64 (on_5 - off_4))) > 4))
 (.ret [.st [sl false ⟨1, false⟩ w_6, sl false ⟨1, false⟩ w_7, i64 4, i64 w_8]] [])
 (C163 x_1 fun v_3799 =>
 .bif (v_3799)
 (.ck (decide ((bases_12.length + ([i64 base_10] : List TV).length) * 8 < lim)) <|
 .ck (decide ((deads_13.length + ([tb dead_11] : List TV).length) * 1 < lim)) <|
 B143_0 l_0 w_6 w_7 w_8 (w64 (height_9 + (w64 (on_5 - off_4)))) (w64 (height_9 + (w64 (on_5 - off_4)))) dead_11 (bases_12 ++ ([i64 base_10])) (deads_13 ++ ([tb dead_11])) (w64 (v_14 + 1)))
 (.bif ((x_1 == 18))
 (G143_3 l_0 w_6 w_7 w_8 (w64 (height_9 + (w64 (on_5 - off_4)))) base_10 dead_11 bases_12 deads_13 x_1 x_2 x_3 ((bases_12.length : Nat) : Int) v_14 true)
 (G143_3 l_0 w_6 w_7 w_8 (w64 (height_9 + (w64 (on_5 - off_4)))) base_10 dead_11 bases_12 deads_13 x_1 x_2 x_3 ((bases_12.length : Nat) : Int) v_14 (x_1 == 19))))
theorem eG143_1 {l_0 w_6 w_7 : List TV} {w_8 height_9 base_10 : Int} {dead_11 : Bool} {bases_12 deads_13 : List TV} {x_1 x_2 : Int} {x_3 : List TV} {off_4 on_5 v_14 : Int} {r : Res} (h : S cx 143 (NG143_1 l_0 w_6 w_7 w_8 height_9 base_10 dead_11 bases_12 deads_13 x_1 x_2 x_3 off_4 on_5 v_14) = some r) : S cx 143 (G143_1 l_0 w_6 w_7 w_8 height_9 base_10 dead_11 bases_12 deads_13 x_1 x_2 x_3 off_4 on_5 v_14) = some r :=
 pw_of (fun call hd hb pt rg => by kernel_rfl) h
noncomputable def NG143_2 (w_1 w_2 : List TV) (w_3 w_0 : Int) : Nd :=
 .ret [.st [sl false ⟨1, false⟩ w_1, sl false ⟨1, false⟩ w_2, i64 w_3, i64 w_0]] []
theorem eG143_2 {w_1 w_2 : List TV} {w_3 w_0 : Int} {r : Res} (h : S cx 143 (NG143_2 w_1 w_2 w_3 w_0) = some r) : S cx 143 (G143_2 w_1 w_2 w_3 w_0) = some r :=
 pw_of (fun call hd hb pt rg => by kernel_rfl) h
noncomputable def NG143_3 (l_0 w_6 w_7 : List TV) (w_8 height_4 base_9 : Int) (dead_10 : Bool) (bases_11 deads_12 : List TV) (x_1 x_2 : Int) (x_3 : List TV) (n_13 v_14 : Int) (v_5 : Bool) : Nd :=
 .bif (v_5)
 (.bif ((height_4 != base_9))
 (.ret [.st [sl false ⟨1, false⟩ w_6, sl false ⟨1, false⟩ w_7, i64 3, i64 w_8]] [])
 (.ck (decide ((0 : Int) ≤ w64 (n_13 - 1)) && decide (w64 (n_13 - 1) < ((deads_12.length : Nat) : Int))) <|
 .bool (deads_12.getD (0 + (w64 (n_13 - 1)).toNat) (.dead ())) fun x_f6de =>
 .bif ((x_1 == 19))
 (.ck (decide ((0 : Int) ≤ w64 (n_13 - 1)) && decide (w64 (n_13 - 1) < ((bases_11.length : Nat) : Int))) <|
 .int .i64 (bases_11.getD (0 + (w64 (n_13 - 1)).toNat) (.dead ())) fun x_2548 =>
 .ck (decide ((0 : Int) ≤ w64 (n_13 - 1)) && decide (w64 (n_13 - 1) ≤ ((bases_11.length : Nat) : Int))) <|
 .ck (decide ((0 : Int) ≤ w64 (n_13 - 1)) && decide (w64 (n_13 - 1) ≤ ((deads_12.length : Nat) : Int))) <|
 B143_0 l_0 w_6 w_7 w_8 height_4 x_2548 x_f6de ((bases_11.drop 0).take ((w64 (n_13 - 1) - 0).toNat)) ((deads_12.drop 0).take ((w64 (n_13 - 1) - 0).toNat)) (w64 (v_14 + 1)))
 (B143_0 l_0 w_6 w_7 w_8 height_4 base_9 x_f6de bases_11 deads_12 (w64 (v_14 + 1)))))
 (.bif ((x_1 == 20))
 (B143_0 l_0 w_6 w_7 w_8 base_9 base_9 true bases_11 deads_12 (w64 (v_14 + 1)))
 (.bif ((x_1 == 22))
 (B143_0 l_0 w_6 w_7 w_8 base_9 base_9 true bases_11 deads_12 (w64 (v_14 + 1)))
 (.bif ((x_1 == 14))
 (B143_0 l_0 w_6 w_7 w_8 base_9 base_9 true bases_11 deads_12 (w64 (v_14 + 1)))
 (B143_0 l_0 w_6 w_7 w_8 height_4 base_9 dead_10 bases_11 deads_12 (w64 (v_14 + 1))))))
theorem eG143_3 {l_0 w_6 w_7 : List TV} {w_8 height_4 base_9 : Int} {dead_10 : Bool} {bases_11 deads_12 : List TV} {x_1 x_2 : Int} {x_3 : List TV} {n_13 v_14 : Int} {v_5 : Bool} {r : Res} (h : S cx 143 (NG143_3 l_0 w_6 w_7 w_8 height_4 base_9 dead_10 bases_11 deads_12 x_1 x_2 x_3 n_13 v_14 v_5) = some r) : S cx 143 (G143_3 l_0 w_6 w_7 w_8 height_4 base_9 dead_10 bases_11 deads_12 x_1 x_2 x_3 n_13 v_14 v_5) = some r :=
 pw_of (fun call hd hb pt rg => by kernel_rfl) h
end Go.Tree.M

/- Trees of values: program points of functions. -/
namespace Go.Tree.M
open Go.Proofs
set_option linter.unusedVariables false
set_option maxRecDepth 20000
noncomputable def EG144_0 (x_0 x_1 : Int) (x_2 m_3 m_4 m_5 m_6 m_7 m_8 m_9 : List TV) (m_10 : Int) : Env := [.ref 260 [] none 165 false, .un, .un, .un, .val [] (.pt false () (.st [i64 x_0, i64 x_1, sl true ⟨1, false⟩ x_2]))] ++ uns 255 ++ [.val [] (.pt false () (.st [sl true ⟨3, true⟩ m_3, sl false ⟨1, false⟩ m_4, sl true ⟨1, false⟩ m_5, .st [sl false ⟨1, false⟩ m_6, sl false ⟨1, false⟩ m_7, sl false ⟨1, false⟩ m_8], sl false ⟨1, false⟩ m_9, i64 m_10]))]
noncomputable abbrev G144_0 (x_0 x_1 : Int) (x_2 m_3 m_4 m_5 m_6 m_7 m_8 m_9 : List TV) (m_10 : Int) : Nd := .go [1, 1, 1, 1, 1] (EG144_0 x_0 x_1 x_2 m_3 m_4 m_5 m_6 m_7 m_8 m_9 m_10)
noncomputable def EG144_1 (at_0 x_1 x_2 : Int) (x_3 m_4 m_5 m_6 m_7 m_8 m_9 m_10 : List TV) : Env := [.ref 260 [] none 165 false, .un, .un, .val [] (i64 at_0), .val [] (.pt false () (.st [i64 x_1, i64 x_2, sl true ⟨1, false⟩ x_3]))] ++ uns 31 ++ [.val [] (i64 x_1)] ++ uns 33 ++ [.val [] (tb (x_1 == 3))] ++ uns 189 ++ [.val [] (.pt false () (.st [sl true ⟨3, true⟩ m_4, sl false ⟨1, false⟩ m_5, sl true ⟨1, false⟩ m_6, .st [sl false ⟨1, false⟩ m_7, sl false ⟨1, false⟩ m_8, sl false ⟨1, false⟩ m_9], sl false ⟨1, false⟩ m_10, i64 (w64 (at_0 + 1))]))]
noncomputable abbrev G144_1 (at_0 x_1 x_2 : Int) (x_3 m_4 m_5 m_6 m_7 m_8 m_9 m_10 : List TV) : Nd := .go [1, 1, 1, 1, 0, 1, 2, 1, 4, 1, 4, 1] (EG144_1 at_0 x_1 x_2 x_3 m_4 m_5 m_6 m_7 m_8 m_9 m_10)
noncomputable def EG144_2 (at_0 x_1 x_2 : Int) (x_3 m_4 m_5 m_6 m_7 m_8 m_9 m_10 : List TV) : Env := [.ref 260 [] none 165 false, .un, .un, .val [] (i64 at_0), .val [] (.pt false () (.st [i64 x_1, i64 x_2, sl true ⟨1, false⟩ x_3]))] ++ uns 31 ++ [.val [] (i64 x_1)] ++ uns 46 ++ [.val [] (tb (x_1 == 10))] ++ uns 176 ++ [.val [] (.pt false () (.st [sl true ⟨3, true⟩ m_4, sl false ⟨1, false⟩ m_5, sl true ⟨1, false⟩ m_6, .st [sl false ⟨1, false⟩ m_7, sl false ⟨1, false⟩ m_8, sl false ⟨1, false⟩ m_9], sl false ⟨1, false⟩ m_10, i64 (w64 (at_0 + 1))]))]
noncomputable abbrev G144_2 (at_0 x_1 x_2 : Int) (x_3 m_4 m_5 m_6 m_7 m_8 m_9 m_10 : List TV) : Nd := .go [1, 1, 1, 1, 0, 1, 2, 1, 4, 1, 4, 1, 4, 1] (EG144_2 at_0 x_1 x_2 x_3 m_4 m_5 m_6 m_7 m_8 m_9 m_10)
noncomputable def EG144_3 (at_0 x_1 x_2 : Int) (x_3 m_4 m_5 m_6 m_7 m_8 m_9 m_10 : List TV) : Env := [.ref 260 [] none 165 false, .un, .un, .val [] (i64 at_0), .val [] (.pt false () (.st [i64 x_1, i64 x_2, sl true ⟨1, false⟩ x_3]))] ++ uns 31 ++ [.val [] (i64 x_1)] ++ uns 69 ++ [.val [] (tb (x_1 == 11))] ++ uns 153 ++ [.val [] (.pt false () (.st [sl true ⟨3, true⟩ m_4, sl false ⟨1, false⟩ m_5, sl true ⟨1, false⟩ m_6, .st [sl false ⟨1, false⟩ m_7, sl false ⟨1, false⟩ m_8, sl false ⟨1, false⟩ m_9], sl false ⟨1, false⟩ m_10, i64 (w64 (at_0 + 1))]))]
noncomputable abbrev G144_3 (at_0 x_1 x_2 : Int) (x_3 m_4 m_5 m_6 m_7 m_8 m_9 m_10 : List TV) : Nd := .go [1, 1, 1, 1, 0, 1, 2, 1, 4, 1, 4, 1, 4, 1, 4, 1] (EG144_3 at_0 x_1 x_2 x_3 m_4 m_5 m_6 m_7 m_8 m_9 m_10)
noncomputable def EG144_4 (at_0 x_1 x_2 : Int) (x_3 m_4 m_5 m_6 m_7 m_8 m_9 m_10 : List TV) : Env := [.ref 260 [] none 165 false, .un, .un, .val [] (i64 at_0), .val [] (.pt false () (.st [i64 x_1, i64 x_2, sl true ⟨1, false⟩ x_3]))] ++ uns 31 ++ [.val [] (i64 x_1)] ++ uns 85 ++ [.val [] (tb (x_1 == 12))] ++ uns 137 ++ [.val [] (.pt false () (.st [sl true ⟨3, true⟩ m_4, sl false ⟨1, false⟩ m_5, sl true ⟨1, false⟩ m_6, .st [sl false ⟨1, false⟩ m_7, sl false ⟨1, false⟩ m_8, sl false ⟨1, false⟩ m_9], sl false ⟨1, false⟩ m_10, i64 (w64 (at_0 + 1))]))]
noncomputable abbrev G144_4 (at_0 x_1 x_2 : Int) (x_3 m_4 m_5 m_6 m_7 m_8 m_9 m_10 : List TV) : Nd := .go [1, 1, 1, 1, 0, 1, 2, 1, 4, 1, 4, 1, 4, 1, 4, 1, 4, 1] (EG144_4 at_0 x_1 x_2 x_3 m_4 m_5 m_6 m_7 m_8 m_9 m_10)
noncomputable def EG144_5 (at_0 x_1 x_2 : Int) (x_3 m_4 m_5 m_6 m_7 m_8 m_9 m_10 : List TV) : Env := [.ref 260 [] none 165 false, .un, .un, .val [] (i64 at_0), .val [] (.pt false () (.st [i64 x_1, i64 x_2, sl true ⟨1, false⟩ x_3]))] ++ uns 31 ++ [.val [] (i64 x_1)] ++ uns 108 ++ [.val [] (tb (x_1 == 13))] ++ uns 114 ++ [.val [] (.pt false () (.st [sl true ⟨3, true⟩ m_4, sl false ⟨1, false⟩ m_5, sl true ⟨1, false⟩ m_6, .st [sl false ⟨1, false⟩ m_7, sl false ⟨1, false⟩ m_8, sl false ⟨1, false⟩ m_9], sl false ⟨1, false⟩ m_10, i64 (w64 (at_0 + 1))]))]
noncomputable abbrev G144_5 (at_0 x_1 x_2 : Int) (x_3 m_4 m_5 m_6 m_7 m_8 m_9 m_10 : List TV) : Nd := .go [1, 1, 1, 1, 0, 1, 2, 1, 4, 1, 4, 1, 4, 1, 4, 1, 4, 1, 4, 1] (EG144_5 at_0 x_1 x_2 x_3 m_4 m_5 m_6 m_7 m_8 m_9 m_10)
noncomputable def EG144_6 (at_0 x_1 x_2 : Int) (x_3 m_4 m_5 m_6 m_7 m_8 m_9 m_10 : List TV) : Env := [.ref 260 [] none 165 false, .un, .un, .val [] (i64 at_0), .val [] (.pt false () (.st [i64 x_1, i64 x_2, sl true ⟨1, false⟩ x_3]))] ++ uns 31 ++ [.val [] (i64 x_1)] ++ uns 114 ++ [.val [] (tb (x_1 == 17))] ++ uns 108 ++ [.val [] (.pt false () (.st [sl true ⟨3, true⟩ m_4, sl false ⟨1, false⟩ m_5, sl true ⟨1, false⟩ m_6, .st [sl false ⟨1, false⟩ m_7, sl false ⟨1, false⟩ m_8, sl false ⟨1, false⟩ m_9], sl false ⟨1, false⟩ m_10, i64 (w64 (at_0 + 1))]))]
noncomputable abbrev G144_6 (at_0 x_1 x_2 : Int) (x_3 m_4 m_5 m_6 m_7 m_8 m_9 m_10 : List TV) : Nd := .go [1, 1, 1, 1, 0, 1, 2, 1, 4, 1, 4, 1, 4, 1, 4, 1, 4, 1, 4, 1, 4, 1, 4, 1] (EG144_6 at_0 x_1 x_2 x_3 m_4 m_5 m_6 m_7 m_8 m_9 m_10)
noncomputable def EG144_7 (at_0 x_1 x_2 : Int) (x_3 m_4 m_5 m_6 m_7 m_8 m_9 m_10 : List TV) : Env := [.ref 260 [] none 165 false, .un, .un, .val [] (i64 at_0), .val [] (.pt false () (.st [i64 x_1, i64 x_2, sl true ⟨1, false⟩ x_3]))] ++ uns 31 ++ [.val [] (i64 x_1)] ++ uns 160 ++ [.val [] (tb (x_1 == 20))] ++ uns 62 ++ [.val [] (.pt false () (.st [sl true ⟨3, true⟩ m_4, sl false ⟨1, false⟩ m_5, sl true ⟨1, false⟩ m_6, .st [sl false ⟨1, false⟩ m_7, sl false ⟨1, false⟩ m_8, sl false ⟨1, false⟩ m_9], sl false ⟨1, false⟩ m_10, i64 (w64 (at_0 + 1))]))]
noncomputable abbrev G144_7 (at_0 x_1 x_2 : Int) (x_3 m_4 m_5 m_6 m_7 m_8 m_9 m_10 : List TV) : Nd := .go [1, 1, 1, 1, 0, 1, 2, 1, 4, 1, 4, 1, 4, 1, 4, 1, 4, 1, 4, 1, 4, 1, 4, 1, 4, 1, 4, 1] (EG144_7 at_0 x_1 x_2 x_3 m_4 m_5 m_6 m_7 m_8 m_9 m_10)
noncomputable def EG144_8 (at_0 x_1 x_2 : Int) (x_3 m_4 m_5 m_6 m_7 m_8 m_9 m_10 : List TV) : Env := [.ref 260 [] none 165 false, .un, .un, .val [] (i64 at_0), .val [] (.pt false () (.st [i64 x_1, i64 x_2, sl true ⟨1, false⟩ x_3]))] ++ uns 209 ++ [.val [] (tb (x_1 == 22))] ++ uns 45 ++ [.val [] (.pt false () (.st [sl true ⟨3, true⟩ m_4, sl false ⟨1, false⟩ m_5, sl true ⟨1, false⟩ m_6, .st [sl false ⟨1, false⟩ m_7, sl false ⟨1, false⟩ m_8, sl false ⟨1, false⟩ m_9], sl false ⟨1, false⟩ m_10, i64 (w64 (at_0 + 1))]))]
noncomputable abbrev G144_8 (at_0 x_1 x_2 : Int) (x_3 m_4 m_5 m_6 m_7 m_8 m_9 m_10 : List TV) : Nd := .go [1, 1, 1, 1, 0, 1, 2, 1, 4, 1, 4, 1, 4, 1, 4, 1, 4, 1, 4, 1, 4, 1, 4, 1, 4, 1, 4, 1, 4, 1, 4, 1] (EG144_8 at_0 x_1 x_2 x_3 m_4 m_5 m_6 m_7 m_8 m_9 m_10)
noncomputable def EG144_9 (at_0 x_1 x_2 : Int) (x_3 : List TV) (depth_4 : Int) (m_5 m_6 m_7 m_8 m_9 m_10 m_11 : List TV) : Env := [.ref 260 [] none 165 false, .un, .un, .val [] (i64 at_0), .val [] (.pt false () (.st [i64 x_1, i64 x_2, sl true ⟨1, false⟩ x_3]))] ++ uns 7 ++ [.val [] (i64 depth_4)] ++ uns 247 ++ [.val [] (.pt false () (.st [sl true ⟨3, true⟩ m_5, sl false ⟨1, false⟩ m_6, sl true ⟨1, false⟩ m_7, .st [sl false ⟨1, false⟩ m_8, sl false ⟨1, false⟩ m_9, sl false ⟨1, false⟩ m_10], sl false ⟨1, false⟩ m_11, i64 (w64 (at_0 + 1))]))]
noncomputable abbrev G144_9 (at_0 x_1 x_2 : Int) (x_3 : List TV) (depth_4 : Int) (m_5 m_6 m_7 m_8 m_9 m_10 m_11 : List TV) : Nd := .go [1, 1, 1, 1, 0, 1, 2, 1, 4, 1, 4, 1, 4, 1, 4, 1, 4, 1, 4, 1, 4, 1, 4, 1, 4, 1, 4, 1, 4, 1, 4, 1, 3, 1, 1, 1] (EG144_9 at_0 x_1 x_2 x_3 depth_4 m_5 m_6 m_7 m_8 m_9 m_10 m_11)
noncomputable def N144 (m_0 m_1 m_2 m_3 m_4 m_5 m_6 : List TV) (m_7 : Int) : Nd :=
 .ck (decide ((0 : Int) ≤ m_7) && decide (m_7 < ((m_0.length : Nat) : Int))) <|
 V3 (m_0.getD (0 + m_7.toNat) (.dead ())) fun op_79d0 n_2cad tables_d0f0 =>
 .bif ((op_79d0 == 1))
 (.ck (decide ((m_6.length + ([i64 n_2cad] : List TV).length) * 8 < lim)) <|
 G144_0 op_79d0 n_2cad tables_d0f0 m_0 m_1 m_2 m_3 m_4 m_5 (m_6 ++ ([i64 n_2cad])) (w64 (m_7 + 1)))
 (.bif ((op_79d0 == 2))
 (.ck (decide ((0 : Int) ≤ n_2cad) && decide (n_2cad < ((m_3.length : Nat) : Int))) <|
 .int .i64 (m_3.getD (0 + n_2cad.toNat) (.dead ())) fun x_80ef =>
 .ck (decide ((m_6.length + ([i64 x_80ef] : List TV).length) * 8 < lim)) <|
 G144_0 op_79d0 n_2cad tables_d0f0 m_0 m_1 m_2 m_3 m_4 m_5 (m_6 ++ ([i64 x_80ef])) (w64 (m_7 + 1)))
 (G144_1 m_7 op_79d0 n_2cad tables_d0f0 m_0 m_1 m_2 m_3 m_4 m_5 m_6))
theorem e144 {m_0 m_1 m_2 m_3 m_4 m_5 m_6 : List TV} {m_7 : Int} {r : Res} (h : S cx 144 (N144 m_0 m_1 m_2 m_3 m_4 m_5 m_6 m_7) = some r) : tw cx 144 [.pt false () (.st [sl true ⟨3, true⟩ m_0, sl false ⟨1, false⟩ m_1, sl true ⟨1, false⟩ m_2, .st [sl false ⟨1, false⟩ m_3, sl false ⟨1, false⟩ m_4, sl false ⟨1, false⟩ m_5], sl false ⟨1, false⟩ m_6, i64 m_7])] = some r :=
 tw_of (fun call hd hb pt rg => by kernel_rfl) h
noncomputable def NG144_0 (x_0 x_1 : Int) (x_2 m_3 m_4 m_5 m_6 m_7 m_8 m_9 : List TV) (m_10 : Int) : Nd :=
 C112 x_0 4 9 fun v_6cc8 =>
 .bif (v_6cc8)
 (.ck (decide ((0 : Int) ≤ w64 (((m_9.length : Nat) : Int) - 1)) && decide (w64 (((m_9.length : Nat) : Int) - 1) < ((m_9.length : Nat) : Int))) <|
 .int .i64 (m_9.getD (0 + (w64 (((m_9.length : Nat) : Int) - 1)).toNat) (.dead ())) fun x_c807 =>
 .ck (decide ((0 : Int) ≤ w64 (((m_9.length : Nat) : Int) - 1)) && decide (w64 (((m_9.length : Nat) : Int) - 1) ≤ ((m_9.length : Nat) : Int))) <|
 .ck (decide ((0 : Int) ≤ w64 (((((m_9.drop 0).take ((w64 (((m_9.length : Nat) : Int) - 1) - 0).toNat)).length : Nat) : Int) - 1)) && decide (w64 (((((m_9.drop 0).take ((w64 (((m_9.length : Nat) : Int) - 1) - 0).toNat)).length : Nat) : Int) - 1) < ((((m_9.drop 0).take ((w64 (((m_9.length : Nat) : Int) - 1) - 0).toNat)).length : Nat) : Int))) <|
 .int .i64 (((m_9.drop 0).take ((w64 (((m_9.length : Nat) : Int) - 1) - 0).toNat)).getD (0 + (w64 (((((m_9.drop 0).take ((w64 (((m_9.length : Nat) : Int) - 1) - 0).toNat)).length : Nat) : Int) - 1)).toNat) (.dead ())) fun x_d460 =>
 .ck (decide ((0 : Int) ≤ w64 (((((m_9.drop 0).take ((w64 (((m_9.length : Nat) : Int) - 1) - 0).toNat)).length : Nat) : Int) - 1)) && decide (w64 (((((m_9.drop 0).take ((w64 (((m_9.length : Nat) : Int) - 1) - 0).toNat)).length : Nat) : Int) - 1) ≤ ((((m_9.drop 0).take ((w64 (((m_9.length : Nat) : Int) - 1) - 0).toNat)).length : Nat) : Int))) <|
 C153 x_0 x_d460 x_c807 fun v_2630 v_da49 =>
 .ck (decide ((((((m_9.drop 0).take ((w64 (((m_9.length : Nat) : Int) - 1) - 0).toNat)).drop 0).take ((w64 (((((m_9.drop 0).take ((w64 (((m_9.length : Nat) : Int) - 1) - 0).toNat)).length : Nat) : Int) - 1) - 0).toNat)).length + ([i64 v_2630] : List TV).length) * 8 < lim)) <|
 .ret [tb v_da49] [.pt false () (.st [sl true ⟨3, true⟩ m_3, sl false ⟨1, false⟩ m_4, sl true ⟨1, false⟩ m_5, .st [sl false ⟨1, false⟩ m_6, sl false ⟨1, false⟩ m_7, sl false ⟨1, false⟩ m_8], sl false ⟨1, false⟩ (((((m_9.drop 0).take ((w64 (((m_9.length : Nat) : Int) - 1) - 0).toNat)).drop 0).take ((w64 (((((m_9.drop 0).take ((w64 (((m_9.length : Nat) : Int) - 1) - 0).toNat)).length : Nat) : Int) - 1) - 0).toNat)) ++ ([i64 v_2630])), i64 m_10])])
 (.ret [tb true] [.pt false () (.st [sl true ⟨3, true⟩ m_3, sl false ⟨1, false⟩ m_4, sl true ⟨1, false⟩ m_5, .st [sl false ⟨1, false⟩ m_6, sl false ⟨1, false⟩ m_7, sl false ⟨1, false⟩ m_8], sl false ⟨1, false⟩ m_9, i64 m_10])])
theorem eG144_0 {x_0 x_1 : Int} {x_2 m_3 m_4 m_5 m_6 m_7 m_8 m_9 : List TV} {m_10 : Int} {r : Res} (h : S cx 144 (NG144_0 x_0 x_1 x_2 m_3 m_4 m_5 m_6 m_7 m_8 m_9 m_10) = some r) : S cx 144 (G144_0 x_0 x_1 x_2 m_3 m_4 m_5 m_6 m_7 m_8 m_9 m_10) = some r :=
 pw_of (fun call hd hb pt rg => by kernel_rfl) h
noncomputable def NG144_1 (at_0 x_1 x_2 : Int) (x_3 m_4 m_5 m_6 m_7 m_8 m_9 m_10 : List TV) : Nd :=
 .bif ((x_1 == 3))
 (.ck (decide ((0 : Int) ≤ w64 (((m_10.length : Nat) : Int) - 1)) && decide (w64 (((m_10.length : Nat) : Int) - 1) < ((m_10.length : Nat) : Int))) <|
 .int .i64 (m_10.getD (0 + (w64 (((m_10.length : Nat) : Int) - 1)).toNat) (.dead ())) fun x_f886 =>
 .ck (decide ((0 : Int) ≤ w64 (((m_10.length : Nat) : Int) - 1)) && decide (w64 (((m_10.length : Nat) : Int) - 1) ≤ ((m_10.length : Nat) : Int))) <|
 .ck (decide ((0 : Int) ≤ x_2) && decide (x_2 < ((m_7.length : Nat) : Int))) <|
 G144_0 x_1 x_2 x_3 m_4 m_5 m_6 (m_7.set (0 + x_2.toNat) (i64 x_f886)) m_8 m_9 ((m_10.drop 0).take ((w64 (((m_10.length : Nat) : Int) - 1) - 0).toNat)) (w64 (at_0 + 1)))
 (G144_2 at_0 x_1 x_2 x_3 m_4 m_5 m_6 m_7 m_8 m_9 m_10)
theorem eG144_1 {at_0 x_1 x_2 : Int} {x_3 m_4 m_5 m_6 m_7 m_8 m_9 m_10 : List TV} {r : Res} (h : S cx 144 (NG144_1 at_0 x_1 x_2 x_3 m_4 m_5 m_6 m_7 m_8 m_9 m_10) = some r) : S cx 144 (G144_1 at_0 x_1 x_2 x_3 m_4 m_5 m_6 m_7 m_8 m_9 m_10) = some r :=
 pw_of (fun call hd hb pt rg => by kernel_rfl) h
noncomputable def NG144_2 (at_0 x_1 x_2 : Int) (x_3 m_4 m_5 m_6 m_7 m_8 m_9 m_10 : List TV) : Nd :=
 .bif ((x_1 == 10))
 (.ck (decide ((0 : Int) ≤ w64 (((m_10.length : Nat) : Int) - 1)) && decide (w64 (((m_10.length : Nat) : Int) - 1) < ((m_10.length : Nat) : Int))) <|
 .int .i64 (m_10.getD (0 + (w64 (((m_10.length : Nat) : Int) - 1)).toNat) (.dead ())) fun x_f886 =>
 .ck (decide ((0 : Int) ≤ w64 (((m_10.length : Nat) : Int) - 1)) && decide (w64 (((m_10.length : Nat) : Int) - 1) ≤ ((m_10.length : Nat) : Int))) <|
 .bif (decide (x_f886 ≥ 16))
 (.ret [tb false] [.pt false () (.st [sl true ⟨3, true⟩ m_4, sl false ⟨1, false⟩ m_5, sl true ⟨1, false⟩ m_6, .st [sl false ⟨1, false⟩ m_7, sl false ⟨1, false⟩ m_8, sl false ⟨1, false⟩ m_9], sl false ⟨1, false⟩ ((m_10.drop 0).take ((w64 (((m_10.length : Nat) : Int) - 1) - 0).toNat)), i64 (w64 (at_0 + 1))])])
 (.ck (decide ((0 : Int) ≤ x_f886) && decide (x_f886 < ((m_8.length : Nat) : Int))) <|
 .int .i64 (m_8.getD (0 + x_f886.toNat) (.dead ())) fun x_9d61 =>
 .ck (decide ((((m_10.drop 0).take ((w64 (((m_10.length : Nat) : Int) - 1) - 0).toNat)).length + ([i64 x_9d61] : List TV).length) * 8 < lim)) <|
 G144_0 x_1 x_2 x_3 m_4 m_5 m_6 m_7 m_8 m_9 (((m_10.drop 0).take ((w64 (((m_10.length : Nat) : Int) - 1) - 0).toNat)) ++ ([i64 x_9d61])) (w64 (at_0 + 1))))
 (G144_3 at_0 x_1 x_2 x_3 m_4 m_5 m_6 m_7 m_8 m_9 m_10)
theorem eG144_2 {at_0 x_1 x_2 : Int} {x_3 m_4 m_5 m_6 m_7 m_8 m_9 m_10 : List TV} {r : Res} (h : S cx 144 (NG144_2 at_0 x_1 x_2 x_3 m_4 m_5 m_6 m_7 m_8 m_9 m_10) = some r) : S cx 144 (G144_2 at_0 x_1 x_2 x_3 m_4 m_5 m_6 m_7 m_8 m_9 m_10) = some r :=
 pw_of (fun call hd hb pt rg => by kernel_rfl) h
noncomputable def NG144_3 (at_0 x_1 x_2 : Int) (x_3 m_4 m_5 m_6 m_7 m_8 m_9 m_10 : List TV) : Nd :=
 .bif ((x_1 == 11))
 (.ck (decide ((0 : Int) ≤ w64 (((m_10.length : Nat) : Int) - 1)) && decide (w64 (((m_10.length : Nat) : Int) - 1) < ((m_10.length : Nat) : Int))) <|
 .int .i64 (m_10.getD (0 + (w64 (((m_10.length : Nat) : Int) - 1)).toNat) (.dead ())) fun x_f886 =>
 .ck (decide ((0 : Int) ≤ w64 (((m_10.length : Nat) : Int) - 1)) && decide (w64 (((m_10.length : Nat) : Int) - 1) ≤ ((m_10.length : Nat) : Int))) <|
 .ck (decide ((0 : Int) ≤ w64 (((((m_10.drop 0).take ((w64 (((m_10.length : Nat) : Int) - 1) - 0).toNat)).length : Nat) : Int) - 1)) && decide (w64 (((((m_10.drop 0).take ((w64 (((m_10.length : Nat) : Int) - 1) - 0).toNat)).length : Nat) : Int) - 1) < ((((m_10.drop 0).take ((w64 (((m_10.length : Nat) : Int) - 1) - 0).toNat)).length : Nat) : Int))) <|
 .int .i64 (((m_10.drop 0).take ((w64 (((m_10.length : Nat) : Int) - 1) - 0).toNat)).getD (0 + (w64 (((((m_10.drop 0).take ((w64 (((m_10.length : Nat) : Int) - 1) - 0).toNat)).length : Nat) : Int) - 1)).toNat) (.dead ())) fun x_2177 =>
 .ck (decide ((0 : Int) ≤ w64 (((((m_10.drop 0).take ((w64 (((m_10.length : Nat) : Int) - 1) - 0).toNat)).length : Nat) : Int) - 1)) && decide (w64 (((((m_10.drop 0).take ((w64 (((m_10.length : Nat) : Int) - 1) - 0).toNat)).length : Nat) : Int) - 1) ≤ ((((m_10.drop 0).take ((w64 (((m_10.length : Nat) : Int) - 1) - 0).toNat)).length : Nat) : Int))) <|
 .bif (decide (x_2177 ≥ 16))
 (.ret [tb false] [.pt false () (.st [sl true ⟨3, true⟩ m_4, sl false ⟨1, false⟩ m_5, sl true ⟨1, false⟩ m_6, .st [sl false ⟨1, false⟩ m_7, sl false ⟨1, false⟩ m_8, sl false ⟨1, false⟩ m_9], sl false ⟨1, false⟩ ((((m_10.drop 0).take ((w64 (((m_10.length : Nat) : Int) - 1) - 0).toNat)).drop 0).take ((w64 (((((m_10.drop 0).take ((w64 (((m_10.length : Nat) : Int) - 1) - 0).toNat)).length : Nat) : Int) - 1) - 0).toNat)), i64 (w64 (at_0 + 1))])])
 (.ck (decide ((0 : Int) ≤ x_2177) && decide (x_2177 < ((m_8.length : Nat) : Int))) <|
 G144_0 x_1 x_2 x_3 m_4 m_5 m_6 m_7 (m_8.set (0 + x_2177.toNat) (i64 x_f886)) m_9 ((((m_10.drop 0).take ((w64 (((m_10.length : Nat) : Int) - 1) - 0).toNat)).drop 0).take ((w64 (((((m_10.drop 0).take ((w64 (((m_10.length : Nat) : Int) - 1) - 0).toNat)).length : Nat) : Int) - 1) - 0).toNat)) (w64 (at_0 + 1))))
 (G144_4 at_0 x_1 x_2 x_3 m_4 m_5 m_6 m_7 m_8 m_9 m_10)
theorem eG144_3 {at_0 x_1 x_2 : Int} {x_3 m_4 m_5 m_6 m_7 m_8 m_9 m_10 : List TV} {r : Res} (h : S cx 144 (NG144_3 at_0 x_1 x_2 x_3 m_4 m_5 m_6 m_7 m_8 m_9 m_10) = some r) : S cx 144 (G144_3 at_0 x_1 x_2 x_3 m_4 m_5 m_6 m_7 m_8 m_9 m_10) = some r :=
 pw_of (fun call hd hb pt rg => by kernel_rfl) h
noncomputable def NG144_4 (at_0 x_1 x_2 : Int) (x_3 m_4 m_5 m_6 m_7 m_8 m_9 m_10 : List TV) : Nd :=
 .bif ((x_1 == 12))
 (.bif ((((m_9.length : Nat) : Int) == 100))
 (.ret [tb false] [.pt false () (.st [sl true ⟨3, true⟩ m_4, sl false ⟨1, false⟩ m_5, sl true ⟨1, false⟩ m_6, .st [sl false ⟨1, false⟩ m_7, sl false ⟨1, false⟩ m_8, sl false ⟨1, false⟩ m_9], sl false ⟨1, false⟩ m_10, i64 (w64 (at_0 + 1))])])
 (.ck (decide ((0 : Int) ≤ w64 (((m_10.length : Nat) : Int) - 1)) && decide (w64 (((m_10.length : Nat) : Int) - 1) < ((m_10.length : Nat) : Int))) <|
 .int .i64 (m_10.getD (0 + (w64 (((m_10.length : Nat) : Int) - 1)).toNat) (.dead ())) fun x_f886 =>
 .ck (decide ((0 : Int) ≤ w64 (((m_10.length : Nat) : Int) - 1)) && decide (w64 (((m_10.length : Nat) : Int) - 1) ≤ ((m_10.length : Nat) : Int))) <|
 .ck (decide ((m_9.length + ([i64 x_f886] : List TV).length) * 8 < lim)) <|
 G144_0 x_1 x_2 x_3 m_4 m_5 m_6 m_7 m_8 (m_9 ++ ([i64 x_f886])) ((m_10.drop 0).take ((w64 (((m_10.length : Nat) : Int) - 1) - 0).toNat)) (w64 (at_0 + 1))))
 (G144_5 at_0 x_1 x_2 x_3 m_4 m_5 m_6 m_7 m_8 m_9 m_10)
theorem eG144_4 {at_0 x_1 x_2 : Int} {x_3 m_4 m_5 m_6 m_7 m_8 m_9 m_10 : List TV} {r : Res} (h : S cx 144 (NG144_4 at_0 x_1 x_2 x_3 m_4 m_5 m_6 m_7 m_8 m_9 m_10) = some r) : S cx 144 (G144_4 at_0 x_1 x_2 x_3 m_4 m_5 m_6 m_7 m_8 m_9 m_10) = some r :=
 pw_of (fun call hd hb pt rg => by kernel_rfl) h
noncomputable def NG144_5 (at_0 x_1 x_2 : Int) (x_3 m_4 m_5 m_6 m_7 m_8 m_9 m_10 : List TV) : Nd :=
 .bif ((x_1 == 13))
 (.ck (decide ((0 : Int) ≤ w64 (((m_10.length : Nat) : Int) - 1)) && decide (w64 (((m_10.length : Nat) : Int) - 1) < ((m_10.length : Nat) : Int))) <|
 .int .i64 (m_10.getD (0 + (w64 (((m_10.length : Nat) : Int) - 1)).toNat) (.dead ())) fun x_f886 =>
 .ck (decide ((0 : Int) ≤ w64 (((m_10.length : Nat) : Int) - 1)) && decide (w64 (((m_10.length : Nat) : Int) - 1) ≤ ((m_10.length : Nat) : Int))) <|
 G144_0 x_1 x_2 x_3 m_4 m_5 m_6 m_7 m_8 m_9 ((m_10.drop 0).take ((w64 (((m_10.length : Nat) : Int) - 1) - 0).toNat)) (w64 (at_0 + 1)))
 (.bif ((x_1 == 14))
 (.ret [tb false] [.pt false () (.st [sl true ⟨3, true⟩ m_4, sl false ⟨1, false⟩ m_5, sl true ⟨1, false⟩ m_6, .st [sl false ⟨1, false⟩ m_7, sl false ⟨1, false⟩ m_8, sl false ⟨1, false⟩ m_9], sl false ⟨1, false⟩ m_10, i64 (w64 (at_0 + 1))])])
 (G144_6 at_0 x_1 x_2 x_3 m_4 m_5 m_6 m_7 m_8 m_9 m_10))
theorem eG144_5 {at_0 x_1 x_2 : Int} {x_3 m_4 m_5 m_6 m_7 m_8 m_9 m_10 : List TV} {r : Res} (h : S cx 144 (NG144_5 at_0 x_1 x_2 x_3 m_4 m_5 m_6 m_7 m_8 m_9 m_10) = some r) : S cx 144 (G144_5 at_0 x_1 x_2 x_3 m_4 m_5 m_6 m_7 m_8 m_9 m_10) = some r :=
 pw_of (fun call hd hb pt rg => by kernel_rfl) h
noncomputable def NG144_6 (at_0 x_1 x_2 : Int) (x_3 m_4 m_5 m_6 m_7 m_8 m_9 m_10 : List TV) : Nd :=
 .bif ((x_1 == 17))
 (.ck (decide ((0 : Int) ≤ w64 (((m_10.length : Nat) : Int) - 1)) && decide (w64 (((m_10.length : Nat) : Int) - 1) < ((m_10.length : Nat) : Int))) <|
 .int .i64 (m_10.getD (0 + (w64 (((m_10.length : Nat) : Int) - 1)).toNat) (.dead ())) fun x_f886 =>
 .ck (decide ((0 : Int) ≤ w64 (((m_10.length : Nat) : Int) - 1)) && decide (w64 (((m_10.length : Nat) : Int) - 1) ≤ ((m_10.length : Nat) : Int))) <|
 .bif ((x_f886 == 0))
 (.ck (decide ((0 : Int) ≤ at_0) && decide (at_0 < ((m_5.length : Nat) : Int))) <|
 .int .i64 (m_5.getD (0 + at_0.toNat) (.dead ())) fun x_8df2 =>
 C174 m_4 m_5 at_0 fun v_0d3c =>
 .bif (decide (v_0d3c > 0))
 (G144_0 x_1 x_2 x_3 m_4 m_5 m_6 m_7 m_8 m_9 ((m_10.drop 0).take ((w64 (((m_10.length : Nat) : Int) - 1) - 0).toNat)) (w64 (v_0d3c + 1)))
 (G144_0 x_1 x_2 x_3 m_4 m_5 m_6 m_7 m_8 m_9 ((m_10.drop 0).take ((w64 (((m_10.length : Nat) : Int) - 1) - 0).toNat)) (w64 (x_8df2 + 1))))
 (G144_0 x_1 x_2 x_3 m_4 m_5 m_6 m_7 m_8 m_9 ((m_10.drop 0).take ((w64 (((m_10.length : Nat) : Int) - 1) - 0).toNat)) (w64 (at_0 + 1))))
 (.bif ((x_1 == 18))
 (.ck (decide ((0 : Int) ≤ at_0) && decide (at_0 < ((m_5.length : Nat) : Int))) <|
 .int .i64 (m_5.getD (0 + at_0.toNat) (.dead ())) fun x_8df2 =>
 G144_0 x_1 x_2 x_3 m_4 m_5 m_6 m_7 m_8 m_9 m_10 (w64 (x_8df2 + 1)))
 (G144_7 at_0 x_1 x_2 x_3 m_4 m_5 m_6 m_7 m_8 m_9 m_10))
theorem eG144_6 {at_0 x_1 x_2 : Int} {x_3 m_4 m_5 m_6 m_7 m_8 m_9 m_10 : List TV} {r : Res} (h : S cx 144 (NG144_6 at_0 x_1 x_2 x_3 m_4 m_5 m_6 m_7 m_8 m_9 m_10) = some r) : S cx 144 (G144_6 at_0 x_1 x_2 x_3 m_4 m_5 m_6 m_7 m_8 m_9 m_10) = some r :=
 pw_of (fun call hd hb pt rg => by kernel_rfl) h
noncomputable def NG144_7 (at_0 x_1 x_2 : Int) (x_3 m_4 m_5 m_6 m_7 m_8 m_9 m_10 : List TV) : Nd :=
 .bif ((x_1 == 20))
 (C175 m_4 m_5 m_6 m_7 m_8 m_9 m_10 (w64 (at_0 + 1)) at_0 x_2 fun ls_16eb endss_2125 heightss_3396 localss_301c mems_1246 tolds_f8d4 stacks_2fdb at_b19c =>
 G144_0 x_1 x_2 x_3 ls_16eb endss_2125 heightss_3396 localss_301c mems_1246 tolds_f8d4 stacks_2fdb at_b19c)
 (.bif ((x_1 == 21))
 (.ck (decide ((0 : Int) ≤ w64 (((m_10.length : Nat) : Int) - 1)) && decide (w64 (((m_10.length : Nat) : Int) - 1) < ((m_10.length : Nat) : Int))) <|
 .int .i64 (m_10.getD (0 + (w64 (((m_10.length : Nat) : Int) - 1)).toNat) (.dead ())) fun x_f886 =>
 .ck (decide ((0 : Int) ≤ w64 (((m_10.length : Nat) : Int) - 1)) && decide (w64 (((m_10.length : Nat) : Int) - 1) ≤ ((m_10.length : Nat) : Int))) <|
 .bif ((x_f886 != 0))
 (C175 m_4 m_5 m_6 m_7 m_8 m_9 ((m_10.drop 0).take ((w64 (((m_10.length : Nat) : Int) - 1) - 0).toNat)) (w64 (at_0 + 1)) at_0 x_2 fun ls_9f0e endss_d16e heightss_680a localss_72b2 mems_3131 tolds_82f0 stacks_9c40 at_7471 =>
 G144_0 x_1 x_2 x_3 ls_9f0e endss_d16e heightss_680a localss_72b2 mems_3131 tolds_82f0 stacks_9c40 at_7471)
 (G144_0 x_1 x_2 x_3 m_4 m_5 m_6 m_7 m_8 m_9 ((m_10.drop 0).take ((w64 (((m_10.length : Nat) : Int) - 1) - 0).toNat)) (w64 (at_0 + 1))))
 (G144_8 at_0 x_1 x_2 x_3 m_4 m_5 m_6 m_7 m_8 m_9 m_10))
theorem eG144_7 {at_0 x_1 x_2 : Int} {x_3 m_4 m_5 m_6 m_7 m_8 m_9 m_10 : List TV} {r : Res} (h : S cx 144 (NG144_7 at_0 x_1 x_2 x_3 m_4 m_5 m_6 m_7 m_8 m_9 m_10) = some r) : S cx 144 (G144_7 at_0 x_1 x_2 x_3 m_4 m_5 m_6 m_7 m_8 m_9 m_10) = some r :=
 pw_of (fun call hd hb pt rg => by kernel_rfl) h
noncomputable def NG144_8 (at_0 x_1 x_2 : Int) (x_3 m_4 m_5 m_6 m_7 m_8 m_9 m_10 : List TV) : Nd :=
 .bif ((x_1 == 22))
 (.ck (decide ((0 : Int) ≤ w64 (((m_10.length : Nat) : Int) - 1)) && decide (w64 (((m_10.length : Nat) : Int) - 1) < ((m_10.length : Nat) : Int))) <|
 .int .i64 (m_10.getD (0 + (w64 (((m_10.length : Nat) : Int) - 1)).toNat) (.dead ())) fun x_f886 =>
 .ck (decide ((0 : Int) ≤ w64 (((m_10.length : Nat) : Int) - 1)) && decide (w64 (((m_10.length : Nat) : Int) - 1) ≤ ((m_10.length : Nat) : Int))) <|
 .bif (decide (x_f886 < ((x_3.length : Nat) : Int)))
 (.ck (decide ((0 : Int) ≤ x_f886) && decide (x_f886 < ((x_3.length : Nat) : Int))) <|
 .int .i64 (x_3.getD (0 + x_f886.toNat) (.dead ())) fun x_6b51 =>
 G144_9 at_0 x_1 x_2 x_3 x_6b51 m_4 m_5 m_6 m_7 m_8 m_9 ((m_10.drop 0).take ((w64 (((m_10.length : Nat) : Int) - 1) - 0).toNat)))
 (G144_9 at_0 x_1 x_2 x_3 x_2 m_4 m_5 m_6 m_7 m_8 m_9 ((m_10.drop 0).take ((w64 (((m_10.length : Nat) : Int) - 1) - 0).toNat))))
 (G144_0 x_1 x_2 x_3 m_4 m_5 m_6 m_7 m_8 m_9 m_10 (w64 (at_0 + 1)))
theorem eG144_8 {at_0 x_1 x_2 : Int} {x_3 m_4 m_5 m_6 m_7 m_8 m_9 m_10 : List TV} {r : Res} (h : S cx 144 (NG144_8 at_0 x_1 x_2 x_3 m_4 m_5 m_6 m_7 m_8 m_9 m_10) = some r) : S cx 144 (G144_8 at_0 x_1 x_2 x_3 m_4 m_5 m_6 m_7 m_8 m_9 m_10) = some r :=
 pw_of (fun call hd hb pt rg => by kernel_rfl) h
noncomputable def NG144_9 (at_0 x_1 x_2 : Int) (x_3 : List TV) (depth_4 : Int) (m_5 m_6 m_7 m_8 m_9 m_10 m_11 : List TV) : Nd :=
 C175 m_5 m_6 m_7 m_8 m_9 m_10 m_11 (w64 (at_0 + 1)) at_0 depth_4 fun ls_9e24 endss_e486 heightss_a8b8 localss_3376 mems_6982 tolds_ce48 stacks_2a45 at_6b50 =>
 G144_0 x_1 x_2 x_3 ls_9e24 endss_e486 heightss_a8b8 localss_3376 mems_6982 tolds_ce48 stacks_2a45 at_6b50
theorem eG144_9 {at_0 x_1 x_2 : Int} {x_3 : List TV} {depth_4 : Int} {m_5 m_6 m_7 m_8 m_9 m_10 m_11 : List TV} {r : Res} (h : S cx 144 (NG144_9 at_0 x_1 x_2 x_3 depth_4 m_5 m_6 m_7 m_8 m_9 m_10 m_11) = some r) : S cx 144 (G144_9 at_0 x_1 x_2 x_3 depth_4 m_5 m_6 m_7 m_8 m_9 m_10 m_11) = some r :=
 pw_of (fun call hd hb pt rg => by kernel_rfl) h
noncomputable def N145 (l_0 : List TV) : Nd :=
 .call 176 [sl true ⟨3, true⟩ l_0] fun r_a8c6 =>
 .cons r_a8c6.1 fun t_a0ce ts_6998 =>
 .ptO t_a0ce (.nil ts_6998 <|
 .nil r_a8c6.2 <|
 .ret [tnil] []) fun p_b8c3 =>
 .st p_b8c3 fun ts_f794 =>
 .cons ts_f794 fun t_3d8e ts_8059 =>
 .ptO t_3d8e (.non) fun p_6fb4 =>
 V4 p_6fb4 fun ls_f0ac endss_53b0 others_88a2 opens_5ea6 =>
 .cons ts_8059 fun t_ae1d ts_474f =>
 .slO ⟨1, false⟩ t_ae1d fun heightss_1049 =>
 .cons ts_474f fun t_ddcf ts_409a =>
 .slO ⟨1, false⟩ t_ddcf fun deads_f48b =>
 .cons ts_409a fun t_9c01 ts_ff25 =>
 .slO ⟨1, false⟩ t_9c01 fun basess_febb =>
 .cons ts_ff25 fun t_8f86 ts_fccb =>
 .int .i64 t_8f86 fun code_c87d =>
 .cons ts_fccb fun t_04c6 ts_cb13 =>
 .int .i64 t_04c6 fun place_891e =>
 .nil ts_cb13 <|
 .nil ts_6998 <|
 .nil r_a8c6.2 <|
 .bif ((code_c87d != 0))
 (.ret [tnil] [])
 (.ret [.pt false () (.st [.pt false () (.st [sl true ⟨3, true⟩ ls_f0ac, sl false ⟨1, false⟩ endss_53b0, sl false ⟨1, false⟩ others_88a2, sl false ⟨1, true⟩ opens_5ea6]), sl false ⟨1, false⟩ heightss_1049, sl false ⟨1, false⟩ deads_f48b, sl false ⟨1, false⟩ basess_febb, i64 code_c87d, i64 place_891e])] [])
theorem e145 {l_0 : List TV} {r : Res} (h : S cx 145 (N145 l_0) = some r) : tw cx 145 [sl true ⟨3, true⟩ l_0] = some r :=
 tw_of (fun call hd hb pt rg => by kernel_rfl) h
noncomputable def EG146_0 (ok_14 : Bool) (r_0 r_1 r_2 r_3 r_4 r_5 r_6 : List TV) (r_7 r_8 : Int) (r_9 r_10 r_11 r_12 : List TV) (r_13 : Int) : Env := [.un, .un, .un, .un, .un, .val [] (tb ok_14)] ++ uns 138 ++ [.val [] (.pt false () (.st [.pt false () (.st [.pt false () (.st [sl true ⟨3, true⟩ r_0, sl false ⟨1, false⟩ r_1, sl false ⟨1, false⟩ r_2, sl false ⟨1, true⟩ r_3]), sl false ⟨1, false⟩ r_4, sl false ⟨1, false⟩ r_5, sl false ⟨1, false⟩ r_6, i64 r_7, i64 r_8]), .st [sl false ⟨1, false⟩ r_9, sl false ⟨1, false⟩ r_10, sl false ⟨1, false⟩ r_11], sl false ⟨1, false⟩ r_12, i64 r_13]))]
noncomputable abbrev G146_0 (ok_14 : Bool) (r_0 r_1 r_2 r_3 r_4 r_5 r_6 : List TV) (r_7 r_8 : Int) (r_9 r_10 r_11 r_12 : List TV) (r_13 : Int) : Nd := .go [1, 1, 1, 1, 1] (EG146_0 ok_14 r_0 r_1 r_2 r_3 r_4 r_5 r_6 r_7 r_8 r_9 r_10 r_11 r_12 r_13)
noncomputable def N146_s0 (r_0 r_1 r_2 r_3 r_4 r_5 r_6 : List TV) (r_7 r_8 : Int) (r_9 r_10 r_11 r_12 : List TV) (r_13 n_8350 : Int) : Nd :=
 .ck (decide ((0 : Int) ≤ w64 (((r_12.length : Nat) : Int) - 1)) && decide (w64 (((r_12.length : Nat) : Int) - 1) < ((r_12.length : Nat) : Int))) <|
 .int .i64 (r_12.getD (0 + (w64 (((r_12.length : Nat) : Int) - 1)).toNat) (.dead ())) fun x_9e62 =>
 .ck (decide ((0 : Int) ≤ w64 (((r_12.length : Nat) : Int) - 1)) && decide (w64 (((r_12.length : Nat) : Int) - 1) ≤ ((r_12.length : Nat) : Int))) <|
 .ck (decide ((0 : Int) ≤ n_8350) && decide (n_8350 < ((r_9.length : Nat) : Int))) <|
 G146_0 true r_0 r_1 r_2 r_3 r_4 r_5 r_6 r_7 r_8 (r_9.set (0 + n_8350.toNat) (i64 x_9e62)) r_10 r_11 ((r_12.drop 0).take ((w64 (((r_12.length : Nat) : Int) - 1) - 0).toNat)) (w64 (r_13 + 1))
noncomputable def N146_s1 (r_0 r_1 r_2 r_3 r_4 r_5 r_6 : List TV) (r_7 r_8 : Int) (r_9 r_10 r_11 r_12 : List TV) (r_13 n_8350 : Int) : Nd :=
 .amb2 
 (N146_s0 r_0 r_1 r_2 r_3 r_4 r_5 r_6 r_7 r_8 r_9 r_10 r_11 r_12 r_13 n_8350) 
 (N146_s0 r_0 r_1 r_2 r_3 r_4 r_5 r_6 r_7 r_8 r_9 r_10 r_11 r_12 r_13 n_8350)
noncomputable def N146_s2 (r_0 r_1 r_2 r_3 r_4 r_5 r_6 : List TV) (r_7 r_8 : Int) (r_9 r_10 r_11 r_12 : List TV) (r_13 op_9eda x_9e62 : Int) : Nd :=
 .ck (decide ((0 : Int) ≤ w64 (((((r_12.drop 0).take ((w64 (((r_12.length : Nat) : Int) - 1) - 0).toNat)).length : Nat) : Int) - 1)) && decide (w64 (((((r_12.drop 0).take ((w64 (((r_12.length : Nat) : Int) - 1) - 0).toNat)).length : Nat) : Int) - 1) < ((((r_12.drop 0).take ((w64 (((r_12.length : Nat) : Int) - 1) - 0).toNat)).length : Nat) : Int))) <|
 .int .i64 (((r_12.drop 0).take ((w64 (((r_12.length : Nat) : Int) - 1) - 0).toNat)).getD (0 + (w64 (((((r_12.drop 0).take ((w64 (((r_12.length : Nat) : Int) - 1) - 0).toNat)).length : Nat) : Int) - 1)).toNat) (.dead ())) fun x_99fe =>
 .ck (decide ((0 : Int) ≤ w64 (((((r_12.drop 0).take ((w64 (((r_12.length : Nat) : Int) - 1) - 0).toNat)).length : Nat) : Int) - 1)) && decide (w64 (((((r_12.drop 0).take ((w64 (((r_12.length : Nat) : Int) - 1) - 0).toNat)).length : Nat) : Int) - 1) ≤ ((((r_12.drop 0).take ((w64 (((r_12.length : Nat) : Int) - 1) - 0).toNat)).length : Nat) : Int))) <|
 C130 op_9eda x_99fe x_9e62 fun v_81a5 v_fc03 =>
 .ck (decide ((((((r_12.drop 0).take ((w64 (((r_12.length : Nat) : Int) - 1) - 0).toNat)).drop 0).take ((w64 (((((r_12.drop 0).take ((w64 (((r_12.length : Nat) : Int) - 1) - 0).toNat)).length : Nat) : Int) - 1) - 0).toNat)).length + ([i64 v_81a5] : List TV).length) * 8 < lim)) <|
 G146_0 v_fc03 r_0 r_1 r_2 r_3 r_4 r_5 r_6 r_7 r_8 r_9 r_10 r_11 (((((r_12.drop 0).take ((w64 (((r_12.length : Nat) : Int) - 1) - 0).toNat)).drop 0).take ((w64 (((((r_12.drop 0).take ((w64 (((r_12.length : Nat) : Int) - 1) - 0).toNat)).length : Nat) : Int) - 1) - 0).toNat)) ++ ([i64 v_81a5])) (w64 (r_13 + 1))
noncomputable def N146 (r_0 r_1 r_2 r_3 r_4 r_5 r_6 : List TV) (r_7 r_8 : Int) (r_9 r_10 r_11 r_12 : List TV) (r_13 : Int) : Nd :=
 .ck (decide ((0 : Int) ≤ r_13) && decide (r_13 < ((r_0.length : Nat) : Int))) <|
 V3 (r_0.getD (0 + r_13.toNat) (.dead ())) fun op_9eda n_8350 tables_73e6 =>
 .bif ((op_9eda == 1))
 (.ck (decide ((r_12.length + ([i64 n_8350] : List TV).length) * 8 < lim)) <|
 G146_0 true r_0 r_1 r_2 r_3 r_4 r_5 r_6 r_7 r_8 r_9 r_10 r_11 (r_12 ++ ([i64 n_8350])) (w64 (r_13 + 1)))
 (.bif ((op_9eda == 2))
 (.ck (decide ((0 : Int) ≤ n_8350) && decide (n_8350 < ((r_9.length : Nat) : Int))) <|
 .int .i64 (r_9.getD (0 + n_8350.toNat) (.dead ())) fun x_3e6c =>
 .ck (decide ((r_12.length + ([i64 x_3e6c] : List TV).length) * 8 < lim)) <|
 G146_0 true r_0 r_1 r_2 r_3 r_4 r_5 r_6 r_7 r_8 r_9 r_10 r_11 (r_12 ++ ([i64 x_3e6c])) (w64 (r_13 + 1)))
 (.bif ((op_9eda == 3))
 (.amb3 
 (N146_s1 r_0 r_1 r_2 r_3 r_4 r_5 r_6 r_7 r_8 r_9 r_10 r_11 r_12 r_13 n_8350) 
 (N146_s1 r_0 r_1 r_2 r_3 r_4 r_5 r_6 r_7 r_8 r_9 r_10 r_11 r_12 r_13 n_8350) 
 (N146_s0 r_0 r_1 r_2 r_3 r_4 r_5 r_6 r_7 r_8 r_9 r_10 r_11 r_12 r_13 n_8350))
 (C179 op_9eda fun v_de42 =>
 .bif (v_de42)
 (.ck (decide ((0 : Int) ≤ w64 (((r_12.length : Nat) : Int) - 1)) && decide (w64 (((r_12.length : Nat) : Int) - 1) < ((r_12.length : Nat) : Int))) <|
 .int .i64 (r_12.getD (0 + (w64 (((r_12.length : Nat) : Int) - 1)).toNat) (.dead ())) fun x_9e62 =>
 .ck (decide ((0 : Int) ≤ w64 (((r_12.length : Nat) : Int) - 1)) && decide (w64 (((r_12.length : Nat) : Int) - 1) ≤ ((r_12.length : Nat) : Int))) <|
 .amb2 
 (N146_s2 r_0 r_1 r_2 r_3 r_4 r_5 r_6 r_7 r_8 r_9 r_10 r_11 r_12 r_13 op_9eda x_9e62) 
 (N146_s2 r_0 r_1 r_2 r_3 r_4 r_5 r_6 r_7 r_8 r_9 r_10 r_11 r_12 r_13 op_9eda x_9e62))
 (.bif ((op_9eda == 10))
 (.ck (decide ((0 : Int) ≤ w64 (((r_12.length : Nat) : Int) - 1)) && decide (w64 (((r_12.length : Nat) : Int) - 1) < ((r_12.length : Nat) : Int))) <|
 .int .i64 (r_12.getD (0 + (w64 (((r_12.length : Nat) : Int) - 1)).toNat) (.dead ())) fun x_9e62 =>
 .ck (decide ((0 : Int) ≤ w64 (((r_12.length : Nat) : Int) - 1)) && decide (w64 (((r_12.length : Nat) : Int) - 1) ≤ ((r_12.length : Nat) : Int))) <|
 .bif (decide (x_9e62 ≥ 16))
 (.ck (decide ((((r_12.drop 0).take ((w64 (((r_12.length : Nat) : Int) - 1) - 0).toNat)).length + ([i64 0] : List TV).length) * 8 < lim)) <|
 G146_0 false r_0 r_1 r_2 r_3 r_4 r_5 r_6 r_7 r_8 r_9 r_10 r_11 (((r_12.drop 0).take ((w64 (((r_12.length : Nat) : Int) - 1) - 0).toNat)) ++ ([i64 0])) (w64 (r_13 + 1)))
 (.ck (decide ((0 : Int) ≤ x_9e62) && decide (x_9e62 < ((r_10.length : Nat) : Int))) <|
 .int .i64 (r_10.getD (0 + x_9e62.toNat) (.dead ())) fun x_52f2 =>
 .ck (decide ((((r_12.drop 0).take ((w64 (((r_12.length : Nat) : Int) - 1) - 0).toNat)).length + ([i64 x_52f2] : List TV).length) * 8 < lim)) <|
 G146_0 true r_0 r_1 r_2 r_3 r_4 r_5 r_6 r_7 r_8 r_9 r_10 r_11 (((r_12.drop 0).take ((w64 (((r_12.length : Nat) : Int) - 1) - 0).toNat)) ++ ([i64 x_52f2])) (w64 (r_13 + 1))))
 (.bif ((op_9eda == 11))
 (.ck (decide ((0 : Int) ≤ w64 (((r_12.length : Nat) : Int) - 1)) && decide (w64 (((r_12.length : Nat) : Int) - 1) < ((r_12.length : Nat) : Int))) <|
 .int .i64 (r_12.getD (0 + (w64 (((r_12.length : Nat) : Int) - 1)).toNat) (.dead ())) fun x_9e62 =>
 .ck (decide ((0 : Int) ≤ w64 (((r_12.length : Nat) : Int) - 1)) && decide (w64 (((r_12.length : Nat) : Int) - 1) ≤ ((r_12.length : Nat) : Int))) <|
 .ck (decide ((0 : Int) ≤ w64 (((((r_12.drop 0).take ((w64 (((r_12.length : Nat) : Int) - 1) - 0).toNat)).length : Nat) : Int) - 1)) && decide (w64 (((((r_12.drop 0).take ((w64 (((r_12.length : Nat) : Int) - 1) - 0).toNat)).length : Nat) : Int) - 1) < ((((r_12.drop 0).take ((w64 (((r_12.length : Nat) : Int) - 1) - 0).toNat)).length : Nat) : Int))) <|
 .int .i64 (((r_12.drop 0).take ((w64 (((r_12.length : Nat) : Int) - 1) - 0).toNat)).getD (0 + (w64 (((((r_12.drop 0).take ((w64 (((r_12.length : Nat) : Int) - 1) - 0).toNat)).length : Nat) : Int) - 1)).toNat) (.dead ())) fun x_99fe =>
 .ck (decide ((0 : Int) ≤ w64 (((((r_12.drop 0).take ((w64 (((r_12.length : Nat) : Int) - 1) - 0).toNat)).length : Nat) : Int) - 1)) && decide (w64 (((((r_12.drop 0).take ((w64 (((r_12.length : Nat) : Int) - 1) - 0).toNat)).length : Nat) : Int) - 1) ≤ ((((r_12.drop 0).take ((w64 (((r_12.length : Nat) : Int) - 1) - 0).toNat)).length : Nat) : Int))) <|
 .bif (decide (x_99fe ≥ 16))
 (G146_0 false r_0 r_1 r_2 r_3 r_4 r_5 r_6 r_7 r_8 r_9 r_10 r_11 ((((r_12.drop 0).take ((w64 (((r_12.length : Nat) : Int) - 1) - 0).toNat)).drop 0).take ((w64 (((((r_12.drop 0).take ((w64 (((r_12.length : Nat) : Int) - 1) - 0).toNat)).length : Nat) : Int) - 1) - 0).toNat)) (w64 (r_13 + 1)))
 (.ck (decide ((0 : Int) ≤ x_99fe) && decide (x_99fe < ((r_10.length : Nat) : Int))) <|
 G146_0 true r_0 r_1 r_2 r_3 r_4 r_5 r_6 r_7 r_8 r_9 (r_10.set (0 + x_99fe.toNat) (i64 x_9e62)) r_11 ((((r_12.drop 0).take ((w64 (((r_12.length : Nat) : Int) - 1) - 0).toNat)).drop 0).take ((w64 (((((r_12.drop 0).take ((w64 (((r_12.length : Nat) : Int) - 1) - 0).toNat)).length : Nat) : Int) - 1) - 0).toNat)) (w64 (r_13 + 1))))
 (.bif ((op_9eda == 12))
 (.ck (decide ((0 : Int) ≤ w64 (((r_12.length : Nat) : Int) - 1)) && decide (w64 (((r_12.length : Nat) : Int) - 1) < ((r_12.length : Nat) : Int))) <|
 .int .i64 (r_12.getD (0 + (w64 (((r_12.length : Nat) : Int) - 1)).toNat) (.dead ())) fun x_9e62 =>
 .ck (decide ((0 : Int) ≤ w64 (((r_12.length : Nat) : Int) - 1)) && decide (w64 (((r_12.length : Nat) : Int) - 1) ≤ ((r_12.length : Nat) : Int))) <|
 .bif ((((r_11.length : Nat) : Int) == 100))
 (G146_0 false r_0 r_1 r_2 r_3 r_4 r_5 r_6 r_7 r_8 r_9 r_10 r_11 ((r_12.drop 0).take ((w64 (((r_12.length : Nat) : Int) - 1) - 0).toNat)) (w64 (r_13 + 1)))
 (.ck (decide ((r_11.length + ([i64 x_9e62] : List TV).length) * 8 < lim)) <|
 G146_0 true r_0 r_1 r_2 r_3 r_4 r_5 r_6 r_7 r_8 r_9 r_10 (r_11 ++ ([i64 x_9e62])) ((r_12.drop 0).take ((w64 (((r_12.length : Nat) : Int) - 1) - 0).toNat)) (w64 (r_13 + 1))))
 (.bif ((op_9eda == 13))
 (.ck (decide ((0 : Int) ≤ w64 (((r_12.length : Nat) : Int) - 1)) && decide (w64 (((r_12.length : Nat) : Int) - 1) < ((r_12.length : Nat) : Int))) <|
 .int .i64 (r_12.getD (0 + (w64 (((r_12.length : Nat) : Int) - 1)).toNat) (.dead ())) fun x_9e62 =>
 .ck (decide ((0 : Int) ≤ w64 (((r_12.length : Nat) : Int) - 1)) && decide (w64 (((r_12.length : Nat) : Int) - 1) ≤ ((r_12.length : Nat) : Int))) <|
 G146_0 true r_0 r_1 r_2 r_3 r_4 r_5 r_6 r_7 r_8 r_9 r_10 r_11 ((r_12.drop 0).take ((w64 (((r_12.length : Nat) : Int) - 1) - 0).toNat)) (w64 (r_13 + 1)))
 (.bif ((op_9eda == 14))
 (G146_0 false r_0 r_1 r_2 r_3 r_4 r_5 r_6 r_7 r_8 r_9 r_10 r_11 r_12 (w64 (r_13 + 1)))
 (C180 r_0 r_1 r_2 r_3 r_4 r_5 r_6 r_7 r_8 r_9 r_10 r_11 r_12 (w64 (r_13 + 1)) r_13 op_9eda n_8350 tables_73e6 fun ls_9f0b endss_94fa others_ac60 opens_71d3 heightss_9140 deads_abbe basess_8da8 code_99ac place_646e localss_2ea0 mems_247c tolds_da01 stacks_7594 at_1296 =>
 G146_0 true ls_9f0b endss_94fa others_ac60 opens_71d3 heightss_9140 deads_abbe basess_8da8 code_99ac place_646e localss_2ea0 mems_247c tolds_da01 stacks_7594 at_1296)))))))))
theorem e146 {r_0 r_1 r_2 r_3 r_4 r_5 r_6 : List TV} {r_7 r_8 : Int} {r_9 r_10 r_11 r_12 : List TV} {r_13 : Int} {r : Res} (h : S cx 146 (N146 r_0 r_1 r_2 r_3 r_4 r_5 r_6 r_7 r_8 r_9 r_10 r_11 r_12 r_13) = some r) : tw cx 146 [.pt false () (.st [.pt false () (.st [.pt false () (.st [sl true ⟨3, true⟩ r_0, sl false ⟨1, false⟩ r_1, sl false ⟨1, false⟩ r_2, sl false ⟨1, true⟩ r_3]), sl false ⟨1, false⟩ r_4, sl false ⟨1, false⟩ r_5, sl false ⟨1, false⟩ r_6, i64 r_7, i64 r_8]), .st [sl false ⟨1, false⟩ r_9, sl false ⟨1, false⟩ r_10, sl false ⟨1, false⟩ r_11], sl false ⟨1, false⟩ r_12, i64 r_13])] = some r :=
 tw_of (fun call hd hb pt rg => by kernel_rfl) h
noncomputable def NG146_0 (ok_14 : Bool) (r_0 r_1 r_2 r_3 r_4 r_5 r_6 : List TV) (r_7 r_8 : Int) (r_9 r_10 r_11 r_12 : List TV) (r_13 : Int) : Nd :=
 .ret [tb ok_14] [.pt false () (.st [.pt false () (.st [.pt false () (.st [sl true ⟨3, true⟩ r_0, sl false ⟨1, false⟩ r_1, sl false ⟨1, false⟩ r_2, sl false ⟨1, true⟩ r_3]), sl false ⟨1, false⟩ r_4, sl false ⟨1, false⟩ r_5, sl false ⟨1, false⟩ r_6, i64 r_7, i64 r_8]), .st [sl false ⟨1, false⟩ r_9, sl false ⟨1, false⟩ r_10, sl false ⟨1, false⟩ r_11], sl false ⟨1, false⟩ r_12, i64 r_13])]
theorem eG146_0 {ok_14 : Bool} {r_0 r_1 r_2 r_3 r_4 r_5 r_6 : List TV} {r_7 r_8 : Int} {r_9 r_10 r_11 r_12 : List TV} {r_13 : Int} {r : Res} (h : S cx 146 (NG146_0 ok_14 r_0 r_1 r_2 r_3 r_4 r_5 r_6 r_7 r_8 r_9 r_10 r_11 r_12 r_13) = some r) : S cx 146 (G146_0 ok_14 r_0 r_1 r_2 r_3 r_4 r_5 r_6 r_7 r_8 r_9 r_10 r_11 r_12 r_13) = some r :=
 pw_of (fun call hd hb pt rg => by kernel_rfl) h
noncomputable def N153 (op_0 a_1 b_2 : Int) : Nd :=
 .bif ((op_0 == 4))
 (.ret [i64 (w64 (((BitVec.ofInt 64 (w64 (a_1 + b_2)) &&& BitVec.ofInt 64 65535).toNat : Int))), tb true] [])
 (.bif ((op_0 == 5))
 (.ret [i64 (w64 (((BitVec.ofInt 64 (w64 (a_1 - b_2)) &&& BitVec.ofInt 64 65535).toNat : Int))), tb true] [])
 (.bif ((op_0 == 6))
 (.ret [i64 (w64 (((BitVec.ofInt 64 (w64 (a_1 * b_2)) &&& BitVec.ofInt 64 65535).toNat : Int))), tb true] [])
 (.bif ((op_0 == 7))
 (.bif ((b_2 == 0))
 (.ret [i64 0, tb false] [])
 (.ck ((!(decide (b_2 = 0)))) <|
 .ret [i64 (w64 (a_1.tdiv b_2)), tb true] []))
 (.bif ((op_0 == 8))
 (C183 (decide (a_1 < b_2)) fun v_89d6 =>
 .ret [i64 v_89d6, tb true] [])
 (C183 (a_1 == b_2) fun v_600e =>
 .ret [i64 v_600e, tb true] [])))))
theorem e153 {op_0 a_1 b_2 : Int} {r : Res} (h : S cx 153 (N153 op_0 a_1 b_2) = some r) : tw cx 153 [i64 op_0, i64 a_1, i64 b_2] = some r :=
 tw_of (fun call hd hb pt rg => by kernel_rfl) h
noncomputable def N156 (s_0 : List TV) : Nd :=
 C184 s_0 fun v_8d8c =>
 .ret [tb (decide (v_8d8c ≥ 0))] []
theorem e156 {s_0 : List TV} {r : Res} (h : S cx 156 (N156 s_0) = some r) : tw cx 156 [sl true ⟨1, false⟩ s_0, .cl 158 []] = some r :=
 tw_of (fun call hd hb pt rg => by kernel_rfl) h
noncomputable def N156b (s_0 : List TV) : Nd :=
 C184_1 s_0 fun v_5ee8 =>
 .ret [tb (decide (v_5ee8 ≥ 0))] []
theorem e156b {s_0 : List TV} {r : Res} (h : S cx 156 (N156b s_0) = some r) : tw cx 156 [sl true ⟨1, false⟩ s_0, .cl 189 []] = some r :=
 tw_of (fun call hd hb pt rg => by kernel_rfl) h
noncomputable def N158 (n_0 : Int) : Nd :=
 C159 n_0 fun v_96ee =>
 .ret [tb (!v_96ee)] []
theorem e158 {n_0 : Int} {r : Res} (h : S cx 158 (N158 n_0) = some r) : tw cx 158 [i64 n_0] = some r :=
 tw_of (fun call hd hb pt rg => by kernel_rfl) h
noncomputable def N159 (n_0 : Int) : Nd :=
 C65 n_0 0 65535 fun v_d8a5 =>
 .ret [tb v_d8a5] []
theorem e159 {n_0 : Int} {r : Res} (h : S cx 159 (N159 n_0) = some r) : tw cx 159 [i64 n_0] = some r :=
 tw_of (fun call hd hb pt rg => by kernel_rfl) h
noncomputable def EH161_0 (x_0 x_1 : Int) (x_2 : List TV) (v_3 : Int) : Env := [.un, .val [] (.pt false () (.st [i64 x_0, i64 x_1, sl true ⟨1, false⟩ x_2]))] ++ uns 7 ++ [.val [] (sl true ⟨1, false⟩ x_2), .val [] (i64 ((x_2.length : Nat) : Int)), .val [] (i64 v_3)] ++ uns 48
noncomputable abbrev H161_0 (x_0 x_1 : Int) (x_2 : List TV) (v_3 : Int) : Nd := .head [1, 0, 1, 3, 0, 1, 2] (EH161_0 x_0 x_1 x_2 v_3)
noncomputable abbrev B161_0 (x_0 x_1 : Int) (x_2 : List TV) (v_3 : Int) : Nd := .back [1, 0, 1, 3, 0, 1, 2] (EH161_0 x_0 x_1 x_2 v_3)
noncomputable def EG161_1 (x_0 x_1 : Int) (x_2 : List TV) (v_3 : Bool) : Env := [.un, .val [] (.pt false () (.st [i64 x_0, i64 x_1, sl true ⟨1, false⟩ x_2]))] ++ uns 31 ++ [.val [] (i64 x_0), .un, .un, .un, .un, .un, .val [] (tb v_3)] ++ uns 20
noncomputable abbrev G161_1 (x_0 x_1 : Int) (x_2 : List TV) (v_3 : Bool) : Nd := .go [1, 1, 1, 0, 1, 2, 1, 4, 1] (EG161_1 x_0 x_1 x_2 v_3)
noncomputable def EG161_2 (x_0 x_1 : Int) (x_2 : List TV) (v_3 : Bool) : Env := [.un, .val [] (.pt false () (.st [i64 x_0, i64 x_1, sl true ⟨1, false⟩ x_2]))] ++ uns 43 ++ [.val [] (tb v_3)] ++ uns 14
noncomputable abbrev G161_2 (x_0 x_1 : Int) (x_2 : List TV) (v_3 : Bool) : Nd := .go [1, 1, 1, 0, 1, 2, 1, 4, 1, 4, 1] (EG161_2 x_0 x_1 x_2 v_3)
noncomputable def N161 (x_0 x_1 : Int) (x_2 : List TV) : Nd :=
 .bif ((x_0 == 22))
 (H161_0 x_0 x_1 x_2 0)
 (.bif (decide (((x_2.length : Nat) : Int) > 0))
 (.ret [tb false] [])
 (.bif ((x_0 == 1))
 (C112 x_1 0 65535 fun v_90a6 =>
 .ret [tb v_90a6] [])
 (.bif ((x_0 == 2))
 (G161_1 x_0 x_1 x_2 (x_0 == 2))
 (G161_1 x_0 x_1 x_2 (x_0 == 3)))))
theorem e161 {x_0 x_1 : Int} {x_2 : List TV} {r : Res} (h : S cx 161 (N161 x_0 x_1 x_2) = some r) : tw cx 161 [.st [i64 x_0, i64 x_1, sl true ⟨1, false⟩ x_2]] = some r :=
 tw_of (fun call hd hb pt rg => by kernel_rfl) h
noncomputable def NH161_0 (x_0 x_1 : Int) (x_2 : List TV) (v_3 : Int) : Nd :=
 .bif (decide (v_3 < ((x_2.length : Nat) : Int)))
 (.ck (decide ((0 : Int) ≤ v_3) && decide (v_3 < ((x_2.length : Nat) : Int))) <|
 .int .i64 (x_2.getD (0 + v_3.toNat) (.dead ())) fun x_933a =>
 C185 x_933a fun v_ab81 =>
 .bif ((!v_ab81))
 (.ret [tb false] [])
 (B161_0 x_0 x_1 x_2 (w64 (v_3 + 1))))
 (C185 x_1 fun v_40a0 =>
 .bif (v_40a0)
 (C112 ((x_2.length : Nat) : Int) 1 4 fun v_be45 =>
 .ret [tb v_be45] [])
 (.ret [tb false] []))
theorem eH161_0 {x_0 x_1 : Int} {x_2 : List TV} {v_3 : Int} {r : Res} (h : S cx 161 (NH161_0 x_0 x_1 x_2 v_3) = some r) : S cx 161 (H161_0 x_0 x_1 x_2 v_3) = some r :=
 hw_of (fun call hd hb pt rg => by kernel_rfl) h
noncomputable def NG161_1 (x_0 x_1 : Int) (x_2 : List TV) (v_3 : Bool) : Nd :=
 .bif (v_3)
 (C112 x_1 0 7 fun v_a75a =>
 .ret [tb v_a75a] [])
 (.bif ((x_0 == 20))
 (G161_2 x_0 x_1 x_2 (x_0 == 20))
 (G161_2 x_0 x_1 x_2 (x_0 == 21)))
theorem eG161_1 {x_0 x_1 : Int} {x_2 : List TV} {v_3 : Bool} {r : Res} (h : S cx 161 (NG161_1 x_0 x_1 x_2 v_3) = some r) : S cx 161 (G161_1 x_0 x_1 x_2 v_3) = some r :=
 pw_of (fun call hd hb pt rg => by kernel_rfl) h
noncomputable def NG161_2 (x_0 x_1 : Int) (x_2 : List TV) (v_3 : Bool) : Nd :=
 .bif (v_3)
 (C185 x_1 fun v_40a0 =>
 .ret [tb v_40a0] [])
 (C112 x_0 4 19 fun v_8a5f =>
 .bif (v_8a5f)
 (.ret [tb (x_1 == 0)] [])
 (.ret [tb false] []))
theorem eG161_2 {x_0 x_1 : Int} {x_2 : List TV} {v_3 : Bool} {r : Res} (h : S cx 161 (NG161_2 x_0 x_1 x_2 v_3) = some r) : S cx 161 (G161_2 x_0 x_1 x_2 v_3) = some r :=
 pw_of (fun call hd hb pt rg => by kernel_rfl) h
noncomputable def EH162_0 (open_0 x_1 x_2 : Int) (x_3 : List TV) (v_4 : Int) : Env := [.un, .val [] (i64 open_0), .val [] (.pt false () (.st [i64 x_1, i64 x_2, sl true ⟨1, false⟩ x_3])), .un, .un, .un, .un, .un, .val [] (sl true ⟨1, false⟩ x_3), .val [] (i64 ((x_3.length : Nat) : Int)), .val [] (i64 v_4)] ++ uns 18
noncomputable abbrev H162_0 (open_0 x_1 x_2 : Int) (x_3 : List TV) (v_4 : Int) : Nd := .head [1, 0, 1, 2] (EH162_0 open_0 x_1 x_2 x_3 v_4)
noncomputable abbrev B162_0 (open_0 x_1 x_2 : Int) (x_3 : List TV) (v_4 : Int) : Nd := .back [1, 0, 1, 2] (EH162_0 open_0 x_1 x_2 x_3 v_4)
noncomputable def N162 (x_0 x_1 : Int) (x_2 : List TV) (open_3 : Int) : Nd :=
 H162_0 open_3 x_0 x_1 x_2 0
theorem e162 {x_0 x_1 : Int} {x_2 : List TV} {open_3 : Int} {r : Res} (h : S cx 162 (N162 x_0 x_1 x_2 open_3) = some r) : tw cx 162 [.st [i64 x_0, i64 x_1, sl true ⟨1, false⟩ x_2], i64 open_3] = some r :=
 tw_of (fun call hd hb pt rg => by kernel_rfl) h
noncomputable def NH162_0 (open_0 x_1 x_2 : Int) (x_3 : List TV) (v_4 : Int) : Nd :=
 .bif (decide (v_4 < ((x_3.length : Nat) : Int)))
 (.ck (decide ((0 : Int) ≤ v_4) && decide (v_4 < ((x_3.length : Nat) : Int))) <|
 .int .i64 (x_3.getD (0 + v_4.toNat) (.dead ())) fun x_4c29 =>
 .bif (decide (x_4c29 > open_0))
 (.ret [tb false] [])
 (B162_0 open_0 x_1 x_2 x_3 (w64 (v_4 + 1))))
 (.bif (decide (x_1 < 20))
 (.ret [tb true] [])
 (.ret [tb (decide (x_2 ≤ open_0))] []))
theorem eH162_0 {open_0 x_1 x_2 : Int} {x_3 : List TV} {v_4 : Int} {r : Res} (h : S cx 162 (NH162_0 open_0 x_1 x_2 x_3 v_4) = some r) : S cx 162 (H162_0 open_0 x_1 x_2 x_3 v_4) = some r :=
 hw_of (fun call hd hb pt rg => by kernel_rfl) h
noncomputable def N163 (op_0 : Int) : Nd :=
 C112 op_0 15 17 fun v_f579 =>
 .ret [tb v_f579] []
theorem e163 {op_0 : Int} {r : Res} (h : S cx 163 (N163 op_0) = some r) : tw cx 163 [i64 op_0] = some r :=
 tw_of (fun call hd hb pt rg => by kernel_rfl) h
noncomputable def N166 (s_0 : List TV) : Nd :=
 C187 s_0 fun v_c21c =>
 .ret [tb (decide (v_c21c ≥ 0))] []
theorem e166 {s_0 : List TV} {r : Res} (h : S cx 166 (N166 s_0) = some r) : tw cx 166 [sl true ⟨3, true⟩ s_0, .cl 167 []] = some r :=
 tw_of (fun call hd hb pt rg => by kernel_rfl) h
noncomputable def N167 (x_0 x_1 : Int) (x_2 : List TV) : Nd :=
 C168 x_0 x_1 x_2 fun v_0cef =>
 .ret [tb (!v_0cef)] []
theorem e167 {x_0 x_1 : Int} {x_2 : List TV} {r : Res} (h : S cx 167 (N167 x_0 x_1 x_2) = some r) : tw cx 167 [.st [i64 x_0, i64 x_1, sl true ⟨1, false⟩ x_2]] = some r :=
 tw_of (fun call hd hb pt rg => by kernel_rfl) h
noncomputable def EG168_0 (x_0 x_1 : Int) (x_2 : List TV) (v_3 : Bool) : Env := [.un, .val [] (.pt false () (.st [i64 x_0, i64 x_1, sl true ⟨1, false⟩ x_2]))] ++ uns 24 ++ [.val [] (i64 x_0), .un, .un, .un, .un, .un, .val [] (tb v_3)] ++ uns 20
noncomputable abbrev G168_0 (x_0 x_1 : Int) (x_2 : List TV) (v_3 : Bool) : Nd := .go [1, 1, 1, 0, 1, 2, 1, 4, 1] (EG168_0 x_0 x_1 x_2 v_3)
noncomputable def EG168_1 (x_0 x_1 : Int) (x_2 : List TV) (v_3 : Bool) : Env := [.un, .val [] (.pt false () (.st [i64 x_0, i64 x_1, sl true ⟨1, false⟩ x_2]))] ++ uns 36 ++ [.val [] (tb v_3)] ++ uns 14
noncomputable abbrev G168_1 (x_0 x_1 : Int) (x_2 : List TV) (v_3 : Bool) : Nd := .go [1, 1, 1, 0, 1, 2, 1, 4, 1, 4, 1] (EG168_1 x_0 x_1 x_2 v_3)
noncomputable def N168 (x_0 x_1 : Int) (x_2 : List TV) : Nd :=
 .bif ((x_0 == 22))
 (C188 x_1 fun v_8e97 =>
 .bif (v_8e97)
 (C65 ((x_2.length : Nat) : Int) 1 4 fun v_cad2 =>
 .bif (v_cad2)
 (C156_1 x_2 fun v_2c8d =>
 .ret [tb (!v_2c8d)] [])
 (.ret [tb false] []))
 (.ret [tb false] []))
 (.bif (decide (((x_2.length : Nat) : Int) > 0))
 (.ret [tb false] [])
 (.bif ((x_0 == 1))
 (C65 x_1 0 65535 fun v_5055 =>
 .ret [tb v_5055] [])
 (.bif ((x_0 == 2))
 (G168_0 x_0 x_1 x_2 (x_0 == 2))
 (G168_0 x_0 x_1 x_2 (x_0 == 3)))))
theorem e168 {x_0 x_1 : Int} {x_2 : List TV} {r : Res} (h : S cx 168 (N168 x_0 x_1 x_2) = some r) : tw cx 168 [.st [i64 x_0, i64 x_1, sl true ⟨1, false⟩ x_2]] = some r :=
 tw_of (fun call hd hb pt rg => by kernel_rfl) h
noncomputable def NG168_0 (x_0 x_1 : Int) (x_2 : List TV) (v_3 : Bool) : Nd :=
 .bif (v_3)
 (C65 x_1 0 7 fun v_4719 =>
 .ret [tb v_4719] [])
 (.bif ((x_0 == 20))
 (G168_1 x_0 x_1 x_2 (x_0 == 20))
 (G168_1 x_0 x_1 x_2 (x_0 == 21)))
theorem eG168_0 {x_0 x_1 : Int} {x_2 : List TV} {v_3 : Bool} {r : Res} (h : S cx 168 (NG168_0 x_0 x_1 x_2 v_3) = some r) : S cx 168 (G168_0 x_0 x_1 x_2 v_3) = some r :=
 pw_of (fun call hd hb pt rg => by kernel_rfl) h
noncomputable def NG168_1 (x_0 x_1 : Int) (x_2 : List TV) (v_3 : Bool) : Nd :=
 .bif (v_3)
 (C188 x_1 fun v_8e97 =>
 .ret [tb v_8e97] [])
 (C65 x_0 1 22 fun v_151f =>
 .bif (v_151f)
 (.ret [tb (x_1 == 0)] [])
 (.ret [tb false] []))
theorem eG168_1 {x_0 x_1 : Int} {x_2 : List TV} {v_3 : Bool} {r : Res} (h : S cx 168 (NG168_1 x_0 x_1 x_2 v_3) = some r) : S cx 168 (G168_1 x_0 x_1 x_2 v_3) = some r :=
 pw_of (fun call hd hb pt rg => by kernel_rfl) h
noncomputable def EG169_0 (x_0 : List TV) (count_1 : Int) : Env := [.val [] (sl true ⟨1, false⟩ x_0), .val [] (i64 count_1)] ++ uns 48
noncomputable abbrev G169_0 (x_0 : List TV) (count_1 : Int) : Nd := .go [1, 1] (EG169_0 x_0 count_1)
noncomputable def EG169_1 (x_0 : List TV) (lo_1 : Int) : Env := [.val [] (sl true ⟨1, false⟩ x_0), .un, .un, .un, .un, .un, .val [] (.fl (.int .u64 lo_1))] ++ uns 43
noncomputable abbrev G169_1 (x_0 : List TV) (lo_1 : Int) : Nd := .go [1, 1, 1, 1] (EG169_1 x_0 lo_1)
noncomputable def EH169_2 (newslice_0 : List TV) (n_1 : Int) : Env := uns 7 ++ [.val [] (sl false ⟨1, false⟩ newslice_0), .val [] (i64 n_1)] ++ uns 41
noncomputable abbrev H169_2 (newslice_0 : List TV) (n_1 : Int) : Nd := .head [1, 1, 1, 1, 1, 1, 0, 2] (EH169_2 newslice_0 n_1)
noncomputable abbrev B169_2 (newslice_0 : List TV) (n_1 : Int) : Nd := .back [1, 1, 1, 1, 1, 1, 0, 2] (EH169_2 newslice_0 n_1)
noncomputable def N169 (x_0 : List TV) (count_1 : Int) : Nd :=
 .bif (decide (count_1 < 0))
 (.non)
 (G169_0 x_0 count_1)
theorem e169 {x_0 : List TV} {count_1 : Int} {r : Res} (h : S cx 169 (N169 x_0 count_1) = some r) : tw cx 169 [sl true ⟨1, false⟩ x_0, i64 count_1] = some r :=
 tw_of (fun call hd hb pt rg => by kernel_rfl) h
noncomputable def NG169_0 (x_0 : List TV) (count_1 : Int) : Nd :=
 C190 (IntKind.u64.wrap (((x_0.length : Nat) : Int))) (IntKind.u64.wrap (count_1)) fun v_e144 v_6030 =>
 .bif (decide (v_e144 > 0))
 (.non)
 (.bif (decide (v_6030 > 9223372036854775807))
 (.non)
 (G169_1 x_0 v_6030))
theorem eG169_0 {x_0 : List TV} {count_1 : Int} {r : Res} (h : S cx 169 (NG169_0 x_0 count_1) = some r) : S cx 169 (G169_0 x_0 count_1) = some r :=
 pw_of (fun call hd hb pt rg => by kernel_rfl) h
noncomputable def NG169_1 (x_0 : List TV) (lo_1 : Int) : Nd :=
 .ck (decide ((0 : Int) ≤ w64 (lo_1)) && decide (w64 (lo_1) ≤ w64 (lo_1)) && decide (w64 (lo_1) * 8 < (lim : Int)) && decide (w64 (lo_1) < 9223372036854775807) && true && true) <|
 H169_2 (cpyT (List.replicate ((w64 (lo_1)).toNat) (i64 0)) x_0) ((min x_0.length ((List.replicate ((w64 (lo_1)).toNat) (i64 0)).length) : Nat) : Int)
theorem eG169_1 {x_0 : List TV} {lo_1 : Int} {r : Res} (h : S cx 169 (NG169_1 x_0 lo_1) = some r) : S cx 169 (G169_1 x_0 lo_1) = some r :=
 pw_of (fun call hd hb pt rg => by kernel_rfl) h
noncomputable def NH169_2 (newslice_0 : List TV) (n_1 : Int) : Nd :=
 .bif (decide (n_1 < ((newslice_0.length : Nat) : Int)))
 (.ck (decide ((0 : Int) ≤ n_1) && decide (n_1 ≤ ((newslice_0.length : Nat) : Int)) && decide (((newslice_0.length : Nat) : Int) ≤ ((newslice_0.length : Nat) : Int))) <|
 .ck (decide ((0 : Int) ≤ n_1) && decide (n_1 ≤ ((newslice_0.length : Nat) : Int))) <|
 B169_2 (cpyS (some ((0 + n_1.toNat), (((newslice_0.length : Nat) : Int) - n_1).toNat)) newslice_0 ((newslice_0.drop 0).take ((n_1 - 0).toNat))) (w64 (n_1 + ((min (((newslice_0.drop 0).take ((n_1 - 0).toNat)).length) ((((newslice_0.length : Nat) : Int) - n_1).toNat) : Nat) : Int))))
 (.ret [sl false ⟨1, false⟩ newslice_0] [])
theorem eH169_2 {newslice_0 : List TV} {n_1 : Int} {r : Res} (h : S cx 169 (NH169_2 newslice_0 n_1) = some r) : S cx 169 (H169_2 newslice_0 n_1) = some r :=
 hw_of (fun call hd hb pt rg => by kernel_rfl) h
noncomputable def EG170_0 (x_0 x_1 : Int) (x_2 : List TV) (v_3 : Bool) : Env := [.un, .val [] (.pt false () (.st [i64 x_0, i64 x_1, sl true ⟨1, false⟩ x_2])), .un, .un, .val [] (i64 x_0), .val [] (tb v_3)] ++ uns 13
noncomputable abbrev G170_0 (x_0 x_1 : Int) (x_2 : List TV) (v_3 : Bool) : Nd := .go [1, 0, 1, 2, 1] (EG170_0 x_0 x_1 x_2 v_3)
noncomputable def N170 (x_0 x_1 : Int) (x_2 : List TV) : Nd :=
 .bif ((x_0 == 20))
 (G170_0 x_0 x_1 x_2 (x_0 == 20))
 (G170_0 x_0 x_1 x_2 (x_0 == 21))
theorem e170 {x_0 x_1 : Int} {x_2 : List TV} {r : Res} (h : S cx 170 (N170 x_0 x_1 x_2) = some r) : tw cx 170 [.st [i64 x_0, i64 x_1, sl true ⟨1, false⟩ x_2]] = some r :=
 tw_of (fun call hd hb pt rg => by kernel_rfl) h
noncomputable def NG170_0_s0 (x_1 : Int) (x_2 : List TV) : Nd :=
 C191 x_2 fun v_4e97 =>
 .ret [i64 (if v_4e97 > x_1 then v_4e97 else x_1)] []
noncomputable def NG170_0 (x_0 x_1 : Int) (x_2 : List TV) (v_3 : Bool) : Nd :=
 .bif (v_3)
 (.ret [i64 x_1] [])
 (.bif ((x_0 == 22))
 (.amb2 
 (NG170_0_s0 x_1 x_2) 
 (NG170_0_s0 x_1 x_2))
 (.ret [i64 (-1)] []))
theorem eG170_0 {x_0 x_1 : Int} {x_2 : List TV} {v_3 : Bool} {r : Res} (h : S cx 170 (NG170_0 x_0 x_1 x_2 v_3) = some r) : S cx 170 (G170_0 x_0 x_1 x_2 v_3) = some r :=
 pw_of (fun call hd hb pt rg => by kernel_rfl) h
noncomputable def N171 (op_0 : Int) : Nd :=
 .bif ((op_0 == 15))
 (.ret [tb true] [])
 (.bif ((op_0 == 16))
 (.ret [tb true] [])
 (.ret [tb (op_0 == 17)] []))
theorem e171 {op_0 : Int} {r : Res} (h : S cx 171 (N171 op_0) = some r) : tw cx 171 [i64 op_0] = some r :=
 tw_of (fun call hd hb pt rg => by kernel_rfl) h
noncomputable def EG172_0 (op_0 : Int) (v_1 : Bool) : Env := [.val [] (i64 op_0), .un, .un, .un, .val [] (tb v_1)] ++ uns 24
noncomputable abbrev G172_0 (op_0 : Int) (v_1 : Bool) : Nd := .go [1, 0, 2, 1] (EG172_0 op_0 v_1)
noncomputable def EG172_1 (v_0 : Bool) : Env := uns 21 ++ [.val [] (tb v_0)] ++ uns 7
noncomputable abbrev G172_1 (v_0 : Bool) : Nd := .go [1, 1, 0, 1, 2, 1] (EG172_1 v_0)
noncomputable def N172 (op_0 : Int) : Nd :=
 .bif ((op_0 == 1))
 (G172_0 op_0 true)
 (G172_0 op_0 (op_0 == 2))
theorem e172 {op_0 : Int} {r : Res} (h : S cx 172 (N172 op_0) = some r) : tw cx 172 [i64 op_0] = some r :=
 tw_of (fun call hd hb pt rg => by kernel_rfl) h
noncomputable def NG172_0 (op_0 : Int) (v_1 : Bool) : Nd :=
 .bif (v_1)
 (.ret [i64 0, i64 1] [])
 (C112 op_0 4 9 fun v_422e =>
 .bif (v_422e)
 (.ret [i64 2, i64 1] [])
 (.bif ((op_0 == 10))
 (.ret [i64 1, i64 1] [])
 (.bif ((op_0 == 11))
 (.ret [i64 2, i64 0] [])
 (.bif ((op_0 == 3))
 (G172_1 (op_0 == 3))
 (.bif ((op_0 == 12))
 (G172_1 (op_0 == 12))
 (.bif ((op_0 == 13))
 (G172_1 (op_0 == 13))
 (.bif ((op_0 == 17))
 (G172_1 (op_0 == 17))
 (.bif ((op_0 == 21))
 (G172_1 (op_0 == 21))
 (G172_1 (op_0 == 22))))))))))
theorem eG172_0 {op_0 : Int} {v_1 : Bool} {r : Res} (h : S cx 172 (NG172_0 op_0 v_1) = some r) : S cx 172 (G172_0 op_0 v_1) = some r :=
 pw_of (fun call hd hb pt rg => by kernel_rfl) h
noncomputable def NG172_1 (v_0 : Bool) : Nd :=
 .bif (v_0)
 (.ret [i64 1, i64 0] [])
 (.ret [i64 0, i64 0] [])
theorem eG172_1 {v_0 : Bool} {r : Res} (h : S cx 172 (NG172_1 v_0) = some r) : S cx 172 (G172_1 v_0) = some r :=
 pw_of (fun call hd hb pt rg => by kernel_rfl) h
noncomputable def EH174_0 (l_0 ends_1 : List TV) (at_2 k_3 : Int) : Env := [.val [] (sl true ⟨3, true⟩ l_0), .val [] (sl true ⟨1, false⟩ ends_1), .val [] (i64 at_2), .un, .un, .un, .un, .val [] (i64 k_3)] ++ uns 31
noncomputable abbrev H174_0 (l_0 ends_1 : List TV) (at_2 k_3 : Int) : Nd := .head [1, 0, 1, 2] (EH174_0 l_0 ends_1 at_2 k_3)
noncomputable abbrev B174_0 (l_0 ends_1 : List TV) (at_2 k_3 : Int) : Nd := .back [1, 0, 1, 2] (EH174_0 l_0 ends_1 at_2 k_3)
noncomputable def N174 (l_0 ends_1 : List TV) (at_2 : Int) : Nd :=
 H174_0 l_0 ends_1 at_2 (w64 (at_2 + 1))
theorem e174 {l_0 ends_1 : List TV} {at_2 : Int} {r : Res} (h : S cx 174 (N174 l_0 ends_1 at_2) = some r) : tw cx 174 [sl true ⟨3, true⟩ l_0, sl true ⟨1, false⟩ ends_1, i64 at_2] = some r :=
 tw_of (fun call hd hb pt rg => by kernel_rfl) h
noncomputable def NH174_0 (l_0 ends_1 : List TV) (at_2 k_3 : Int) : Nd :=
 .ck (decide ((0 : Int) ≤ at_2) && decide (at_2 < ((ends_1.length : Nat) : Int))) <|
 .int .i64 (ends_1.getD (0 + at_2.toNat) (.dead ())) fun x_9364 =>
 .bif (decide (k_3 < x_9364))
 (.ck (decide ((0 : Int) ≤ k_3) && decide (k_3 < ((l_0.length : Nat) : Int))) <|
 V3 (l_0.getD (0 + k_3.toNat) (.dead ())) fun op_55a6 n_8dd5 tables_ab0d =>
 .bif ((op_55a6 == 18))
 (.ck (decide ((0 : Int) ≤ k_3) && decide (k_3 < ((ends_1.length : Nat) : Int))) <|
 .int .i64 (ends_1.getD (0 + k_3.toNat) (.dead ())) fun x_2d65 =>
 .ck (decide ((0 : Int) ≤ at_2) && decide (at_2 < ((ends_1.length : Nat) : Int))) <|
 .int .i64 (ends_1.getD (0 + at_2.toNat) (.dead ())) fun x_9364_2 =>
 .bif ((x_2d65 == x_9364_2))
 (.ret [i64 k_3] [])
 (B174_0 l_0 ends_1 at_2 (w64 (k_3 + 1))))
 (B174_0 l_0 ends_1 at_2 (w64 (k_3 + 1))))
 (.ret [i64 0] [])
theorem eH174_0 {l_0 ends_1 : List TV} {at_2 k_3 : Int} {r : Res} (h : S cx 174 (NH174_0 l_0 ends_1 at_2 k_3) = some r) : S cx 174 (H174_0 l_0 ends_1 at_2 k_3) = some r :=
 hw_of (fun call hd hb pt rg => by kernel_rfl) h
noncomputable def N175 (m_0 m_1 m_2 m_3 m_4 m_5 m_6 : List TV) (m_7 at_8 depth_9 : Int) : Nd :=
 C192 m_0 m_1 at_8 depth_9 fun v_f009 =>
 .ck (decide ((0 : Int) ≤ v_f009) && decide (v_f009 < ((m_2.length : Nat) : Int))) <|
 .int .i64 (m_2.getD (0 + v_f009.toNat) (.dead ())) fun x_751d =>
 .ck (decide ((0 : Int) ≤ x_751d) && decide (x_751d ≤ ((m_6.length : Nat) : Int))) <|
 .ret [] [.pt false () (.st [sl true ⟨3, true⟩ m_0, sl false ⟨1, false⟩ m_1, sl true ⟨1, false⟩ m_2, .st [sl false ⟨1, false⟩ m_3, sl false ⟨1, false⟩ m_4, sl false ⟨1, false⟩ m_5], sl false ⟨1, false⟩ ((m_6.drop 0).take ((x_751d - 0).toNat)), i64 v_f009])]
theorem e175 {m_0 m_1 m_2 m_3 m_4 m_5 m_6 : List TV} {m_7 at_8 depth_9 : Int} {r : Res} (h : S cx 175 (N175 m_0 m_1 m_2 m_3 m_4 m_5 m_6 m_7 at_8 depth_9) = some r) : tw cx 175 [.pt false () (.st [sl true ⟨3, true⟩ m_0, sl false ⟨1, false⟩ m_1, sl true ⟨1, false⟩ m_2, .st [sl false ⟨1, false⟩ m_3, sl false ⟨1, false⟩ m_4, sl false ⟨1, false⟩ m_5], sl false ⟨1, false⟩ m_6, i64 m_7]), i64 at_8, i64 depth_9] = some r :=
 tw_of (fun call hd hb pt rg => by kernel_rfl) h
end Go.Tree.M
