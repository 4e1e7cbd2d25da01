/- The functions that the law reaches, told as points of a program, second part. Conditions: none. -/
import Derived.Test.YtfjmogpgccnccaaGreatMqa
/- Trees of values: program points of functions. -/
namespace Go.Tree.Q
open Go.Proofs
set_option linter.unusedVariables false
set_option maxRecDepth 20000
noncomputable def EG94_0 (a : List TV) (b : Int) : Env := [.un, w0 a b] ++ uns 65
noncomputable abbrev G94_0 (a : List TV) (b : Int) : Nd := .go [1, 1] (EG94_0 a b)
noncomputable def ER94_1 (a : List TV) (b : Int) : Env := [.un, w0 a b] ++ uns 15 ++ [w5 a b, .un, .un, .un, w7, .un, .un, w7] ++ uns 42
noncomputable abbrev R94_1 (a : List TV) (b : Int) : Nd := .rg [1, 1, 0] [true, false, false, false, true, false, false, true, false, false, false, false, false] (ER94_1 a b)
noncomputable def ER94_2 (a : List TV) (b : Int) : Env := [.un, w0 a b] ++ uns 16 ++ [w5 a b, .un, .un, w7, .un, .un, w7] ++ uns 42
noncomputable abbrev R94_2 (a : List TV) (b : Int) : Nd := .rg [1, 1, 0] [false, true, false, false, true, false, false, true, false, false, false, false, false] (ER94_2 a b)
noncomputable def ER94_3 (a : List TV) (b : Int) : Env := [.un, w0 a b] ++ uns 18 ++ [w11, w7, .un, .un, w7] ++ uns 42
noncomputable abbrev R94_3 (a : List TV) (b : Int) : Nd := .rg [1, 1, 0] [false, false, false, true, true, false, false, true, false, false, false, false, false] (ER94_3 a b)
noncomputable def ER94_4 (b : List TV) (a : Int) : Env := [.un, w0 b a] ++ uns 19 ++ [w7, w6 a, .un, w7] ++ uns 42
noncomputable abbrev R94_4 (a : List TV) (b : Int) : Nd := .rg [1, 1, 0] [false, false, false, false, true, true, false, true, false, false, false, false, false] (ER94_4 a b)
noncomputable def ER94_5 (b : List TV) (a : Int) : Env := [.un, w0 b a] ++ uns 19 ++ [w7, .un, .un, w7, w6 a] ++ uns 41
noncomputable abbrev R94_5 (a : List TV) (b : Int) : Nd := .rg [1, 1, 0] [false, false, false, false, true, false, false, true, true, false, false, false, false] (ER94_5 a b)
noncomputable def ER94_6 (a : List TV) (b : Int) : Env := [.un, w0 a b] ++ uns 15 ++ [w5 a b, w5 a b, .un, .un, w7, .un, .un, w7] ++ uns 42
noncomputable abbrev R94_6 (a : List TV) (b : Int) : Nd := .rg [1, 1, 0] [true, true, false, false, true, false, false, true, false, false, false, false, false] (ER94_6 a b)
noncomputable def ER94_7 (a : List TV) (b : Int) : Env := [.un, w0 a b] ++ uns 15 ++ [w5 a b, .un, .un, w11, w7, .un, .un, w7] ++ uns 42
noncomputable abbrev R94_7 (a : List TV) (b : Int) : Nd := .rg [1, 1, 0] [true, false, false, true, true, false, false, true, false, false, false, false, false] (ER94_7 a b)
noncomputable def ER94_8 (b : List TV) (a : Int) : Env := [.un, w0 b a] ++ uns 15 ++ [w5 b a, .un, .un, .un, w7, w6 a, .un, w7] ++ uns 42
noncomputable abbrev R94_8 (a : List TV) (b : Int) : Nd := .rg [1, 1, 0] [true, false, false, false, true, true, false, true, false, false, false, false, false] (ER94_8 a b)
noncomputable def ER94_9 (b : List TV) (a : Int) : Env := [.un, w0 b a] ++ uns 15 ++ [w5 b a, .un, .un, .un, w7, .un, .un, w7, w6 a] ++ uns 41
noncomputable abbrev R94_9 (a : List TV) (b : Int) : Nd := .rg [1, 1, 0] [true, false, false, false, true, false, false, true, true, false, false, false, false] (ER94_9 a b)
noncomputable def ER94_10 (a : List TV) (b : Int) (c : List TV) : Env := [.un, w0 a b] ++ uns 16 ++ [w5 a b, w18 c, .un, w7, .un, .un, w7] ++ uns 42
noncomputable abbrev R94_10 (a : List TV) (b : Int) (c : List TV) : Nd := .rg [1, 1, 0] [false, true, true, false, true, false, false, true, false, false, false, false, false] (ER94_10 a b c)
noncomputable def ER94_11 (a : List TV) (b : Int) : Env := [.un, w0 a b] ++ uns 16 ++ [w5 a b, .un, w11, w7, .un, .un, w7] ++ uns 42
noncomputable abbrev R94_11 (a : List TV) (b : Int) : Nd := .rg [1, 1, 0] [false, true, false, true, true, false, false, true, false, false, false, false, false] (ER94_11 a b)
noncomputable def ER94_12 (b : List TV) (a : Int) : Env := [.un, w0 b a] ++ uns 16 ++ [w5 b a, .un, .un, w7, w6 a, .un, w7] ++ uns 42
noncomputable abbrev R94_12 (a : List TV) (b : Int) : Nd := .rg [1, 1, 0] [false, true, false, false, true, true, false, true, false, false, false, false, false] (ER94_12 a b)
noncomputable def ER94_13 (b : List TV) (a : Int) : Env := [.un, w0 b a] ++ uns 16 ++ [w5 b a, .un, .un, w7, .un, .un, w7, w6 a] ++ uns 41
noncomputable abbrev R94_13 (a : List TV) (b : Int) : Nd := .rg [1, 1, 0] [false, true, false, false, true, false, false, true, true, false, false, false, false] (ER94_13 a b)
noncomputable def ER94_14 (b : List TV) (a : Int) : Env := [.un, w0 b a] ++ uns 18 ++ [w11, w7, w6 a, .un, w7] ++ uns 42
noncomputable abbrev R94_14 (a : List TV) (b : Int) : Nd := .rg [1, 1, 0] [false, false, false, true, true, true, false, true, false, false, false, false, false] (ER94_14 a b)
noncomputable def ER94_15 (b : List TV) (a : Int) : Env := [.un, w0 b a] ++ uns 18 ++ [w11, w7, .un, .un, w7, w6 a] ++ uns 41
noncomputable abbrev R94_15 (a : List TV) (b : Int) : Nd := .rg [1, 1, 0] [false, false, false, true, true, false, false, true, true, false, false, false, false] (ER94_15 a b)
noncomputable def ER94_16 (b : List TV) (a : Int) : Env := [.un, w0 b a] ++ uns 19 ++ [w7, w6 a, .un, w7, w6 a] ++ uns 41
noncomputable abbrev R94_16 (a : List TV) (b : Int) : Nd := .rg [1, 1, 0] [false, false, false, false, true, true, false, true, true, false, false, false, false] (ER94_16 a b)
noncomputable def ER94_17 (b : List TV) (a : Int) : Env := [.un, w0 b a] ++ uns 19 ++ [w7, .un, .un, w7, w6 a, w12 a] ++ uns 40
noncomputable abbrev R94_17 (a : List TV) (b : Int) : Nd := .rg [1, 1, 0] [false, false, false, false, true, false, false, true, true, true, false, false, false] (ER94_17 a b)
noncomputable def ER94_18 (a : List TV) (b : Int) (c : List TV) : Env := [.un, w0 a b] ++ uns 15 ++ [w5 a b, w5 a b, w18 c, .un, w7, .un, .un, w7] ++ uns 42
noncomputable abbrev R94_18 (a : List TV) (b : Int) (c : List TV) : Nd := .rg [1, 1, 0] [true, true, true, false, true, false, false, true, false, false, false, false, false] (ER94_18 a b c)
noncomputable def ER94_19 (a : List TV) (b : Int) : Env := [.un, w0 a b] ++ uns 15 ++ [w5 a b, w5 a b, .un, w11, w7, .un, .un, w7] ++ uns 42
noncomputable abbrev R94_19 (a : List TV) (b : Int) : Nd := .rg [1, 1, 0] [true, true, false, true, true, false, false, true, false, false, false, false, false] (ER94_19 a b)
noncomputable def ER94_20 (b : List TV) (a : Int) : Env := [.un, w0 b a] ++ uns 15 ++ [w5 b a, w5 b a, .un, .un, w7, w6 a, .un, w7] ++ uns 42
noncomputable abbrev R94_20 (a : List TV) (b : Int) : Nd := .rg [1, 1, 0] [true, true, false, false, true, true, false, true, false, false, false, false, false] (ER94_20 a b)
noncomputable def ER94_21 (b : List TV) (a : Int) : Env := [.un, w0 b a] ++ uns 15 ++ [w5 b a, w5 b a, .un, .un, w7, .un, .un, w7, w6 a] ++ uns 41
noncomputable abbrev R94_21 (a : List TV) (b : Int) : Nd := .rg [1, 1, 0] [true, true, false, false, true, false, false, true, true, false, false, false, false] (ER94_21 a b)
noncomputable def ER94_22 (b : List TV) (a : Int) : Env := [.un, w0 b a] ++ uns 15 ++ [w5 b a, .un, .un, w11, w7, w6 a, .un, w7] ++ uns 42
noncomputable abbrev R94_22 (a : List TV) (b : Int) : Nd := .rg [1, 1, 0] [true, false, false, true, true, true, false, true, false, false, false, false, false] (ER94_22 a b)
noncomputable def ER94_23 (b : List TV) (a : Int) : Env := [.un, w0 b a] ++ uns 15 ++ [w5 b a, .un, .un, w11, w7, .un, .un, w7, w6 a] ++ uns 41
noncomputable abbrev R94_23 (a : List TV) (b : Int) : Nd := .rg [1, 1, 0] [true, false, false, true, true, false, false, true, true, false, false, false, false] (ER94_23 a b)
noncomputable def ER94_24 (b : List TV) (a : Int) : Env := [.un, w0 b a] ++ uns 15 ++ [w5 b a, .un, .un, .un, w7, w6 a, .un, w7, w6 a] ++ uns 41
noncomputable abbrev R94_24 (a : List TV) (b : Int) : Nd := .rg [1, 1, 0] [true, false, false, false, true, true, false, true, true, false, false, false, false] (ER94_24 a b)
noncomputable def ER94_25 (b : List TV) (a : Int) : Env := [.un, w0 b a] ++ uns 15 ++ [w5 b a, .un, .un, .un, w7, .un, .un, w7, w6 a, w12 a] ++ uns 40
noncomputable abbrev R94_25 (a : List TV) (b : Int) : Nd := .rg [1, 1, 0] [true, false, false, false, true, false, false, true, true, true, false, false, false] (ER94_25 a b)
noncomputable def ER94_26 (a : List TV) (b : Int) (c : List TV) : Env := [.un, w0 a b] ++ uns 16 ++ [w5 a b, w18 c, w11, w7, .un, .un, w7] ++ uns 42
noncomputable abbrev R94_26 (a : List TV) (b : Int) (c : List TV) : Nd := .rg [1, 1, 0] [false, true, true, true, true, false, false, true, false, false, false, false, false] (ER94_26 a b c)
noncomputable def ER94_27 (b : List TV) (a : Int) (c : List TV) : Env := [.un, w0 b a] ++ uns 16 ++ [w5 b a, w18 c, .un, w7, w6 a, .un, w7] ++ uns 42
noncomputable abbrev R94_27 (a : List TV) (b : Int) (c : List TV) : Nd := .rg [1, 1, 0] [false, true, true, false, true, true, false, true, false, false, false, false, false] (ER94_27 a b c)
noncomputable def ER94_28 (b : List TV) (a : Int) (c : List TV) : Env := [.un, w0 b a] ++ uns 16 ++ [w5 b a, w18 c, .un, w7, .un, .un, w7, w6 a] ++ uns 41
noncomputable abbrev R94_28 (a : List TV) (b : Int) (c : List TV) : Nd := .rg [1, 1, 0] [false, true, true, false, true, false, false, true, true, false, false, false, false] (ER94_28 a b c)
noncomputable def ER94_29 (b : List TV) (a : Int) : Env := [.un, w0 b a] ++ uns 16 ++ [w5 b a, .un, w11, w7, w6 a, .un, w7] ++ uns 42
noncomputable abbrev R94_29 (a : List TV) (b : Int) : Nd := .rg [1, 1, 0] [false, true, false, true, true, true, false, true, false, false, false, false, false] (ER94_29 a b)
noncomputable def ER94_30 (b : List TV) (a : Int) : Env := [.un, w0 b a] ++ uns 16 ++ [w5 b a, .un, w11, w7, .un, .un, w7, w6 a] ++ uns 41
noncomputable abbrev R94_30 (a : List TV) (b : Int) : Nd := .rg [1, 1, 0] [false, true, false, true, true, false, false, true, true, false, false, false, false] (ER94_30 a b)
noncomputable def ER94_31 (b : List TV) (a : Int) : Env := [.un, w0 b a] ++ uns 16 ++ [w5 b a, .un, .un, w7, w6 a, .un, w7, w6 a] ++ uns 41
noncomputable abbrev R94_31 (a : List TV) (b : Int) : Nd := .rg [1, 1, 0] [false, true, false, false, true, true, false, true, true, false, false, false, false] (ER94_31 a b)
noncomputable def ER94_32 (b : List TV) (a : Int) : Env := [.un, w0 b a] ++ uns 16 ++ [w5 b a, .un, .un, w7, .un, .un, w7, w6 a, w12 a] ++ uns 40
noncomputable abbrev R94_32 (a : List TV) (b : Int) : Nd := .rg [1, 1, 0] [false, true, false, false, true, false, false, true, true, true, false, false, false] (ER94_32 a b)
noncomputable def ER94_33 (b : List TV) (a : Int) : Env := [.un, w0 b a] ++ uns 18 ++ [w11, w7, w6 a, .un, w7, w6 a] ++ uns 41
noncomputable abbrev R94_33 (a : List TV) (b : Int) : Nd := .rg [1, 1, 0] [false, false, false, true, true, true, false, true, true, false, false, false, false] (ER94_33 a b)
noncomputable def ER94_34 (b : List TV) (a : Int) : Env := [.un, w0 b a] ++ uns 18 ++ [w11, w7, .un, .un, w7, w6 a, w12 a] ++ uns 40
noncomputable abbrev R94_34 (a : List TV) (b : Int) : Nd := .rg [1, 1, 0] [false, false, false, true, true, false, false, true, true, true, false, false, false] (ER94_34 a b)
noncomputable def ER94_35 (b : List TV) (a : Int) : Env := [.un, w0 b a] ++ uns 19 ++ [w7, w6 a, .un, w7, w6 a, w12 a] ++ uns 40
noncomputable abbrev R94_35 (a : List TV) (b : Int) : Nd := .rg [1, 1, 0] [false, false, false, false, true, true, false, true, true, true, false, false, false] (ER94_35 a b)
noncomputable def ER94_36 (b : List TV) (a : Int) : Env := [.un, w0 b a] ++ uns 15 ++ [w5 b a, w5 b a, .un, .un, w7, .un, .un, w7, w6 a, w12 a] ++ uns 40
noncomputable abbrev R94_36 (a : List TV) (b : Int) : Nd := .rg [1, 1, 0] [true, true, false, false, true, false, false, true, true, true, false, false, false] (ER94_36 a b)
noncomputable def ER94_37 (b : List TV) (a : Int) (c : List TV) : Env := [.un, w0 b a] ++ uns 16 ++ [w5 b a, w18 c, .un, w7, .un, .un, w7, w6 a, w12 a] ++ uns 40
noncomputable abbrev R94_37 (a : List TV) (b : Int) (c : List TV) : Nd := .rg [1, 1, 0] [false, true, true, false, true, false, false, true, true, true, false, false, false] (ER94_37 a b c)
noncomputable def ER94_38 (b : List TV) (a : Int) : Env := [.un, w0 b a] ++ uns 16 ++ [w5 b a, .un, w11, w7, .un, .un, w7, w6 a, w12 a] ++ uns 40
noncomputable abbrev R94_38 (a : List TV) (b : Int) : Nd := .rg [1, 1, 0] [false, true, false, true, true, false, false, true, true, true, false, false, false] (ER94_38 a b)
noncomputable def ER94_39 (b : List TV) (a : Int) : Env := [.un, w0 b a] ++ uns 16 ++ [w5 b a, .un, .un, w7, w6 a, .un, w7, w6 a, w12 a] ++ uns 40
noncomputable abbrev R94_39 (a : List TV) (b : Int) : Nd := .rg [1, 1, 0] [false, true, false, false, true, true, false, true, true, true, false, false, false] (ER94_39 a b)
noncomputable def ER94_40 (a : List TV) (b : Int) (c : List TV) : Env := [.un, w0 a b] ++ uns 15 ++ [w5 a b, w5 a b, w18 c, w11, w7, .un, .un, w7] ++ uns 42
noncomputable abbrev R94_40 (a : List TV) (b : Int) (c : List TV) : Nd := .rg [1, 1, 0] [true, true, true, true, true, false, false, true, false, false, false, false, false] (ER94_40 a b c)
noncomputable def ER94_41 (b : List TV) (a : Int) (c : List TV) : Env := [.un, w0 b a] ++ uns 15 ++ [w5 b a, w5 b a, w18 c, .un, w7, w6 a, .un, w7] ++ uns 42
noncomputable abbrev R94_41 (a : List TV) (b : Int) (c : List TV) : Nd := .rg [1, 1, 0] [true, true, true, false, true, true, false, true, false, false, false, false, false] (ER94_41 a b c)
noncomputable def ER94_42 (b : List TV) (a : Int) (c : List TV) : Env := [.un, w0 b a] ++ uns 15 ++ [w5 b a, w5 b a, w18 c, .un, w7, .un, .un, w7, w6 a] ++ uns 41
noncomputable abbrev R94_42 (a : List TV) (b : Int) (c : List TV) : Nd := .rg [1, 1, 0] [true, true, true, false, true, false, false, true, true, false, false, false, false] (ER94_42 a b c)
noncomputable def ER94_43 (b : List TV) (a : Int) : Env := [.un, w0 b a] ++ uns 15 ++ [w5 b a, w5 b a, .un, w11, w7, w6 a, .un, w7] ++ uns 42
noncomputable abbrev R94_43 (a : List TV) (b : Int) : Nd := .rg [1, 1, 0] [true, true, false, true, true, true, false, true, false, false, false, false, false] (ER94_43 a b)
noncomputable def ER94_44 (b : List TV) (a : Int) : Env := [.un, w0 b a] ++ uns 15 ++ [w5 b a, w5 b a, .un, w11, w7, .un, .un, w7, w6 a] ++ uns 41
noncomputable abbrev R94_44 (a : List TV) (b : Int) : Nd := .rg [1, 1, 0] [true, true, false, true, true, false, false, true, true, false, false, false, false] (ER94_44 a b)
noncomputable def ER94_45 (b : List TV) (a : Int) : Env := [.un, w0 b a] ++ uns 15 ++ [w5 b a, w5 b a, .un, .un, w7, w6 a, .un, w7, w6 a] ++ uns 41
noncomputable abbrev R94_45 (a : List TV) (b : Int) : Nd := .rg [1, 1, 0] [true, true, false, false, true, true, false, true, true, false, false, false, false] (ER94_45 a b)
noncomputable def ER94_46 (b : List TV) (a : Int) : Env := [.un, w0 b a] ++ uns 15 ++ [w5 b a, .un, .un, w11, w7, w6 a, .un, w7, w6 a] ++ uns 41
noncomputable abbrev R94_46 (a : List TV) (b : Int) : Nd := .rg [1, 1, 0] [true, false, false, true, true, true, false, true, true, false, false, false, false] (ER94_46 a b)
noncomputable def ER94_47 (b : List TV) (a : Int) : Env := [.un, w0 b a] ++ uns 15 ++ [w5 b a, .un, .un, w11, w7, .un, .un, w7, w6 a, w12 a] ++ uns 40
noncomputable abbrev R94_47 (a : List TV) (b : Int) : Nd := .rg [1, 1, 0] [true, false, false, true, true, false, false, true, true, true, false, false, false] (ER94_47 a b)
noncomputable def ER94_48 (b : List TV) (a : Int) : Env := [.un, w0 b a] ++ uns 15 ++ [w5 b a, .un, .un, .un, w7, w6 a, .un, w7, w6 a, w12 a] ++ uns 40
noncomputable abbrev R94_48 (a : List TV) (b : Int) : Nd := .rg [1, 1, 0] [true, false, false, false, true, true, false, true, true, true, false, false, false] (ER94_48 a b)
noncomputable def ER94_49 (b : List TV) (a : Int) (c : List TV) : Env := [.un, w0 b a] ++ uns 15 ++ [w5 b a, w5 b a, w18 c, .un, w7, .un, .un, w7, w6 a, w12 a] ++ uns 40
noncomputable abbrev R94_49 (a : List TV) (b : Int) (c : List TV) : Nd := .rg [1, 1, 0] [true, true, true, false, true, false, false, true, true, true, false, false, false] (ER94_49 a b c)
noncomputable def ER94_50 (b : List TV) (a : Int) : Env := [.un, w0 b a] ++ uns 15 ++ [w5 b a, w5 b a, .un, w11, w7, .un, .un, w7, w6 a, w12 a] ++ uns 40
noncomputable abbrev R94_50 (a : List TV) (b : Int) : Nd := .rg [1, 1, 0] [true, true, false, true, true, false, false, true, true, true, false, false, false] (ER94_50 a b)
noncomputable def ER94_51 (b : List TV) (a : Int) : Env := [.un, w0 b a] ++ uns 15 ++ [w5 b a, w5 b a, .un, .un, w7, w6 a, .un, w7, w6 a, w12 a] ++ uns 40
noncomputable abbrev R94_51 (a : List TV) (b : Int) : Nd := .rg [1, 1, 0] [true, true, false, false, true, true, false, true, true, true, false, false, false] (ER94_51 a b)
noncomputable def ER94_52 (b : List TV) (a : Int) (c : List TV) : Env := [.un, w0 b a] ++ uns 16 ++ [w5 b a, w18 c, w11, w7, w6 a, .un, w7] ++ uns 42
noncomputable abbrev R94_52 (a : List TV) (b : Int) (c : List TV) : Nd := .rg [1, 1, 0] [false, true, true, true, true, true, false, true, false, false, false, false, false] (ER94_52 a b c)
noncomputable def ER94_53 (b : List TV) (a : Int) (c : List TV) : Env := [.un, w0 b a] ++ uns 16 ++ [w5 b a, w18 c, w11, w7, .un, .un, w7, w6 a] ++ uns 41
noncomputable abbrev R94_53 (a : List TV) (b : Int) (c : List TV) : Nd := .rg [1, 1, 0] [false, true, true, true, true, false, false, true, true, false, false, false, false] (ER94_53 a b c)
noncomputable def ER94_54 (b : List TV) (a : Int) (c : List TV) : Env := [.un, w0 b a] ++ uns 16 ++ [w5 b a, w18 c, .un, w7, w6 a, .un, w7, w6 a] ++ uns 41
noncomputable abbrev R94_54 (a : List TV) (b : Int) (c : List TV) : Nd := .rg [1, 1, 0] [false, true, true, false, true, true, false, true, true, false, false, false, false] (ER94_54 a b c)
noncomputable def ER94_55 (b : List TV) (a : Int) : Env := [.un, w0 b a] ++ uns 16 ++ [w5 b a, .un, w11, w7, w6 a, .un, w7, w6 a] ++ uns 41
noncomputable abbrev R94_55 (a : List TV) (b : Int) : Nd := .rg [1, 1, 0] [false, true, false, true, true, true, false, true, true, false, false, false, false] (ER94_55 a b)
noncomputable def ER94_56 (b : List TV) (a : Int) : Env := [.un, w0 b a] ++ uns 18 ++ [w11, w7, w6 a, .un, w7, w6 a, w12 a] ++ uns 40
noncomputable abbrev R94_56 (a : List TV) (b : Int) : Nd := .rg [1, 1, 0] [false, false, false, true, true, true, false, true, true, true, false, false, false] (ER94_56 a b)
noncomputable def ER94_57 (b : List TV) (a : Int) (c : List TV) : Env := [.un, w0 b a] ++ uns 16 ++ [w5 b a, w18 c, w11, w7, .un, .un, w7, w6 a, w12 a] ++ uns 40
noncomputable abbrev R94_57 (a : List TV) (b : Int) (c : List TV) : Nd := .rg [1, 1, 0] [false, true, true, true, true, false, false, true, true, true, false, false, false] (ER94_57 a b c)
noncomputable def ER94_58 (b : List TV) (a : Int) : Env := [.un, w0 b a] ++ uns 16 ++ [w5 b a, .un, w11, w7, w6 a, .un, w7, w6 a, w12 a] ++ uns 40
noncomputable abbrev R94_58 (a : List TV) (b : Int) : Nd := .rg [1, 1, 0] [false, true, false, true, true, true, false, true, true, true, false, false, false] (ER94_58 a b)
noncomputable def ER94_59 (b : List TV) (a : Int) (c : List TV) : Env := [.un, w0 b a] ++ uns 16 ++ [w5 b a, w18 c, .un, w7, w6 a, .un, w7, w6 a, w12 a] ++ uns 40
noncomputable abbrev R94_59 (a : List TV) (b : Int) (c : List TV) : Nd := .rg [1, 1, 0] [false, true, true, false, true, true, false, true, true, true, false, false, false] (ER94_59 a b c)
noncomputable def ER94_60 (b : List TV) (a : Int) (c : List TV) : Env := [.un, w0 b a] ++ uns 15 ++ [w5 b a, w5 b a, w18 c, .un, w7, w6 a, .un, w7, w6 a, w12 a] ++ uns 40
noncomputable abbrev R94_60 (a : List TV) (b : Int) (c : List TV) : Nd := .rg [1, 1, 0] [true, true, true, false, true, true, false, true, true, true, false, false, false] (ER94_60 a b c)
noncomputable def ER94_61 (b : List TV) (a : Int) (c : List TV) : Env := [.un, w0 b a] ++ uns 16 ++ [w5 b a, w18 c, w11, w7, w6 a, .un, w7, w6 a, w12 a] ++ uns 40
noncomputable abbrev R94_61 (a : List TV) (b : Int) (c : List TV) : Nd := .rg [1, 1, 0] [false, true, true, true, true, true, false, true, true, true, false, false, false] (ER94_61 a b c)
noncomputable def ER94_62 (b : List TV) (a : Int) (c : List TV) : Env := [.un, w0 b a] ++ uns 15 ++ [w5 b a, w5 b a, w18 c, w11, w7, w6 a, .un, w7] ++ uns 42
noncomputable abbrev R94_62 (a : List TV) (b : Int) (c : List TV) : Nd := .rg [1, 1, 0] [true, true, true, true, true, true, false, true, false, false, false, false, false] (ER94_62 a b c)
noncomputable def ER94_63 (b : List TV) (a : Int) (c : List TV) : Env := [.un, w0 b a] ++ uns 15 ++ [w5 b a, w5 b a, w18 c, w11, w7, .un, .un, w7, w6 a] ++ uns 41
noncomputable abbrev R94_63 (a : List TV) (b : Int) (c : List TV) : Nd := .rg [1, 1, 0] [true, true, true, true, true, false, false, true, true, false, false, false, false] (ER94_63 a b c)
noncomputable def ER94_64 (b : List TV) (a : Int) (c : List TV) : Env := [.un, w0 b a] ++ uns 15 ++ [w5 b a, w5 b a, w18 c, .un, w7, w6 a, .un, w7, w6 a] ++ uns 41
noncomputable abbrev R94_64 (a : List TV) (b : Int) (c : List TV) : Nd := .rg [1, 1, 0] [true, true, true, false, true, true, false, true, true, false, false, false, false] (ER94_64 a b c)
noncomputable def ER94_65 (b : List TV) (a : Int) : Env := [.un, w0 b a] ++ uns 15 ++ [w5 b a, w5 b a, .un, w11, w7, w6 a, .un, w7, w6 a] ++ uns 41
noncomputable abbrev R94_65 (a : List TV) (b : Int) : Nd := .rg [1, 1, 0] [true, true, false, true, true, true, false, true, true, false, false, false, false] (ER94_65 a b)
noncomputable def ER94_66 (b : List TV) (a : Int) : Env := [.un, w0 b a] ++ uns 15 ++ [w5 b a, .un, .un, w11, w7, w6 a, .un, w7, w6 a, w12 a] ++ uns 40
noncomputable abbrev R94_66 (a : List TV) (b : Int) : Nd := .rg [1, 1, 0] [true, false, false, true, true, true, false, true, true, true, false, false, false] (ER94_66 a b)
noncomputable def ER94_67 (b : List TV) (a : Int) (c : List TV) : Env := [.un, w0 b a] ++ uns 15 ++ [w5 b a, w5 b a, w18 c, w11, w7, .un, .un, w7, w6 a, w12 a] ++ uns 40
noncomputable abbrev R94_67 (a : List TV) (b : Int) (c : List TV) : Nd := .rg [1, 1, 0] [true, true, true, true, true, false, false, true, true, true, false, false, false] (ER94_67 a b c)
noncomputable def ER94_68 (b : List TV) (a : Int) : Env := [.un, w0 b a] ++ uns 15 ++ [w5 b a, w5 b a, .un, w11, w7, w6 a, .un, w7, w6 a, w12 a] ++ uns 40
noncomputable abbrev R94_68 (a : List TV) (b : Int) : Nd := .rg [1, 1, 0] [true, true, false, true, true, true, false, true, true, true, false, false, false] (ER94_68 a b)
noncomputable def EG94_69 (b : List TV) (a : Int) (c d : List TV) : Env := [.un, w0 b a, .un, .val [] (.pt false () (.st [.st [sl true ⟨6,true⟩ b, i64 a], sl false ⟨1,true⟩ c, sl false ⟨1,true⟩ ([]), sl false ⟨1,false⟩ d, sl false ⟨1,false⟩ (List.replicate a.toNat (i64 0))]))] ++ uns 63
noncomputable abbrev G94_69 (a : List TV) (b : Int) (c d : List TV) : Nd := .go [1, 1, 1] (EG94_69 a b c d)
noncomputable def ER94_70 (b : List TV) (a : Int) (c d : List TV) : Env := [.un, w0 b a] ++ uns 16 ++ [w5 b a, w18 c, w11, w7, w6 a, w10 d, w7] ++ uns 42
noncomputable abbrev R94_70 (a : List TV) (b : Int) (c d : List TV) : Nd := .rg [1, 1, 0] [false, true, true, true, true, true, true, true, false, false, false, false, false] (ER94_70 a b c d)
noncomputable def ER94_71 (b : List TV) (a : Int) (c : List TV) : Env := [.un, w0 b a] ++ uns 16 ++ [w5 b a, w18 c, w11, w7, w6 a, .un, w7, w6 a] ++ uns 41
noncomputable abbrev R94_71 (a : List TV) (b : Int) (c : List TV) : Nd := .rg [1, 1, 0] [false, true, true, true, true, true, false, true, true, false, false, false, false] (ER94_71 a b c)
noncomputable def ER94_72 (b : List TV) (a : Int) (c : List TV) : Env := [.un, w0 b a] ++ uns 15 ++ [w5 b a, w5 b a, w18 c, w11, w7, w6 a, .un, w7, w6 a, w12 a] ++ uns 40
noncomputable abbrev R94_72 (a : List TV) (b : Int) (c : List TV) : Nd := .rg [1, 1, 0] [true, true, true, true, true, true, false, true, true, true, false, false, false] (ER94_72 a b c)
noncomputable def ER94_73 (b : List TV) (a : Int) (c d : List TV) : Env := [.un, w0 b a] ++ uns 16 ++ [w5 b a, w18 c, w11, w7, w6 a, w10 d, w7, w6 a, w12 a] ++ uns 40
noncomputable abbrev R94_73 (a : List TV) (b : Int) (c d : List TV) : Nd := .rg [1, 1, 0] [false, true, true, true, true, true, true, true, true, true, false, false, false] (ER94_73 a b c d)
noncomputable def ER94_74 (b : List TV) (a : Int) (c d : List TV) : Env := [.un, w0 b a] ++ uns 15 ++ [w5 b a, w5 b a, w18 c, w11, w7, w6 a, w10 d, w7] ++ uns 42
noncomputable abbrev R94_74 (a : List TV) (b : Int) (c d : List TV) : Nd := .rg [1, 1, 0] [true, true, true, true, true, true, true, true, false, false, false, false, false] (ER94_74 a b c d)
noncomputable def ER94_75 (b : List TV) (a : Int) (c : List TV) : Env := [.un, w0 b a] ++ uns 15 ++ [w5 b a, w5 b a, w18 c, w11, w7, w6 a, .un, w7, w6 a] ++ uns 41
noncomputable abbrev R94_75 (a : List TV) (b : Int) (c : List TV) : Nd := .rg [1, 1, 0] [true, true, true, true, true, true, false, true, true, false, false, false, false] (ER94_75 a b c)
noncomputable def EH94_76 (a : List TV) (b : Int) (c : List TV) (d : Int) (f g : List TV) (h i : List TV) (j : Int) : Env := [.un, w0 a b, .un, w23 c d f g h i] ++ uns 27 ++ [w8 a, w6 j] ++ uns 34
noncomputable abbrev H94_76 (a : List TV) (b : Int) (c : List TV) (d : Int) (f g : List TV) (h i : List TV) (j : Int) : Nd := .head [1, 1, 1, 0, 1, 2] (EH94_76 a b c d f g h i j)
noncomputable abbrev B94_76 (a : List TV) (b : Int) (c : List TV) (d : Int) (f g : List TV) (h i : List TV) (j : Int) : Nd := .back [1, 1, 1, 0, 1, 2] (EH94_76 a b c d f g h i j)
noncomputable def ER94_77 (b : List TV) (a : Int) (c d : List TV) : Env := [.un, w0 b a] ++ uns 15 ++ [w5 b a, w5 b a, w18 c, w11, w7, w6 a, w10 d, w7, w6 a] ++ uns 41
noncomputable abbrev R94_77 (a : List TV) (b : Int) (c d : List TV) : Nd := .rg [1, 1, 0] [true, true, true, true, true, true, true, true, true, false, false, false, false] (ER94_77 a b c d)
noncomputable def ER94_78 (b : List TV) (a : Int) (c d : List TV) : Env := [.un, w0 b a] ++ uns 16 ++ [w5 b a, w18 c, w11, w7, w6 a, w10 d, w7, w6 a] ++ uns 41
noncomputable abbrev R94_78 (a : List TV) (b : Int) (c d : List TV) : Nd := .rg [1, 1, 0] [false, true, true, true, true, true, true, true, true, false, false, false, false] (ER94_78 a b c d)
noncomputable def EH94_79 (a : List TV) (b : Int) (c d : List TV) (f g : List TV) (h i : Int) : Env := [.un, .un, .un, w23 a b c d f g] ++ uns 52 ++ [w6 h, w6 i] ++ uns 9
noncomputable abbrev H94_79 (a : List TV) (b : Int) (c d : List TV) (f g : List TV) (h i : Int) : Nd := .head [1, 1, 1, 1, 1, 1, 0, 1, 2] (EH94_79 a b c d f g h i)
noncomputable abbrev B94_79 (a : List TV) (b : Int) (c d : List TV) (f g : List TV) (h i : Int) : Nd := .back [1, 1, 1, 1, 1, 1, 0, 1, 2] (EH94_79 a b c d f g h i)
noncomputable def Z94_0  : Nd :=
 .ret [tnil] []
noncomputable def Z94_1 (a : List TV) (b : Int) : Nd :=
 .amb4
 (R94_36 a b)
 (C136 a b fun c =>
 R94_37 a b c)
 (R94_38 a b)
 (R94_39 a b)
noncomputable def Z94_2 (a : List TV) (b : Int) : Nd :=
 .amb3
 (C136 a b fun c =>
 R94_49 a b c)
 (R94_50 a b)
 (R94_51 a b)
noncomputable def Z94_3 (a : List TV) (b : Int) : Nd :=
 .amb3
 (R94_50 a b)
 (C136 a b fun c =>
 R94_57 a b c)
 (R94_58 a b)
noncomputable def Z94_4 (a : List TV) (b : Int) : Nd :=
 .amb3
 (R94_51 a b)
 (C136 a b fun c =>
 R94_59 a b c)
 (R94_58 a b)
noncomputable def Z94_5 (a : List TV) (b : Int) (c : List TV) : Nd :=
 .amb2
 (R94_60 a b c)
 (R94_61 a b c)
noncomputable def Z94_6 (a : List TV) (b : Int) : Nd :=
 .amb2
 (C136 a b fun c =>
 R94_67 a b c)
 (R94_68 a b)
noncomputable def Z94_7 (a : List TV) (b : Int) : Nd :=
 .amb2
 (C136 a b fun c =>
 R94_60 a b c)
 (R94_68 a b)
noncomputable def Z94_8 (b : List TV) (a : Int) (c : List TV) : Nd :=
 C114 ([i64 (-1)]) a fun d =>
 G94_69 b a c d
noncomputable def Z94_9 (a : List TV) (b : Int) : Nd :=
 .amb2
 (R94_68 a b)
 (C136 a b fun c =>
 R94_61 a b c)
noncomputable def Z94_10 (b : List TV) (a : Int) (c : List TV) : Nd :=
 .amb2
 (R94_72 b a c)
 (C114 ([i64 (-1)]) a fun d =>
 R94_73 b a c d)
noncomputable def Z94_11 (b : List TV) (a : Int) : Nd :=
 C136 b a fun c =>
 C114 ([i64 (-1)]) a fun d =>
 G94_69 b a c d
noncomputable def Z94_12 (b : List TV) (a : Int) (c d : List TV) : Nd :=
 .amb2
 (R94_77 b a c d)
 (.ck (decide ((0 : Int) ≤ a) && decide (a ≤ a) && decide (a * 8 < (lim : Int)) && decide (a < 9223372036854775807) && true && true) <|
 R94_73 b a c d)
noncomputable def Z94_13 (b : List TV) (a : Int) (c d : List TV) : Nd :=
 .ck (decide ((0 : Int) ≤ a) && decide (a ≤ a) && decide (a * 8 < (lim : Int)) && decide (a < 9223372036854775807) && true && true) <|
 G94_69 b a c d
noncomputable def N94 (a : List TV) (b : Int) : Nd :=
 C57 ((a.length : Nat) : Int) 1 11 fun c =>
 .bif ((!c))
 (Z94_0)
 (C57 b 12 250 fun d =>
 .bif ((!d))
 (Z94_0)
 (G94_0 a b))
theorem e94 {a : List TV} {b : Int} {r : Res} (h : S cx 94 (N94 a b) = some r) : tw cx 94 [.st [sl true ⟨6,true⟩ a, i64 b]] = some r :=
 tw_of (fun call hd hb pt rg => by kernel_rfl) h
noncomputable def NG94_0 (a : List TV) (b : Int) : Nd :=
 .amb5
 (R94_1 a b)
 (R94_2 a b)
 (R94_3 a b)
 (R94_4 a b)
 (R94_5 a b)
theorem eG94_0 {a : List TV} {b : Int} {r : Res} (h : S cx 94 (NG94_0 a b) = some r) : S cx 94 (G94_0 a b) = some r :=
 pw_of (fun call hd hb pt rg => by kernel_rfl) h
noncomputable def NR94_1 (a : List TV) (b : Int) : Nd :=
 .amb4
 (R94_6 a b)
 (R94_7 a b)
 (R94_8 a b)
 (R94_9 a b)
theorem eR94_1 {a : List TV} {b : Int} {r : Res} (h : S cx 94 (NR94_1 a b) = some r) : S cx 94 (R94_1 a b) = some r :=
 gw_of (fun call hd hb pt rg => by kernel_rfl) h
noncomputable def NR94_2 (a : List TV) (b : Int) : Nd :=
 .amb5
 (R94_6 a b)
 (C136 a b fun c =>
 R94_10 a b c)
 (R94_11 a b)
 (R94_12 a b)
 (R94_13 a b)
theorem eR94_2 {a : List TV} {b : Int} {r : Res} (h : S cx 94 (NR94_2 a b) = some r) : S cx 94 (R94_2 a b) = some r :=
 gw_of (fun call hd hb pt rg => by kernel_rfl) h
noncomputable def NR94_3 (a : List TV) (b : Int) : Nd :=
 .amb4
 (R94_7 a b)
 (R94_11 a b)
 (R94_14 a b)
 (R94_15 a b)
theorem eR94_3 {a : List TV} {b : Int} {r : Res} (h : S cx 94 (NR94_3 a b) = some r) : S cx 94 (R94_3 a b) = some r :=
 gw_of (fun call hd hb pt rg => by kernel_rfl) h
noncomputable def NR94_4 (a : List TV) (b : Int) : Nd :=
 .amb4
 (R94_8 a b)
 (R94_12 a b)
 (R94_14 a b)
 (R94_16 a b)
theorem eR94_4 {a : List TV} {b : Int} {r : Res} (h : S cx 94 (NR94_4 a b) = some r) : S cx 94 (R94_4 a b) = some r :=
 gw_of (fun call hd hb pt rg => by kernel_rfl) h
noncomputable def NR94_5 (b : List TV) (a : Int) : Nd :=
 .amb5
 (R94_9 b a)
 (R94_13 b a)
 (R94_15 b a)
 (R94_16 b a)
 (.ck (decide ((0 : Int) ≤ a) && decide (a ≤ a) && decide (a * 8 < (lim : Int)) && decide (a < 9223372036854775807) && true && true) <|
 R94_17 b a)
theorem eR94_5 {a : List TV} {b : Int} {r : Res} (h : S cx 94 (NR94_5 a b) = some r) : S cx 94 (R94_5 a b) = some r :=
 gw_of (fun call hd hb pt rg => by kernel_rfl) h
noncomputable def NR94_6 (a : List TV) (b : Int) : Nd :=
 .amb4
 (C136 a b fun c =>
 R94_18 a b c)
 (R94_19 a b)
 (R94_20 a b)
 (R94_21 a b)
theorem eR94_6 {a : List TV} {b : Int} {r : Res} (h : S cx 94 (NR94_6 a b) = some r) : S cx 94 (R94_6 a b) = some r :=
 gw_of (fun call hd hb pt rg => by kernel_rfl) h
noncomputable def NR94_7 (a : List TV) (b : Int) : Nd :=
 .amb3
 (R94_19 a b)
 (R94_22 a b)
 (R94_23 a b)
theorem eR94_7 {a : List TV} {b : Int} {r : Res} (h : S cx 94 (NR94_7 a b) = some r) : S cx 94 (R94_7 a b) = some r :=
 gw_of (fun call hd hb pt rg => by kernel_rfl) h
noncomputable def NR94_8 (a : List TV) (b : Int) : Nd :=
 .amb3
 (R94_20 a b)
 (R94_22 a b)
 (R94_24 a b)
theorem eR94_8 {a : List TV} {b : Int} {r : Res} (h : S cx 94 (NR94_8 a b) = some r) : S cx 94 (R94_8 a b) = some r :=
 gw_of (fun call hd hb pt rg => by kernel_rfl) h
noncomputable def NR94_9 (b : List TV) (a : Int) : Nd :=
 .amb4
 (R94_21 b a)
 (R94_23 b a)
 (R94_24 b a)
 (.ck (decide ((0 : Int) ≤ a) && decide (a ≤ a) && decide (a * 8 < (lim : Int)) && decide (a < 9223372036854775807) && true && true) <|
 R94_25 b a)
theorem eR94_9 {a : List TV} {b : Int} {r : Res} (h : S cx 94 (NR94_9 a b) = some r) : S cx 94 (R94_9 a b) = some r :=
 gw_of (fun call hd hb pt rg => by kernel_rfl) h
noncomputable def NR94_10 (a : List TV) (b : Int) (c : List TV) : Nd :=
 .amb4
 (R94_18 a b c)
 (R94_26 a b c)
 (R94_27 a b c)
 (R94_28 a b c)
theorem eR94_10 {a : List TV} {b : Int} {c : List TV} {r : Res} (h : S cx 94 (NR94_10 a b c) = some r) : S cx 94 (R94_10 a b c) = some r :=
 gw_of (fun call hd hb pt rg => by kernel_rfl) h
noncomputable def NR94_11 (a : List TV) (b : Int) : Nd :=
 .amb4
 (R94_19 a b)
 (C136 a b fun c =>
 R94_26 a b c)
 (R94_29 a b)
 (R94_30 a b)
theorem eR94_11 {a : List TV} {b : Int} {r : Res} (h : S cx 94 (NR94_11 a b) = some r) : S cx 94 (R94_11 a b) = some r :=
 gw_of (fun call hd hb pt rg => by kernel_rfl) h
noncomputable def NR94_12 (a : List TV) (b : Int) : Nd :=
 .amb4
 (R94_20 a b)
 (C136 a b fun c =>
 R94_27 a b c)
 (R94_29 a b)
 (R94_31 a b)
theorem eR94_12 {a : List TV} {b : Int} {r : Res} (h : S cx 94 (NR94_12 a b) = some r) : S cx 94 (R94_12 a b) = some r :=
 gw_of (fun call hd hb pt rg => by kernel_rfl) h
noncomputable def NR94_13 (b : List TV) (a : Int) : Nd :=
 .amb5
 (R94_21 b a)
 (C136 b a fun c =>
 R94_28 b a c)
 (R94_30 b a)
 (R94_31 b a)
 (.ck (decide ((0 : Int) ≤ a) && decide (a ≤ a) && decide (a * 8 < (lim : Int)) && decide (a < 9223372036854775807) && true && true) <|
 R94_32 b a)
theorem eR94_13 {a : List TV} {b : Int} {r : Res} (h : S cx 94 (NR94_13 a b) = some r) : S cx 94 (R94_13 a b) = some r :=
 gw_of (fun call hd hb pt rg => by kernel_rfl) h
noncomputable def NR94_14 (a : List TV) (b : Int) : Nd :=
 .amb3
 (R94_22 a b)
 (R94_29 a b)
 (R94_33 a b)
theorem eR94_14 {a : List TV} {b : Int} {r : Res} (h : S cx 94 (NR94_14 a b) = some r) : S cx 94 (R94_14 a b) = some r :=
 gw_of (fun call hd hb pt rg => by kernel_rfl) h
noncomputable def NR94_15 (b : List TV) (a : Int) : Nd :=
 .amb4
 (R94_23 b a)
 (R94_30 b a)
 (R94_33 b a)
 (.ck (decide ((0 : Int) ≤ a) && decide (a ≤ a) && decide (a * 8 < (lim : Int)) && decide (a < 9223372036854775807) && true && true) <|
 R94_34 b a)
theorem eR94_15 {a : List TV} {b : Int} {r : Res} (h : S cx 94 (NR94_15 a b) = some r) : S cx 94 (R94_15 a b) = some r :=
 gw_of (fun call hd hb pt rg => by kernel_rfl) h
noncomputable def NR94_16 (b : List TV) (a : Int) : Nd :=
 .amb4
 (R94_24 b a)
 (R94_31 b a)
 (R94_33 b a)
 (.ck (decide ((0 : Int) ≤ a) && decide (a ≤ a) && decide (a * 8 < (lim : Int)) && decide (a < 9223372036854775807) && true && true) <|
 R94_35 b a)
theorem eR94_16 {a : List TV} {b : Int} {r : Res} (h : S cx 94 (NR94_16 a b) = some r) : S cx 94 (R94_16 a b) = some r :=
 gw_of (fun call hd hb pt rg => by kernel_rfl) h
noncomputable def NR94_17 (a : List TV) (b : Int) : Nd :=
 Z94_1 a b
theorem eR94_17 {a : List TV} {b : Int} {r : Res} (h : S cx 94 (NR94_17 a b) = some r) : S cx 94 (R94_17 a b) = some r :=
 gw_of (fun call hd hb pt rg => by kernel_rfl) h
noncomputable def NR94_18 (a : List TV) (b : Int) (c : List TV) : Nd :=
 .amb3
 (R94_40 a b c)
 (R94_41 a b c)
 (R94_42 a b c)
theorem eR94_18 {a : List TV} {b : Int} {c : List TV} {r : Res} (h : S cx 94 (NR94_18 a b c) = some r) : S cx 94 (R94_18 a b c) = some r :=
 gw_of (fun call hd hb pt rg => by kernel_rfl) h
noncomputable def NR94_19 (a : List TV) (b : Int) : Nd :=
 .amb3
 (C136 a b fun c =>
 R94_40 a b c)
 (R94_43 a b)
 (R94_44 a b)
theorem eR94_19 {a : List TV} {b : Int} {r : Res} (h : S cx 94 (NR94_19 a b) = some r) : S cx 94 (R94_19 a b) = some r :=
 gw_of (fun call hd hb pt rg => by kernel_rfl) h
noncomputable def NR94_20 (a : List TV) (b : Int) : Nd :=
 .amb3
 (C136 a b fun c =>
 R94_41 a b c)
 (R94_43 a b)
 (R94_45 a b)
theorem eR94_20 {a : List TV} {b : Int} {r : Res} (h : S cx 94 (NR94_20 a b) = some r) : S cx 94 (R94_20 a b) = some r :=
 gw_of (fun call hd hb pt rg => by kernel_rfl) h
noncomputable def NR94_21 (b : List TV) (a : Int) : Nd :=
 .amb4
 (C136 b a fun c =>
 R94_42 b a c)
 (R94_44 b a)
 (R94_45 b a)
 (.ck (decide ((0 : Int) ≤ a) && decide (a ≤ a) && decide (a * 8 < (lim : Int)) && decide (a < 9223372036854775807) && true && true) <|
 R94_36 b a)
theorem eR94_21 {a : List TV} {b : Int} {r : Res} (h : S cx 94 (NR94_21 a b) = some r) : S cx 94 (R94_21 a b) = some r :=
 gw_of (fun call hd hb pt rg => by kernel_rfl) h
noncomputable def NR94_22 (a : List TV) (b : Int) : Nd :=
 .amb2
 (R94_43 a b)
 (R94_46 a b)
theorem eR94_22 {a : List TV} {b : Int} {r : Res} (h : S cx 94 (NR94_22 a b) = some r) : S cx 94 (R94_22 a b) = some r :=
 gw_of (fun call hd hb pt rg => by kernel_rfl) h
noncomputable def NR94_23 (b : List TV) (a : Int) : Nd :=
 .amb3
 (R94_44 b a)
 (R94_46 b a)
 (.ck (decide ((0 : Int) ≤ a) && decide (a ≤ a) && decide (a * 8 < (lim : Int)) && decide (a < 9223372036854775807) && true && true) <|
 R94_47 b a)
theorem eR94_23 {a : List TV} {b : Int} {r : Res} (h : S cx 94 (NR94_23 a b) = some r) : S cx 94 (R94_23 a b) = some r :=
 gw_of (fun call hd hb pt rg => by kernel_rfl) h
noncomputable def NR94_24 (b : List TV) (a : Int) : Nd :=
 .amb3
 (R94_45 b a)
 (R94_46 b a)
 (.ck (decide ((0 : Int) ≤ a) && decide (a ≤ a) && decide (a * 8 < (lim : Int)) && decide (a < 9223372036854775807) && true && true) <|
 R94_48 b a)
theorem eR94_24 {a : List TV} {b : Int} {r : Res} (h : S cx 94 (NR94_24 a b) = some r) : S cx 94 (R94_24 a b) = some r :=
 gw_of (fun call hd hb pt rg => by kernel_rfl) h
noncomputable def NR94_25 (a : List TV) (b : Int) : Nd :=
 Z94_2 a b
theorem eR94_25 {a : List TV} {b : Int} {r : Res} (h : S cx 94 (NR94_25 a b) = some r) : S cx 94 (R94_25 a b) = some r :=
 gw_of (fun call hd hb pt rg => by kernel_rfl) h
noncomputable def NR94_26 (a : List TV) (b : Int) (c : List TV) : Nd :=
 .amb3
 (R94_40 a b c)
 (R94_52 a b c)
 (R94_53 a b c)
theorem eR94_26 {a : List TV} {b : Int} {c : List TV} {r : Res} (h : S cx 94 (NR94_26 a b c) = some r) : S cx 94 (R94_26 a b c) = some r :=
 gw_of (fun call hd hb pt rg => by kernel_rfl) h
noncomputable def NR94_27 (a : List TV) (b : Int) (c : List TV) : Nd :=
 .amb3
 (R94_41 a b c)
 (R94_52 a b c)
 (R94_54 a b c)
theorem eR94_27 {a : List TV} {b : Int} {c : List TV} {r : Res} (h : S cx 94 (NR94_27 a b c) = some r) : S cx 94 (R94_27 a b c) = some r :=
 gw_of (fun call hd hb pt rg => by kernel_rfl) h
noncomputable def NR94_28 (b : List TV) (a : Int) (c : List TV) : Nd :=
 .amb4
 (R94_42 b a c)
 (R94_53 b a c)
 (R94_54 b a c)
 (.ck (decide ((0 : Int) ≤ a) && decide (a ≤ a) && decide (a * 8 < (lim : Int)) && decide (a < 9223372036854775807) && true && true) <|
 R94_37 b a c)
theorem eR94_28 {a : List TV} {b : Int} {c : List TV} {r : Res} (h : S cx 94 (NR94_28 a b c) = some r) : S cx 94 (R94_28 a b c) = some r :=
 gw_of (fun call hd hb pt rg => by kernel_rfl) h
noncomputable def NR94_29 (a : List TV) (b : Int) : Nd :=
 .amb3
 (R94_43 a b)
 (C136 a b fun c =>
 R94_52 a b c)
 (R94_55 a b)
theorem eR94_29 {a : List TV} {b : Int} {r : Res} (h : S cx 94 (NR94_29 a b) = some r) : S cx 94 (R94_29 a b) = some r :=
 gw_of (fun call hd hb pt rg => by kernel_rfl) h
noncomputable def NR94_30 (b : List TV) (a : Int) : Nd :=
 .amb4
 (R94_44 b a)
 (C136 b a fun c =>
 R94_53 b a c)
 (R94_55 b a)
 (.ck (decide ((0 : Int) ≤ a) && decide (a ≤ a) && decide (a * 8 < (lim : Int)) && decide (a < 9223372036854775807) && true && true) <|
 R94_38 b a)
theorem eR94_30 {a : List TV} {b : Int} {r : Res} (h : S cx 94 (NR94_30 a b) = some r) : S cx 94 (R94_30 a b) = some r :=
 gw_of (fun call hd hb pt rg => by kernel_rfl) h
noncomputable def NR94_31 (b : List TV) (a : Int) : Nd :=
 .amb4
 (R94_45 b a)
 (C136 b a fun c =>
 R94_54 b a c)
 (R94_55 b a)
 (.ck (decide ((0 : Int) ≤ a) && decide (a ≤ a) && decide (a * 8 < (lim : Int)) && decide (a < 9223372036854775807) && true && true) <|
 R94_39 b a)
theorem eR94_31 {a : List TV} {b : Int} {r : Res} (h : S cx 94 (NR94_31 a b) = some r) : S cx 94 (R94_31 a b) = some r :=
 gw_of (fun call hd hb pt rg => by kernel_rfl) h
noncomputable def NR94_32 (a : List TV) (b : Int) : Nd :=
 Z94_1 a b
theorem eR94_32 {a : List TV} {b : Int} {r : Res} (h : S cx 94 (NR94_32 a b) = some r) : S cx 94 (R94_32 a b) = some r :=
 gw_of (fun call hd hb pt rg => by kernel_rfl) h
noncomputable def NR94_33 (b : List TV) (a : Int) : Nd :=
 .amb3
 (R94_46 b a)
 (R94_55 b a)
 (.ck (decide ((0 : Int) ≤ a) && decide (a ≤ a) && decide (a * 8 < (lim : Int)) && decide (a < 9223372036854775807) && true && true) <|
 R94_56 b a)
theorem eR94_33 {a : List TV} {b : Int} {r : Res} (h : S cx 94 (NR94_33 a b) = some r) : S cx 94 (R94_33 a b) = some r :=
 gw_of (fun call hd hb pt rg => by kernel_rfl) h
noncomputable def NR94_34 (a : List TV) (b : Int) : Nd :=
 Z94_3 a b
theorem eR94_34 {a : List TV} {b : Int} {r : Res} (h : S cx 94 (NR94_34 a b) = some r) : S cx 94 (R94_34 a b) = some r :=
 gw_of (fun call hd hb pt rg => by kernel_rfl) h
noncomputable def NR94_35 (a : List TV) (b : Int) : Nd :=
 Z94_4 a b
theorem eR94_35 {a : List TV} {b : Int} {r : Res} (h : S cx 94 (NR94_35 a b) = some r) : S cx 94 (R94_35 a b) = some r :=
 gw_of (fun call hd hb pt rg => by kernel_rfl) h
noncomputable def NR94_36 (a : List TV) (b : Int) : Nd :=
 Z94_2 a b
theorem eR94_36 {a : List TV} {b : Int} {r : Res} (h : S cx 94 (NR94_36 a b) = some r) : S cx 94 (R94_36 a b) = some r :=
 gw_of (fun call hd hb pt rg => by kernel_rfl) h
noncomputable def NR94_37 (a : List TV) (b : Int) (c : List TV) : Nd :=
 Z94_5 a b c
theorem eR94_37 {a : List TV} {b : Int} {c : List TV} {r : Res} (h : S cx 94 (NR94_37 a b c) = some r) : S cx 94 (R94_37 a b c) = some r :=
 gw_of (fun call hd hb pt rg => by kernel_rfl) h
noncomputable def NR94_38 (a : List TV) (b : Int) : Nd :=
 Z94_3 a b
theorem eR94_38 {a : List TV} {b : Int} {r : Res} (h : S cx 94 (NR94_38 a b) = some r) : S cx 94 (R94_38 a b) = some r :=
 gw_of (fun call hd hb pt rg => by kernel_rfl) h
noncomputable def NR94_39 (a : List TV) (b : Int) : Nd :=
 Z94_4 a b
theorem eR94_39 {a : List TV} {b : Int} {r : Res} (h : S cx 94 (NR94_39 a b) = some r) : S cx 94 (R94_39 a b) = some r :=
 gw_of (fun call hd hb pt rg => by kernel_rfl) h
noncomputable def NR94_40 (a : List TV) (b : Int) (c : List TV) : Nd :=
 .amb2
 (R94_62 a b c)
 (R94_63 a b c)
theorem eR94_40 {a : List TV} {b : Int} {c : List TV} {r : Res} (h : S cx 94 (NR94_40 a b c) = some r) : S cx 94 (R94_40 a b c) = some r :=
 gw_of (fun call hd hb pt rg => by kernel_rfl) h
noncomputable def NR94_41 (a : List TV) (b : Int) (c : List TV) : Nd :=
 .amb2
 (R94_62 a b c)
 (R94_64 a b c)
theorem eR94_41 {a : List TV} {b : Int} {c : List TV} {r : Res} (h : S cx 94 (NR94_41 a b c) = some r) : S cx 94 (R94_41 a b c) = some r :=
 gw_of (fun call hd hb pt rg => by kernel_rfl) h
noncomputable def NR94_42 (b : List TV) (a : Int) (c : List TV) : Nd :=
 .amb3
 (R94_63 b a c)
 (R94_64 b a c)
 (.ck (decide ((0 : Int) ≤ a) && decide (a ≤ a) && decide (a * 8 < (lim : Int)) && decide (a < 9223372036854775807) && true && true) <|
 R94_49 b a c)
theorem eR94_42 {a : List TV} {b : Int} {c : List TV} {r : Res} (h : S cx 94 (NR94_42 a b c) = some r) : S cx 94 (R94_42 a b c) = some r :=
 gw_of (fun call hd hb pt rg => by kernel_rfl) h
noncomputable def NR94_43 (a : List TV) (b : Int) : Nd :=
 .amb2
 (C136 a b fun c =>
 R94_62 a b c)
 (R94_65 a b)
theorem eR94_43 {a : List TV} {b : Int} {r : Res} (h : S cx 94 (NR94_43 a b) = some r) : S cx 94 (R94_43 a b) = some r :=
 gw_of (fun call hd hb pt rg => by kernel_rfl) h
noncomputable def NR94_44 (b : List TV) (a : Int) : Nd :=
 .amb3
 (C136 b a fun c =>
 R94_63 b a c)
 (R94_65 b a)
 (.ck (decide ((0 : Int) ≤ a) && decide (a ≤ a) && decide (a * 8 < (lim : Int)) && decide (a < 9223372036854775807) && true && true) <|
 R94_50 b a)
theorem eR94_44 {a : List TV} {b : Int} {r : Res} (h : S cx 94 (NR94_44 a b) = some r) : S cx 94 (R94_44 a b) = some r :=
 gw_of (fun call hd hb pt rg => by kernel_rfl) h
noncomputable def NR94_45 (b : List TV) (a : Int) : Nd :=
 .amb3
 (C136 b a fun c =>
 R94_64 b a c)
 (R94_65 b a)
 (.ck (decide ((0 : Int) ≤ a) && decide (a ≤ a) && decide (a * 8 < (lim : Int)) && decide (a < 9223372036854775807) && true && true) <|
 R94_51 b a)
theorem eR94_45 {a : List TV} {b : Int} {r : Res} (h : S cx 94 (NR94_45 a b) = some r) : S cx 94 (R94_45 a b) = some r :=
 gw_of (fun call hd hb pt rg => by kernel_rfl) h
noncomputable def NR94_46 (b : List TV) (a : Int) : Nd :=
 .amb2
 (R94_65 b a)
 (.ck (decide ((0 : Int) ≤ a) && decide (a ≤ a) && decide (a * 8 < (lim : Int)) && decide (a < 9223372036854775807) && true && true) <|
 R94_66 b a)
theorem eR94_46 {a : List TV} {b : Int} {r : Res} (h : S cx 94 (NR94_46 a b) = some r) : S cx 94 (R94_46 a b) = some r :=
 gw_of (fun call hd hb pt rg => by kernel_rfl) h
noncomputable def NR94_47 (a : List TV) (b : Int) : Nd :=
 Z94_6 a b
theorem eR94_47 {a : List TV} {b : Int} {r : Res} (h : S cx 94 (NR94_47 a b) = some r) : S cx 94 (R94_47 a b) = some r :=
 gw_of (fun call hd hb pt rg => by kernel_rfl) h
noncomputable def NR94_48 (a : List TV) (b : Int) : Nd :=
 Z94_7 a b
theorem eR94_48 {a : List TV} {b : Int} {r : Res} (h : S cx 94 (NR94_48 a b) = some r) : S cx 94 (R94_48 a b) = some r :=
 gw_of (fun call hd hb pt rg => by kernel_rfl) h
noncomputable def NR94_49 (a : List TV) (b : Int) (c : List TV) : Nd :=
 Z94_8 a b c
theorem eR94_49 {a : List TV} {b : Int} {c : List TV} {r : Res} (h : S cx 94 (NR94_49 a b c) = some r) : S cx 94 (R94_49 a b c) = some r :=
 gw_of (fun call hd hb pt rg => by kernel_rfl) h
noncomputable def NR94_50 (a : List TV) (b : Int) : Nd :=
 Z94_6 a b
theorem eR94_50 {a : List TV} {b : Int} {r : Res} (h : S cx 94 (NR94_50 a b) = some r) : S cx 94 (R94_50 a b) = some r :=
 gw_of (fun call hd hb pt rg => by kernel_rfl) h
noncomputable def NR94_51 (a : List TV) (b : Int) : Nd :=
 Z94_7 a b
theorem eR94_51 {a : List TV} {b : Int} {r : Res} (h : S cx 94 (NR94_51 a b) = some r) : S cx 94 (R94_51 a b) = some r :=
 gw_of (fun call hd hb pt rg => by kernel_rfl) h
noncomputable def NR94_52 (b : List TV) (a : Int) (c : List TV) : Nd :=
 .amb3
 (R94_62 b a c)
 (C114 ([i64 (-1)]) a fun d =>
 R94_70 b a c d)
 (R94_71 b a c)
theorem eR94_52 {a : List TV} {b : Int} {c : List TV} {r : Res} (h : S cx 94 (NR94_52 a b c) = some r) : S cx 94 (R94_52 a b c) = some r :=
 gw_of (fun call hd hb pt rg => by kernel_rfl) h
noncomputable def NR94_53 (b : List TV) (a : Int) (c : List TV) : Nd :=
 .amb3
 (R94_63 b a c)
 (R94_71 b a c)
 (.ck (decide ((0 : Int) ≤ a) && decide (a ≤ a) && decide (a * 8 < (lim : Int)) && decide (a < 9223372036854775807) && true && true) <|
 R94_57 b a c)
theorem eR94_53 {a : List TV} {b : Int} {c : List TV} {r : Res} (h : S cx 94 (NR94_53 a b c) = some r) : S cx 94 (R94_53 a b c) = some r :=
 gw_of (fun call hd hb pt rg => by kernel_rfl) h
noncomputable def NR94_54 (b : List TV) (a : Int) (c : List TV) : Nd :=
 .amb3
 (R94_64 b a c)
 (R94_71 b a c)
 (.ck (decide ((0 : Int) ≤ a) && decide (a ≤ a) && decide (a * 8 < (lim : Int)) && decide (a < 9223372036854775807) && true && true) <|
 R94_59 b a c)
theorem eR94_54 {a : List TV} {b : Int} {c : List TV} {r : Res} (h : S cx 94 (NR94_54 a b c) = some r) : S cx 94 (R94_54 a b c) = some r :=
 gw_of (fun call hd hb pt rg => by kernel_rfl) h
noncomputable def NR94_55 (b : List TV) (a : Int) : Nd :=
 .amb3
 (R94_65 b a)
 (C136 b a fun c =>
 R94_71 b a c)
 (.ck (decide ((0 : Int) ≤ a) && decide (a ≤ a) && decide (a * 8 < (lim : Int)) && decide (a < 9223372036854775807) && true && true) <|
 R94_58 b a)
theorem eR94_55 {a : List TV} {b : Int} {r : Res} (h : S cx 94 (NR94_55 a b) = some r) : S cx 94 (R94_55 a b) = some r :=
 gw_of (fun call hd hb pt rg => by kernel_rfl) h
noncomputable def NR94_56 (a : List TV) (b : Int) : Nd :=
 Z94_9 a b
theorem eR94_56 {a : List TV} {b : Int} {r : Res} (h : S cx 94 (NR94_56 a b) = some r) : S cx 94 (R94_56 a b) = some r :=
 gw_of (fun call hd hb pt rg => by kernel_rfl) h
noncomputable def NR94_57 (a : List TV) (b : Int) (c : List TV) : Nd :=
 Z94_10 a b c
theorem eR94_57 {a : List TV} {b : Int} {c : List TV} {r : Res} (h : S cx 94 (NR94_57 a b c) = some r) : S cx 94 (R94_57 a b c) = some r :=
 gw_of (fun call hd hb pt rg => by kernel_rfl) h
noncomputable def NR94_58 (a : List TV) (b : Int) : Nd :=
 Z94_9 a b
theorem eR94_58 {a : List TV} {b : Int} {r : Res} (h : S cx 94 (NR94_58 a b) = some r) : S cx 94 (R94_58 a b) = some r :=
 gw_of (fun call hd hb pt rg => by kernel_rfl) h
noncomputable def NR94_59 (a : List TV) (b : Int) (c : List TV) : Nd :=
 Z94_5 a b c
theorem eR94_59 {a : List TV} {b : Int} {c : List TV} {r : Res} (h : S cx 94 (NR94_59 a b c) = some r) : S cx 94 (R94_59 a b c) = some r :=
 gw_of (fun call hd hb pt rg => by kernel_rfl) h
noncomputable def NR94_60 (a : List TV) (b : Int) (c : List TV) : Nd :=
 Z94_8 a b c
theorem eR94_60 {a : List TV} {b : Int} {c : List TV} {r : Res} (h : S cx 94 (NR94_60 a b c) = some r) : S cx 94 (R94_60 a b c) = some r :=
 gw_of (fun call hd hb pt rg => by kernel_rfl) h
noncomputable def NR94_61 (a : List TV) (b : Int) (c : List TV) : Nd :=
 Z94_10 a b c
theorem eR94_61 {a : List TV} {b : Int} {c : List TV} {r : Res} (h : S cx 94 (NR94_61 a b c) = some r) : S cx 94 (R94_61 a b c) = some r :=
 gw_of (fun call hd hb pt rg => by kernel_rfl) h
noncomputable def NR94_62 (b : List TV) (a : Int) (c : List TV) : Nd :=
 .amb2
 (C114 ([i64 (-1)]) a fun d =>
 R94_74 b a c d)
 (R94_75 b a c)
theorem eR94_62 {a : List TV} {b : Int} {c : List TV} {r : Res} (h : S cx 94 (NR94_62 a b c) = some r) : S cx 94 (R94_62 a b c) = some r :=
 gw_of (fun call hd hb pt rg => by kernel_rfl) h
noncomputable def NR94_63 (b : List TV) (a : Int) (c : List TV) : Nd :=
 .amb2
 (R94_75 b a c)
 (.ck (decide ((0 : Int) ≤ a) && decide (a ≤ a) && decide (a * 8 < (lim : Int)) && decide (a < 9223372036854775807) && true && true) <|
 R94_67 b a c)
theorem eR94_63 {a : List TV} {b : Int} {c : List TV} {r : Res} (h : S cx 94 (NR94_63 a b c) = some r) : S cx 94 (R94_63 a b c) = some r :=
 gw_of (fun call hd hb pt rg => by kernel_rfl) h
noncomputable def NR94_64 (b : List TV) (a : Int) (c : List TV) : Nd :=
 .amb2
 (R94_75 b a c)
 (.ck (decide ((0 : Int) ≤ a) && decide (a ≤ a) && decide (a * 8 < (lim : Int)) && decide (a < 9223372036854775807) && true && true) <|
 R94_60 b a c)
theorem eR94_64 {a : List TV} {b : Int} {c : List TV} {r : Res} (h : S cx 94 (NR94_64 a b c) = some r) : S cx 94 (R94_64 a b c) = some r :=
 gw_of (fun call hd hb pt rg => by kernel_rfl) h
noncomputable def NR94_65 (b : List TV) (a : Int) : Nd :=
 .amb2
 (C136 b a fun c =>
 R94_75 b a c)
 (.ck (decide ((0 : Int) ≤ a) && decide (a ≤ a) && decide (a * 8 < (lim : Int)) && decide (a < 9223372036854775807) && true && true) <|
 R94_68 b a)
theorem eR94_65 {a : List TV} {b : Int} {r : Res} (h : S cx 94 (NR94_65 a b) = some r) : S cx 94 (R94_65 a b) = some r :=
 gw_of (fun call hd hb pt rg => by kernel_rfl) h
noncomputable def NR94_66 (a : List TV) (b : Int) : Nd :=
 Z94_11 a b
theorem eR94_66 {a : List TV} {b : Int} {r : Res} (h : S cx 94 (NR94_66 a b) = some r) : S cx 94 (R94_66 a b) = some r :=
 gw_of (fun call hd hb pt rg => by kernel_rfl) h
noncomputable def NR94_67 (a : List TV) (b : Int) (c : List TV) : Nd :=
 Z94_8 a b c
theorem eR94_67 {a : List TV} {b : Int} {c : List TV} {r : Res} (h : S cx 94 (NR94_67 a b c) = some r) : S cx 94 (R94_67 a b c) = some r :=
 gw_of (fun call hd hb pt rg => by kernel_rfl) h
noncomputable def NR94_68 (a : List TV) (b : Int) : Nd :=
 Z94_11 a b
theorem eR94_68 {a : List TV} {b : Int} {r : Res} (h : S cx 94 (NR94_68 a b) = some r) : S cx 94 (R94_68 a b) = some r :=
 gw_of (fun call hd hb pt rg => by kernel_rfl) h
noncomputable def NG94_69 (b : List TV) (a : Int) (c d : List TV) : Nd :=
 H94_76 b a b a c ([]) d (List.replicate a.toNat (i64 0)) 0
theorem eG94_69 {a : List TV} {b : Int} {c d : List TV} {r : Res} (h : S cx 94 (NG94_69 a b c d) = some r) : S cx 94 (G94_69 a b c d) = some r :=
 pw_of (fun call hd hb pt rg => by kernel_rfl) h
noncomputable def NR94_70 (a : List TV) (b : Int) (c d : List TV) : Nd :=
 Z94_12 a b c d
theorem eR94_70 {a : List TV} {b : Int} {c d : List TV} {r : Res} (h : S cx 94 (NR94_70 a b c d) = some r) : S cx 94 (R94_70 a b c d) = some r :=
 gw_of (fun call hd hb pt rg => by kernel_rfl) h
noncomputable def NR94_71 (b : List TV) (a : Int) (c : List TV) : Nd :=
 .amb3
 (R94_75 b a c)
 (C114 ([i64 (-1)]) a fun d =>
 R94_78 b a c d)
 (.ck (decide ((0 : Int) ≤ a) && decide (a ≤ a) && decide (a * 8 < (lim : Int)) && decide (a < 9223372036854775807) && true && true) <|
 R94_61 b a c)
theorem eR94_71 {a : List TV} {b : Int} {c : List TV} {r : Res} (h : S cx 94 (NR94_71 a b c) = some r) : S cx 94 (R94_71 a b c) = some r :=
 gw_of (fun call hd hb pt rg => by kernel_rfl) h
noncomputable def NR94_72 (a : List TV) (b : Int) (c : List TV) : Nd :=
 Z94_8 a b c
theorem eR94_72 {a : List TV} {b : Int} {c : List TV} {r : Res} (h : S cx 94 (NR94_72 a b c) = some r) : S cx 94 (R94_72 a b c) = some r :=
 gw_of (fun call hd hb pt rg => by kernel_rfl) h
noncomputable def NR94_73 (a : List TV) (b : Int) (c d : List TV) : Nd :=
 G94_69 a b c d
theorem eR94_73 {a : List TV} {b : Int} {c d : List TV} {r : Res} (h : S cx 94 (NR94_73 a b c d) = some r) : S cx 94 (R94_73 a b c d) = some r :=
 gw_of (fun call hd hb pt rg => by kernel_rfl) h
noncomputable def NR94_74 (a : List TV) (b : Int) (c d : List TV) : Nd :=
 Z94_13 a b c d
theorem eR94_74 {a : List TV} {b : Int} {c d : List TV} {r : Res} (h : S cx 94 (NR94_74 a b c d) = some r) : S cx 94 (R94_74 a b c d) = some r :=
 gw_of (fun call hd hb pt rg => by kernel_rfl) h
noncomputable def NR94_75 (b : List TV) (a : Int) (c : List TV) : Nd :=
 .amb2
 (C114 ([i64 (-1)]) a fun d =>
 R94_77 b a c d)
 (.ck (decide ((0 : Int) ≤ a) && decide (a ≤ a) && decide (a * 8 < (lim : Int)) && decide (a < 9223372036854775807) && true && true) <|
 R94_72 b a c)
theorem eR94_75 {a : List TV} {b : Int} {c : List TV} {r : Res} (h : S cx 94 (NR94_75 a b c) = some r) : S cx 94 (R94_75 a b c) = some r :=
 gw_of (fun call hd hb pt rg => by kernel_rfl) h
noncomputable def NH94_76 (b : List TV) (j : Int) (d : List TV) (f : Int) (a k : List TV) (g h : List TV) (c : Int) : Nd :=
 .bif (decide (c < ((b.length : Nat) : Int)))
 (C137 d f a k g h c fun l m n o p q r =>
 .bif ((!l))
 (Z94_0)
 (B94_76 b j m n o p q r (w64 (c + 1))))
 (C138 a fun i =>
 .ck (deepL [sl false ⟨1,true⟩ i]) <|
 C69 a 0 ([]) fun s =>
 C139 s false fun t =>
 .bif (t)
 (Z94_0)
 (H94_79 d f a i g h ((b.length : Nat) : Int) 0))
theorem eH94_76 {a : List TV} {b : Int} {c : List TV} {d : Int} {f g : List TV} {i j : List TV} {k : Int} {r : Res} (h : S cx 94 (NH94_76 a b c d f g i j k) = some r) : S cx 94 (H94_76 a b c d f g i j k) = some r :=
 hw_of (fun call hd hb pt rg => by kernel_rfl) h
noncomputable def NR94_77 (a : List TV) (b : Int) (c d : List TV) : Nd :=
 Z94_13 a b c d
theorem eR94_77 {a : List TV} {b : Int} {c d : List TV} {r : Res} (h : S cx 94 (NR94_77 a b c d) = some r) : S cx 94 (R94_77 a b c d) = some r :=
 gw_of (fun call hd hb pt rg => by kernel_rfl) h
noncomputable def NR94_78 (a : List TV) (b : Int) (c d : List TV) : Nd :=
 Z94_12 a b c d
theorem eR94_78 {a : List TV} {b : Int} {c d : List TV} {r : Res} (h : S cx 94 (NR94_78 a b c d) = some r) : S cx 94 (R94_78 a b c d) = some r :=
 gw_of (fun call hd hb pt rg => by kernel_rfl) h
noncomputable def NH94_79 (a : List TV) (b : Int) (c d : List TV) (f g : List TV) (i h : Int) : Nd :=
 .bif (decide (h < i))
 (C140 a b c d f g h fun j =>
 .bif ((!j))
 (Z94_0)
 (B94_79 a b c d f g i (w64 (h + 1))))
 (.ret [.pt false () (.st [.st [sl true ⟨6,true⟩ a, i64 b], sl false ⟨1,true⟩ c, sl false ⟨1,true⟩ d, sl false ⟨1,false⟩ f, sl false ⟨1,false⟩ g])] [])
theorem eH94_79 {a : List TV} {b : Int} {c d : List TV} {f g : List TV} {i j : Int} {r : Res} (h : S cx 94 (NH94_79 a b c d f g i j) = some r) : S cx 94 (H94_79 a b c d f g i j) = some r :=
 hw_of (fun call hd hb pt rg => by kernel_rfl) h
end Go.Tree.Q

/- Trees of values: program points of functions. -/
namespace Go.Tree.Q
open Go.Proofs
set_option linter.unusedVariables false
set_option maxRecDepth 20000
noncomputable def EG95_0 (a : List TV) (b : Int) (c d : List TV) (f g : List TV) (h : Int) (i j : List TV) (k l : List TV) (m n o : List TV) : Env := [w13 a b c d f g, .un, w6 h, .un, w1 i j k, .un, .un, w29 l m n o] ++ uns 99
noncomputable abbrev G95_0 (a : List TV) (b : Int) (c d : List TV) (f g : List TV) (h : Int) (i j : List TV) (k l : List TV) (m n o : List TV) : Nd := .go [1, 1] (EG95_0 a b c d f g h i j k l m n o)
noncomputable def EG95_1 (a : List TV) (b : Int) (c d : List TV) (f g : List TV) (h : Int) (i j : List TV) (k l : List TV) : Env := [w13 a b c d f g, .un, w6 h, .un, .un, .un, .un, w29 i j k l] ++ uns 99
noncomputable abbrev G95_1 (a : List TV) (b : Int) (c d : List TV) (f g : List TV) (h : Int) (i j : List TV) (k l : List TV) : Nd := .go [1, 1, 1] (EG95_1 a b c d f g h i j k l)
noncomputable def EH95_2 (a : List TV) (b : Int) (c d : List TV) (f g : List TV) (h : Int) (i j : List TV) (k l : List TV) (m n : Int) (o p q : Int) (r : List TV) : Env := [w13 a b c d f g, .un, w6 h, .un, .un, .un, .un, w22 i j k l m n o p, w6 q, w10 r] ++ uns 97
noncomputable abbrev H95_2 (a : List TV) (b : Int) (c d : List TV) (f g : List TV) (h : Int) (i j : List TV) (k l : List TV) (m n : Int) (o p q : Int) (r : List TV) : Nd := .head [1, 1, 1, 1, 1, 0, 2] (EH95_2 a b c d f g h i j k l m n o p q r)
noncomputable abbrev B95_2 (a : List TV) (b : Int) (c d : List TV) (f g : List TV) (h : Int) (i j : List TV) (k l : List TV) (m n : Int) (o p q : Int) (r : List TV) : Nd := .back [1, 1, 1, 1, 1, 0, 2] (EH95_2 a b c d f g h i j k l m n o p q r)
noncomputable def EH95_3 (a : List TV) (c : Int) (d f : List TV) (g h : List TV) (j : Int) (k l : List TV) (m n : List TV) (o p : Int) (q r s : Int) (t : List TV) (u : Nat) (b : List TV) (v : Int) : Env := [w13 a c d f g h, .un, w6 j, .un, .un, .un, .un, w22 k l m n o p q r, w6 s, w10 t, .adr 56 [.i 119 u]] ++ uns 45 ++ [w24 a] ++ uns 16 ++ [w3 b, w8 b, w6 v] ++ uns 31
noncomputable abbrev H95_3 (a : List TV) (b : Int) (c d : List TV) (f g : List TV) (h : Int) (i j : List TV) (k l : List TV) (m n : Int) (o p q : Int) (r : List TV) (s : Nat) (t : List TV) (u : Int) : Nd := .head [1, 1, 1, 1, 1, 0, 2, 5, 1, 2, 1, 1, 1, 0, 1, 2] (EH95_3 a b c d f g h i j k l m n o p q r s t u)
noncomputable abbrev B95_3 (a : List TV) (b : Int) (c d : List TV) (f g : List TV) (h : Int) (i j : List TV) (k l : List TV) (m n : Int) (o p q : Int) (r : List TV) (s : Nat) (t : List TV) (u : Int) : Nd := .back [1, 1, 1, 1, 1, 0, 2, 5, 1, 2, 1, 1, 1, 0, 1, 2] (EH95_3 a b c d f g h i j k l m n o p q r s t u)
noncomputable def N95_s0 (f : List TV) (a : Int) (g h : List TV) (i j : List TV) (b c d : List TV) (k : Int) : Nd :=
 C58 b c d fun l m n =>
 C114 ([i64 (-1)]) a fun o =>
 G95_0 f a g h i j k b c d l m n o
noncomputable def N95_s1 (a : List TV) (b : Int) (c d : List TV) (f g : List TV) (h i j : List TV) (k : Int) : Nd :=
 .amb2
 (N95_s0 a b c d f g h i j k)
 (N95_s0 a b c d f g h i j k)
noncomputable def N95 (a : List TV) (b : Int) (c d : List TV) (f g : List TV) (h i j : List TV) (k : Int) : Nd :=
 .amb3
 (N95_s0 a b c d f g h i j k)
 (N95_s1 a b c d f g h i j k)
 (N95_s1 a b c d f g h i j k)
theorem e95 {a : List TV} {b : Int} {c d : List TV} {f g : List TV} {i j k : List TV} {l : Int} {r : Res} (h : S cx 95 (N95 a b c d f g i j k l) = some r) : tw cx 95 [.pt true () (.st [.st [sl true ⟨6,true⟩ a, i64 b], sl false ⟨1,true⟩ c, sl false ⟨1,true⟩ d, sl false ⟨1,false⟩ f, sl false ⟨1,false⟩ g]), .st [sl true ⟨1,false⟩ i, sl true ⟨1,false⟩ j, sl true ⟨1,false⟩ k], i64 l] = some r :=
 tw_of (fun call hd hb pt rg => by kernel_rfl) h
noncomputable def NG95_0 (b : List TV) (c : Int) (d f : List TV) (g h : List TV) (i : Int) (n o : List TV) (p j : List TV) (k l m : List TV) : Nd :=
 .amb2
 (C106 n fun a =>
 .ck (decide ((a.length + 4) * 8 < lim)) <|
 G95_1 b c d f g h i j k l (cpyT m (a ++ List.replicate 4 (i64 0))))
 (C106 n fun a =>
 .amb2
 (.ck (decide ((a.length + 4) * 8 < lim)) <|
 G95_1 b c d f g h i j k l (cpyT m (a ++ List.replicate 4 (i64 0))))
 (.ck (decide ((a.length + 4) * 8 < lim)) <|
 G95_1 b c d f g h i j k l (cpyT m (a ++ List.replicate 4 (i64 0)))))
theorem eG95_0 {a : List TV} {b : Int} {c d : List TV} {f g : List TV} {i : Int} {j k : List TV} {l m : List TV} {n o p : List TV} {r : Res} (h : S cx 95 (NG95_0 a b c d f g i j k l m n o p) = some r) : S cx 95 (G95_0 a b c d f g i j k l m n o p) = some r :=
 pw_of (fun call hd hb pt rg => by kernel_rfl) h
noncomputable def NG95_1 (b : List TV) (c : Int) (d f : List TV) (g h : List TV) (i : Int) (a j : List TV) (k l : List TV) : Nd :=
 H95_2 b c d f g h i (cpyT a (List.replicate a.length (i64 0))) j k l 3 0 (-1) 0 0 ([])
theorem eG95_1 {a : List TV} {b : Int} {c d : List TV} {f g : List TV} {i : Int} {j k : List TV} {l m : List TV} {r : Res} (h : S cx 95 (NG95_1 a b c d f g i j k l m) = some r) : S cx 95 (G95_1 a b c d f g i j k l m) = some r :=
 pw_of (fun call hd hb pt rg => by kernel_rfl) h
noncomputable def NH95_2 (d : List TV) (m : Int) (n o : List TV) (p q : List TV) (k : Int) (f g : List TV) (h i : List TV) (b c : Int) (l j a : Int) (r : List TV) : Nd :=
 .bif ((b == 3))
 (.bif (decide (c < k))
 (.ck (decide ((0 : Int) ≤ a) && decide (a < ((d.length : Nat) : Int))) <|
 V6 (d.getD (0 + a.toNat) (.dead ())) fun s t u v w x =>
 H95_3 d m n o p q k f g h i b (w64 (c + 1)) a j a r (0 + a.toNat) s 0)
 (.ret [.pt false () (.st [.st [sl false ⟨1,false⟩ f, sl false ⟨1,false⟩ g, sl false ⟨1,false⟩ h], sl false ⟨1,false⟩ i, i64 b, i64 c, i64 l, i64 j])] []))
 (.ret [.pt false () (.st [.st [sl false ⟨1,false⟩ f, sl false ⟨1,false⟩ g, sl false ⟨1,false⟩ h], sl false ⟨1,false⟩ i, i64 b, i64 c, i64 l, i64 j])] [])
theorem eH95_2 {a : List TV} {b : Int} {c d : List TV} {f g : List TV} {i : Int} {j k : List TV} {l m : List TV} {n o : Int} {p q s : Int} {t : List TV} {r : Res} (h : S cx 95 (NH95_2 a b c d f g i j k l m n o p q s t) = some r) : S cx 95 (H95_2 a b c d f g i j k l m n o p q s t) = some r :=
 hw_of (fun call hd hb pt rg => by kernel_rfl) h
noncomputable def NH95_3 (b : List TV) (f : Int) (g h : List TV) (i j : List TV) (k : Int) (o p : List TV) (q l : List TV) (r s : Int) (t u v : Int) (c : List TV) (m : Nat) (d : List TV) (a : Int) : Nd :=
 .bif (decide (a < ((d.length : Nat) : Int)))
 (.ck (decide ((0 : Int) ≤ a) && decide (a < ((d.length : Nat) : Int))) <|
 .int .i64 (d.getD (0 + a.toNat) (.dead ())) fun n =>
 .ck (decide ((0 : Int) ≤ a) && decide (a < ((c.length : Nat) : Int))) <|
 .int .i64 (c.getD (0 + a.toNat) (.dead ())) fun ad =>
 .ck (decide ((0 : Int) ≤ n) && decide (n < ((l.length : Nat) : Int))) <|
 B95_3 b f g h i j k o p q (l.set (0 + n.toNat) (i64 ad)) r s t u v c m d (w64 (a + 1)))
 (V6 (b.getD m (.dead ())) fun ae af ag ah ai aj =>
 C141 o p q l r s t u ae af ag ah ai aj fun ak w x y z al aa ab ac =>
 .bif (ak)
 (V6 (b.getD m (.dead ())) fun am an ao ap aq ar =>
 C142 w x y z al aa ab ac am an ao ap aq ar fun au av aw ax ay az a0 a1 a2 a3 =>
 B95_2 b f g h i j k aw ax ay az a0 a1 a2 a3 au av)
 (B95_2 b f g h i j k w x y z 2 aa ab ac v c))
theorem eH95_3 {a : List TV} {b : Int} {c d : List TV} {f g : List TV} {i : Int} {j k : List TV} {l m : List TV} {n o : Int} {p q s : Int} {t : List TV} {u : Nat} {v : List TV} {w : Int} {r : Res} (h : S cx 95 (NH95_3 a b c d f g i j k l m n o p q s t u v w) = some r) : S cx 95 (H95_3 a b c d f g i j k l m n o p q s t u v w) = some r :=
 hw_of (fun call hd hb pt rg => by kernel_rfl) h
noncomputable def N96 (a b : List TV) (c d : Int) (f g : List TV) (h i : List TV) (j k : Int) (l m : List TV) : Nd :=
 C17 a h fun n =>
 .bif ((!n))
 (.ret [tb false] [])
 (C143 b i fun o =>
 .bif ((!o))
 (.ret [tb false] [])
 (.bif ((c != j))
 (.ret [tb false] [])
 (.bif ((d != k))
 (.ret [tb false] [])
 (C17 f l fun p =>
 .bif ((!p))
 (.ret [tb false] [])
 (C144 g m fun q =>
 .bif ((!q))
 (.ret [tb false] [])
 (.ret [tb true] []))))))
theorem e96 {a b : List TV} {c d : Int} {f g : List TV} {i j : List TV} {k l : Int} {m n : List TV} {r : Res} (h : S cx 96 (N96 a b c d f g i j k l m n) = some r) : tw cx 96 [.st [sl true ⟨1,false⟩ a, sl true ⟨6,false⟩ b, i64 c, i64 d, sl true ⟨1,false⟩ f, sl true ⟨1,true⟩ g], .st [sl true ⟨1,false⟩ i, sl true ⟨6,false⟩ j, i64 k, i64 l, sl true ⟨1,false⟩ m, sl true ⟨1,true⟩ n]] = some r :=
 tw_of (fun call hd hb pt rg => by kernel_rfl) h
noncomputable def N105 (a : List TV) : Nd :=
 C126_1 a fun b =>
 .ret [tb (!b)] []
theorem e105 {a : List TV} {r : Res} (h : S cx 105 (N105 a) = some r) : tw cx 105 [sl true ⟨1,false⟩ a] = some r :=
 tw_of (fun call hd hb pt rg => by kernel_rfl) h
noncomputable def N106 (a : List TV) : Nd :=
 .isNil a
 (.amb2
 (.ret [sl false ⟨1,false⟩ ([])] [])
 (.ck (decide ((0 + a.length) * 8 < lim)) <|
 .ret [sl false ⟨1,false⟩ (([]) ++ a)] []))
 (.ck (decide ((0 + a.length) * 8 < lim)) <|
 .ret [sl false ⟨1,false⟩ (([]) ++ a)] [])
theorem e106 {a : List TV} {r : Res} (h : S cx 106 (N106 a) = some r) : tw cx 106 [sl true ⟨1,false⟩ a] = some r :=
 tw_of (fun call hd hb pt rg => by kernel_rfl) h
noncomputable def N107 (c b a : Int) : Nd :=
 .bif ((c == 4))
 (.ret [i64 (w64 (((BitVec.ofInt 64 (w64 (b + a)) &&& BitVec.ofInt 64 65535).toNat : Int))), tb true] [])
 (.bif ((c == 5))
 (.ret [i64 (w64 (((BitVec.ofInt 64 (w64 (b - a)) &&& BitVec.ofInt 64 65535).toNat : Int))), tb true] [])
 (.bif ((c == 6))
 (.ret [i64 (w64 (((BitVec.ofInt 64 (w64 (b * a)) &&& BitVec.ofInt 64 65535).toNat : Int))), tb true] [])
 (.bif ((c == 7))
 (.bif ((a == 0))
 (.ret [i64 0, tb false] [])
 (.ck ((!(decide (a = 0)))) <|
 .ret [i64 (w64 (b.tdiv a)), tb true] []))
 (.bif ((c == 8))
 (C111 (decide (b < a)) fun d =>
 .ret [i64 d, tb true] [])
 (C111 (b == a) fun f =>
 .ret [i64 f, tb true] [])))))
theorem e107 {a b c : Int} {r : Res} (h : S cx 107 (N107 a b c) = some r) : tw cx 107 [i64 a, i64 b, i64 c] = some r :=
 tw_of (fun call hd hb pt rg => by kernel_rfl) h
noncomputable def N108 (d b f : List TV) (a : Int) : Nd :=
 .bif (decide (a ≥ 16))
 (.ret [i64 0, tb false] [])
 (.ck (decide ((0 : Int) ≤ a) && decide (a < ((b.length : Nat) : Int))) <|
 .int .i64 (b.getD (0 + a.toNat) (.dead ())) fun c =>
 .ret [i64 c, tb true] [])
theorem e108 {a b c : List TV} {d : Int} {r : Res} (h : S cx 108 (N108 a b c d) = some r) : tw cx 108 [.pt true () (.st [sl false ⟨1,false⟩ a, sl false ⟨1,false⟩ b, sl false ⟨1,false⟩ c]), i64 d] = some r :=
 tw_of (fun call hd hb pt rg => by kernel_rfl) h
noncomputable def N111 (a : Bool) : Nd :=
 .bif (a)
 (.ret [i64 1] [])
 (.ret [i64 0] [])
theorem e111 {a : Bool} {r : Res} (h : S cx 111 (N111 a) = some r) : tw cx 111 [tb a] = some r :=
 tw_of (fun call hd hb pt rg => by kernel_rfl) h
noncomputable def EH112_0 (b : Int) (a : List TV) (c d : Int) (f : List TV) (g : Int) : Env := [.un, w6 b, .val [] (.pt false () (.st [sl true ⟨6,false⟩ a, i64 c, i64 d, sl true ⟨1,false⟩ f]))] ++ uns 8 ++ [w25 a, w8 a, w6 g] ++ uns 92
noncomputable abbrev H112_0 (a : Int) (b : List TV) (c d : Int) (f : List TV) (g : Int) : Nd := .head [1, 0, 1, 2] (EH112_0 a b c d f g)
noncomputable abbrev B112_0 (a : Int) (b : List TV) (c d : Int) (f : List TV) (g : Int) : Nd := .back [1, 0, 1, 2] (EH112_0 a b c d f g)
noncomputable def EH112_1 (b : Int) (c : List TV) (d f : Int) (a : List TV) (g : Int) : Env := [.un, w6 b, .val [] (.pt false () (.st [sl true ⟨6,false⟩ c, i64 d, i64 f, sl true ⟨1,false⟩ a]))] ++ uns 19 ++ [w3 a, w8 a, w6 g] ++ uns 81
noncomputable abbrev H112_1 (a : Int) (b : List TV) (c d : Int) (f : List TV) (g : Int) : Nd := .head [1, 1, 0, 1, 2] (EH112_1 a b c d f g)
noncomputable abbrev B112_1 (a : Int) (b : List TV) (c d : Int) (f : List TV) (g : Int) : Nd := .back [1, 1, 0, 1, 2] (EH112_1 a b c d f g)
noncomputable def N112 (a : List TV) (b c : Int) (d : List TV) (f : Int) : Nd :=
 H112_0 f a b c d 0
theorem e112 {a : List TV} {b c : Int} {d : List TV} {f : Int} {r : Res} (h : S cx 112 (N112 a b c d f) = some r) : tw cx 112 [.st [sl true ⟨6,false⟩ a, i64 b, i64 c, sl true ⟨1,false⟩ d], i64 f] = some r :=
 tw_of (fun call hd hb pt rg => by kernel_rfl) h
noncomputable def NH112_0 (c : Int) (a : List TV) (d f : Int) (g : List TV) (b : Int) : Nd :=
 .bif (decide (b < ((a.length : Nat) : Int)))
 (.ck (decide ((0 : Int) ≤ b) && decide (b < ((a.length : Nat) : Int))) <|
 V6_1 (a.getD (0 + b.toNat) (.dead ())) fun h i j k l m =>
 C130 h i j k l m fun n =>
 .bif ((!n))
 (.ret [tb false] [])
 (B112_0 c a d f g (w64 (b + 1))))
 (H112_1 c a d f g 0)
theorem eH112_0 {a : Int} {b : List TV} {c d : Int} {f : List TV} {g : Int} {r : Res} (h : S cx 112 (NH112_0 a b c d f g) = some r) : S cx 112 (H112_0 a b c d f g) = some r :=
 hw_of (fun call hd hb pt rg => by kernel_rfl) h
noncomputable def NH112_1_s0 (a : List TV) (b : Int) : Nd :=
 C154 b fun c =>
 .bif (c)
 (.ret [tb (decide (((a.length : Nat) : Int) ≤ 60))] [])
 (.ret [tb false] [])
noncomputable def NH112_1 (g : Int) (b : List TV) (c d : Int) (a : List TV) (f : Int) : Nd :=
 .bif (decide (f < ((a.length : Nat) : Int)))
 (.ck (decide ((0 : Int) ≤ f) && decide (f < ((a.length : Nat) : Int))) <|
 .int .i64 (a.getD (0 + f.toNat) (.dead ())) fun h =>
 .bif (decide (h < 0))
 (.ret [tb false] [])
 (.bif (decide (h ≥ g))
 (.ret [tb false] [])
 (B112_1 g b c d a (w64 (f + 1)))))
 (.bif ((c == 1))
 (.bif ((((a.length : Nat) : Int) == 1))
 (.bif ((d == 0))
 (.ret [tb (decide (((b.length : Nat) : Int) ≤ 60))] [])
 (.ret [tb false] []))
 (.ret [tb false] []))
 (.bif ((c == 2))
 (.bif ((((a.length : Nat) : Int) == 2))
 (NH112_1_s0 b d)
 (.ret [tb false] []))
 (.bif ((c == 5))
 (C80 ((a.length : Nat) : Int) 2 6 fun i =>
 .bif (i)
 (NH112_1_s0 b d)
 (.ret [tb false] []))
 (C80 c 3 4 fun j =>
 .bif (j)
 (.bif ((((a.length : Nat) : Int) == 0))
 (.bif ((d == 0))
 (.ret [tb (decide (((b.length : Nat) : Int) ≤ 60))] [])
 (.ret [tb false] []))
 (.ret [tb false] []))
 (.ret [tb false] [])))))
theorem eH112_1 {a : Int} {b : List TV} {c d : Int} {f : List TV} {g : Int} {r : Res} (h : S cx 112 (NH112_1 a b c d f g) = some r) : S cx 112 (H112_1 a b c d f g) = some r :=
 hw_of (fun call hd hb pt rg => by kernel_rfl) h
noncomputable def EG114_0 (a : List TV) (b : Int) : Env := [w3 a, w6 b] ++ uns 48
noncomputable abbrev G114_0 (a : List TV) (b : Int) : Nd := .go [1, 1] (EG114_0 a b)
noncomputable def EG114_1 (a : List TV) (b : Int) : Env := [w3 a, .un, .un, .un, .un, .un, .val [] (.fl (.int .u64 b))] ++ uns 43
noncomputable abbrev G114_1 (a : List TV) (b : Int) : Nd := .go [1, 1, 1, 1] (EG114_1 a b)
noncomputable def EH114_2 (a : List TV) (b : Int) : Env := uns 7 ++ [w10 a, w6 b] ++ uns 41
noncomputable abbrev H114_2 (a : List TV) (b : Int) : Nd := .head [1, 1, 1, 1, 1, 1, 0, 2] (EH114_2 a b)
noncomputable abbrev B114_2 (a : List TV) (b : Int) : Nd := .back [1, 1, 1, 1, 1, 1, 0, 2] (EH114_2 a b)
noncomputable def N114 (b : List TV) (a : Int) : Nd :=
 .bif (decide (a < 0))
 (.non)
 (G114_0 b a)
theorem e114 {a : List TV} {b : Int} {r : Res} (h : S cx 114 (N114 a b) = some r) : tw cx 114 [sl true ⟨1,false⟩ a, i64 b] = some r :=
 tw_of (fun call hd hb pt rg => by kernel_rfl) h
noncomputable def NG114_0 (a : List TV) (c : Int) : Nd :=
 C155 (IntKind.u64.wrap (((a.length : Nat) : Int))) (IntKind.u64.wrap (c)) fun d b =>
 .bif (decide (d > 0))
 (.non)
 (.bif (decide (b > 9223372036854775807))
 (.non)
 (G114_1 a b))
theorem eG114_0 {a : List TV} {b : Int} {r : Res} (h : S cx 114 (NG114_0 a b) = some r) : S cx 114 (G114_0 a b) = some r :=
 pw_of (fun call hd hb pt rg => by kernel_rfl) h
noncomputable def NG114_1 (b : List TV) (a : Int) : Nd :=
 .ck (decide ((0 : Int) ≤ w64 (a)) && decide (w64 (a) ≤ w64 (a)) && decide (w64 (a) * 8 < (lim : Int)) && decide (w64 (a) < 9223372036854775807) && true && true) <|
 H114_2 (cpyT (List.replicate ((w64 (a)).toNat) (i64 0)) b) ((min b.length ((List.replicate ((w64 (a)).toNat) (i64 0)).length) : Nat) : Int)
theorem eG114_1 {a : List TV} {b : Int} {r : Res} (h : S cx 114 (NG114_1 a b) = some r) : S cx 114 (G114_1 a b) = some r :=
 pw_of (fun call hd hb pt rg => by kernel_rfl) h
noncomputable def NH114_2 (a : List TV) (b : Int) : Nd :=
 .bif (decide (b < ((a.length : Nat) : Int)))
 (.ck (decide ((0 : Int) ≤ b) && decide (b ≤ ((a.length : Nat) : Int)) && decide (((a.length : Nat) : Int) ≤ ((a.length : Nat) : Int))) <|
 .ck (decide ((0 : Int) ≤ b) && decide (b ≤ ((a.length : Nat) : Int))) <|
 B114_2 (cpyS (some ((0 + b.toNat), (((a.length : Nat) : Int) - b).toNat)) a ((a.drop 0).take ((b - 0).toNat))) (w64 (b + ((min (((a.drop 0).take ((b - 0).toNat)).length) ((((a.length : Nat) : Int) - b).toNat) : Nat) : Int))))
 (.ret [sl false ⟨1,false⟩ a] [])
theorem eH114_2 {a : List TV} {b : Int} {r : Res} (h : S cx 114 (NH114_2 a b) = some r) : S cx 114 (H114_2 a b) = some r :=
 hw_of (fun call hd hb pt rg => by kernel_rfl) h
noncomputable def EH116_0 (b : Int) (a : List TV) (c : Int) : Env := [.un, w6 b, .un, .un, .un, .un, .un, w3 a, w8 a, w6 c] ++ uns 9
noncomputable abbrev H116_0 (a : Int) (b : List TV) (c : Int) : Nd := .head [1, 0, 1, 2] (EH116_0 a b c)
noncomputable abbrev B116_0 (a : Int) (b : List TV) (c : Int) : Nd := .back [1, 0, 1, 2] (EH116_0 a b c)
noncomputable def N116 (a : List TV) (b : Int) : Nd :=
 H116_0 b a 0
theorem e116 {a : List TV} {b : Int} {r : Res} (h : S cx 116 (N116 a b) = some r) : tw cx 116 [sl true ⟨1,false⟩ a, i64 b] = some r :=
 tw_of (fun call hd hb pt rg => by kernel_rfl) h
noncomputable def NH116_0 (c : Int) (b : List TV) (a : Int) : Nd :=
 .bif (decide (a < ((b.length : Nat) : Int)))
 (.ck (decide ((0 : Int) ≤ a) && decide (a < ((b.length : Nat) : Int))) <|
 .int .i64 (b.getD (0 + a.toNat) (.dead ())) fun d =>
 .bif ((d == c))
 (.ret [tb true] [])
 (B116_0 c b (w64 (a + 1))))
 (.ret [tb false] [])
theorem eH116_0 {a : Int} {b : List TV} {c : Int} {r : Res} (h : S cx 116 (NH116_0 a b c) = some r) : S cx 116 (H116_0 a b c) = some r :=
 hw_of (fun call hd hb pt rg => by kernel_rfl) h
noncomputable def N119 (a : List TV) (b : Int) : Nd :=
 C157 a b fun c =>
 .ret [tb (decide (c ≥ 0))] []
theorem e119 {a : List TV} {b : Int} {r : Res} (h : S cx 119 (N119 a b) = some r) : tw cx 119 [sl true ⟨1,false⟩ a, i64 b] = some r :=
 tw_of (fun call hd hb pt rg => by kernel_rfl) h
noncomputable def EH120_0 (a b : Int) (c : List TV) : Env := [.ref 48 [] none 25 false, w6 a, .un, .un, .un, w6 b] ++ uns 42 ++ [w10 c, .un]
noncomputable abbrev H120_0 (a b : Int) (c : List TV) : Nd := .head [1, 1, 0, 2] (EH120_0 a b c)
noncomputable abbrev B120_0 (a b : Int) (c : List TV) : Nd := .back [1, 1, 0, 2] (EH120_0 a b c)
noncomputable def N120 (a : List TV) (b : Int) : Nd :=
 H120_0 b 0 a
theorem e120 {a : List TV} {b : Int} {r : Res} (h : S cx 120 (N120 a b) = some r) : tw cx 120 [sl false ⟨1,false⟩ a, i64 b] = some r :=
 tw_of (fun call hd hb pt rg => by kernel_rfl) h
noncomputable def NH120_0_s0 (c a : Int) (b : List TV) : Nd :=
 .ck (decide ((0 : Int) ≤ a) && decide (a ≤ ((b.length : Nat) : Int))) <|
 .ck (decide ((0 + ((b.drop 0).take ((a - 0).toNat)).length) * 8 < lim)) <|
 .ck (decide (((([]) ++ ((b.drop 0).take ((a - 0).toNat))).length + ([i64 c] : List TV).length) * 8 < lim)) <|
 .ck (decide ((0 : Int) ≤ a) && decide (a ≤ ((b.length : Nat) : Int)) && decide (((b.length : Nat) : Int) ≤ ((b.length : Nat) : Int))) <|
 .ck (decide ((((([]) ++ ((b.drop 0).take ((a - 0).toNat))) ++ ([i64 c])).length + ((b.drop (0 + a.toNat)).take ((((b.length : Nat) : Int) - a).toNat)).length) * 8 < lim)) <|
 .ret [sl false ⟨1,false⟩ (((([]) ++ ((b.drop 0).take ((a - 0).toNat))) ++ ([i64 c])) ++ ((b.drop (0 + a.toNat)).take ((((b.length : Nat) : Int) - a).toNat)))] []
noncomputable def NH120_0 (c a : Int) (b : List TV) : Nd :=
 .bif (decide (a < ((b.length : Nat) : Int)))
 (.ck (decide ((0 : Int) ≤ a) && decide (a < ((b.length : Nat) : Int))) <|
 .int .i64 (b.getD (0 + a.toNat) (.dead ())) fun d =>
 .bif (decide (d < c))
 (B120_0 c (w64 (a + 1)) b)
 (.bif (decide (a < ((b.length : Nat) : Int)))
 (.ck (decide ((0 : Int) ≤ a) && decide (a < ((b.length : Nat) : Int))) <|
 .int .i64 (b.getD (0 + a.toNat) (.dead ())) fun f =>
 .bif ((f == c))
 (.ret [sl false ⟨1,false⟩ b] [])
 (NH120_0_s0 c a b))
 (NH120_0_s0 c a b)))
 (.bif (decide (a < ((b.length : Nat) : Int)))
 (.ck (decide ((0 : Int) ≤ a) && decide (a < ((b.length : Nat) : Int))) <|
 .int .i64 (b.getD (0 + a.toNat) (.dead ())) fun d =>
 .bif ((d == c))
 (.ret [sl false ⟨1,false⟩ b] [])
 (NH120_0_s0 c a b))
 (NH120_0_s0 c a b))
theorem eH120_0 {a b : Int} {c : List TV} {r : Res} (h : S cx 120 (NH120_0 a b c) = some r) : S cx 120 (H120_0 a b c) = some r :=
 hw_of (fun call hd hb pt rg => by kernel_rfl) h
noncomputable def N122 (a : List TV) (b : Int) : Nd :=
 C158 a b fun c =>
 .ret [tb (decide (c ≥ 0))] []
theorem e122 {a : List TV} {b : Int} {r : Res} (h : S cx 122 (N122 a b) = some r) : tw cx 122 [sl true ⟨6,false⟩ a, .cl 123 [.pt true () (i64 b)]] = some r :=
 tw_of (fun call hd hb pt rg => by kernel_rfl) h
noncomputable def N123 (a b : Int) (c d : Int) (f g h : Int) : Nd :=
 C124 a b c d f g h fun i =>
 .ret [tb (!i)] []
theorem e123 {a b : Int} {c d : Int} {f g i : Int} {r : Res} (h : S cx 123 (N123 a b c d f g i) = some r) : tw cx 123 [.st [i64 a, i64 b, i64 c, i64 d, i64 f, i64 g], .pt true () (i64 i)] = some r :=
 tw_of (fun call hd hb pt rg => by kernel_rfl) h
noncomputable def N124_s0 (a : Int) (b : Bool) : Nd :=
 .bif (b)
 (C161 a fun c =>
 .bif (c)
 (.ret [tb true] [])
 (.bif ((!b))
 (.ret [tb (a == 0)] [])
 (.ret [tb false] [])))
 (.bif ((!b))
 (.ret [tb (a == 0)] [])
 (.ret [tb false] []))
noncomputable def N124_s1 (a b : Int) (c d : Bool) : Nd :=
 .bif ((!c))
 (.bif ((b == 0))
 (N124_s0 a d)
 (.ret [tb false] []))
 (.ret [tb false] [])
noncomputable def N124 (g a : Int) (h i : Int) (j b c : Int) : Nd :=
 C159 g fun k l m d f n =>
 .bif ((!n))
 (.ret [tb false] [])
 (C160 k h c fun o =>
 .bif ((!o))
 (.ret [tb false] [])
 (C160 l i c fun p =>
 .bif ((!p))
 (.ret [tb false] [])
 (C160 m j c fun q =>
 .bif ((!q))
 (.ret [tb false] [])
 (.bif (d)
 (C153 b fun r =>
 .bif (r)
 (N124_s0 a f)
 (N124_s1 a b d f))
 (N124_s1 a b d f)))))
theorem e124 {a b : Int} {c d : Int} {f g i : Int} {r : Res} (h : S cx 124 (N124 a b c d f g i) = some r) : tw cx 124 [.st [i64 a, i64 b, i64 c, i64 d, i64 f, i64 g], i64 i] = some r :=
 tw_of (fun call hd hb pt rg => by kernel_rfl) h
noncomputable def N125 (a : Int) : Nd :=
 .bif ((a == 2))
 (.ret [tb true] [])
 (.ret [tb (a == 5)] [])
theorem e125 {a : Int} {r : Res} (h : S cx 125 (N125 a) = some r) : tw cx 125 [i64 a] = some r :=
 tw_of (fun call hd hb pt rg => by kernel_rfl) h
noncomputable def N126 (a : List TV) : Nd :=
 C162 a fun b =>
 .ret [tb (decide (b ≥ 0))] []
theorem e126 {a : List TV} {r : Res} (h : S cx 126 (N126 a) = some r) : tw cx 126 [sl true ⟨1,false⟩ a, .cl 152 []] = some r :=
 tw_of (fun call hd hb pt rg => by kernel_rfl) h
noncomputable def N126b (a : List TV) (b : Int) : Nd :=
 C162_1 a b fun c =>
 .ret [tb (decide (c ≥ 0))] []
theorem e126b {a : List TV} {b : Int} {r : Res} (h : S cx 126 (N126b a b) = some r) : tw cx 126 [sl true ⟨1,false⟩ a, .cl 127 [.pt true () (i64 b)]] = some r :=
 tw_of (fun call hd hb pt rg => by kernel_rfl) h
noncomputable def N127 (a b : Int) : Nd :=
 C57 a 0 (w64 (b - 1)) fun c =>
 .ret [tb (!c)] []
theorem e127 {a b : Int} {r : Res} (h : S cx 127 (N127 a b) = some r) : tw cx 127 [i64 a, .pt true () (i64 b)] = some r :=
 tw_of (fun call hd hb pt rg => by kernel_rfl) h
noncomputable def N128 (a : List TV) (b : Int) : Nd :=
 .bif (decide (w64 (b - ((a.length : Nat) : Int)) < 0))
 (.ret [i64 (-1)] [])
 (.ret [i64 (w64 (b - ((a.length : Nat) : Int)))] [])
theorem e128 {a : List TV} {b : Int} {r : Res} (h : S cx 128 (N128 a b) = some r) : tw cx 128 [sl true ⟨6,false⟩ a, i64 b] = some r :=
 tw_of (fun call hd hb pt rg => by kernel_rfl) h
noncomputable def EH129_0 (a : List TV) (b c : Int) : Env := [w26 a, w6 b, .un, .un, .un, w6 c] ++ uns 23
noncomputable abbrev H129_0 (a : List TV) (b c : Int) : Nd := .head [1, 1, 1, 0, 1, 2] (EH129_0 a b c)
noncomputable abbrev B129_0 (a : List TV) (b c : Int) : Nd := .back [1, 1, 1, 0, 1, 2] (EH129_0 a b c)
noncomputable def N129 (a : List TV) (b : Int) : Nd :=
 .bif (decide (w64 (b - ((a.length : Nat) : Int)) < 0))
 (.ret [i64 (-1)] [])
 (H129_0 a (w64 (b - ((a.length : Nat) : Int))) 0)
theorem e129 {a : List TV} {b : Int} {r : Res} (h : S cx 129 (N129 a b) = some r) : tw cx 129 [sl true ⟨1,true⟩ a, i64 b] = some r :=
 tw_of (fun call hd hb pt rg => by kernel_rfl) h
noncomputable def NH129_0 (b : List TV) (c a : Int) : Nd :=
 .bif (decide (a < ((b.length : Nat) : Int)))
 (.ck (decide ((0 : Int) ≤ a) && decide (a < ((b.length : Nat) : Int))) <|
 .slR ⟨1,false⟩ (b.getD (0 + a.toNat) (.dead ())) fun f =>
 C42 f c fun d =>
 .bif (decide (d < 0))
 (.ret [i64 (-1)] [])
 (B129_0 b d (w64 (a + 1))))
 (.ret [i64 c] [])
theorem eH129_0 {a : List TV} {b c : Int} {r : Res} (h : S cx 129 (NH129_0 a b c) = some r) : S cx 129 (H129_0 a b c) = some r :=
 hw_of (fun call hd hb pt rg => by kernel_rfl) h
noncomputable def EG130_0 (a b : Int) (c d : Int) (f g : Int) (h : Bool) : Env := [.un, w28 a b c d f g] ++ uns 20 ++ [w6 a] ++ uns 20 ++ [.val [] (tb h)] ++ uns 69
noncomputable abbrev G130_0 (a b : Int) (c d : Int) (f g : Int) (h : Bool) : Nd := .go [1, 1, 0, 1, 2, 1, 4, 1] (EG130_0 a b c d f g h)
noncomputable def N130_s0 (a g : Int) (b c : Int) (d f : Int) : Nd :=
 .bif ((a == 1))
 (C154 b fun h =>
 .bif (h)
 (.bif ((c == 0))
 (.bif ((d == 0))
 (C80 f 0 65535 fun i =>
 .ret [tb i] [])
 (.ret [tb false] []))
 (.ret [tb false] []))
 (.ret [tb false] []))
 (.bif ((a == 2))
 (G130_0 a g b c d f (a == 2))
 (G130_0 a g b c d f (a == 4)))
noncomputable def N130_s1 (a c : Int) (d f : Int) (g b : Int) : Nd :=
 .bif ((a != 1))
 (.bif ((b != 0))
 (.ret [tb false] [])
 (N130_s0 a c d f g b))
 (N130_s0 a c d f g b)
noncomputable def N130 (a b : Int) (c d : Int) (f g : Int) : Nd :=
 .bif ((a != 3))
 (.bif ((b != 0))
 (.ret [tb false] [])
 (N130_s1 a b c d f g))
 (N130_s1 a b c d f g)
theorem e130 {a b : Int} {c d : Int} {f g : Int} {r : Res} (h : S cx 130 (N130 a b c d f g) = some r) : tw cx 130 [.st [i64 a, i64 b, i64 c, i64 d, i64 f, i64 g]] = some r :=
 tw_of (fun call hd hb pt rg => by kernel_rfl) h
noncomputable def NG130_0_s0 (a b : Int) : Nd :=
 C154 a fun c =>
 .bif (c)
 (.ret [tb (b == 0)] [])
 (.ret [tb false] [])
noncomputable def NG130_0 (d i : Int) (a b : Int) (c l : Int) (j : Bool) : Nd :=
 .bif (j)
 (C154 a fun f =>
 .bif (f)
 (NG130_0_s0 b c)
 (.ret [tb false] []))
 (.bif ((d == 3))
 (C154 a fun f =>
 .bif (f)
 (C154 b fun g =>
 .bif (g)
 (C154 c fun h =>
 .bif (h)
 (C80 i 4 9 fun k =>
 .ret [tb k] [])
 (.ret [tb false] []))
 (.ret [tb false] []))
 (.ret [tb false] []))
 (.bif ((d == 5))
 (.bif ((a == 0))
 (C154 b fun g =>
 .bif (g)
 (C154 c fun h =>
 .ret [tb h] [])
 (.ret [tb false] []))
 (.ret [tb false] []))
 (.bif ((d == 6))
 (.bif ((a == 0))
 (NG130_0_s0 b c)
 (.ret [tb false] []))
 (.ret [tb false] []))))
theorem eG130_0 {a b : Int} {c d : Int} {f g : Int} {i : Bool} {r : Res} (h : S cx 130 (NG130_0 a b c d f g i) = some r) : S cx 130 (G130_0 a b c d f g i) = some r :=
 pw_of (fun call hd hb pt rg => by kernel_rfl) h
noncomputable def EH131_0 (a : Int) (b c : List TV) (d : Int) : Env := [.un, w6 a, w30 b, .un, .un, w10 c, w6 d] ++ uns 41
noncomputable abbrev H131_0 (a : Int) (b c : List TV) (d : Int) : Nd := .head [1, 1, 1, 0, 1, 2] (EH131_0 a b c d)
noncomputable abbrev B131_0 (a : Int) (b c : List TV) (d : Int) : Nd := .back [1, 1, 1, 0, 1, 2] (EH131_0 a b c d)
noncomputable def EH131_1 (b : Int) (c d : List TV) (f : Int) (a : List TV) (g : Int) : Env := [.un, w6 b, w30 c, .un, .un, w10 d, w6 f] ++ uns 18 ++ [w3 a, w8 a, w6 g] ++ uns 20
noncomputable abbrev H131_1 (a : Int) (b c : List TV) (d : Int) (f : List TV) (g : Int) : Nd := .head [1, 1, 1, 0, 1, 2, 5, 1, 0, 2, 1, 2] (EH131_1 a b c d f g)
noncomputable abbrev B131_1 (a : Int) (b c : List TV) (d : Int) (f : List TV) (g : Int) : Nd := .back [1, 1, 1, 0, 1, 2, 5, 1, 0, 2, 1, 2] (EH131_1 a b c d f g)
noncomputable def N131 (b : List TV) (a : Int) : Nd :=
 .bif ((a == 0))
 (.ret [sl false ⟨1,false⟩ ([])] [])
 (H131_0 a b ([i64 0]) 0)
theorem e131 {a : List TV} {b : Int} {r : Res} (h : S cx 131 (N131 a b) = some r) : tw cx 131 [.st [sl true ⟨1,true⟩ a], i64 b] = some r :=
 tw_of (fun call hd hb pt rg => by kernel_rfl) h
noncomputable def NH131_0 (f : Int) (c a : List TV) (b : Int) : Nd :=
 .bif (decide (b < ((a.length : Nat) : Int)))
 (.ck (decide ((0 : Int) ≤ b) && decide (b < ((a.length : Nat) : Int))) <|
 .int .i64 (a.getD (0 + b.toNat) (.dead ())) fun d =>
 .ck (decide ((0 : Int) ≤ d) && decide (d < ((c.length : Nat) : Int))) <|
 .slR ⟨1,false⟩ (c.getD (0 + d.toNat) (.dead ())) fun g =>
 H131_1 f c a b g 0)
 (.ret [sl false ⟨1,false⟩ a] [])
theorem eH131_0 {a : Int} {b c : List TV} {d : Int} {r : Res} (h : S cx 131 (NH131_0 a b c d) = some r) : S cx 131 (H131_0 a b c d) = some r :=
 hw_of (fun call hd hb pt rg => by kernel_rfl) h
noncomputable def NH131_1 (d : Int) (f b : List TV) (g : Int) (c : List TV) (a : Int) : Nd :=
 .bif (decide (a < ((c.length : Nat) : Int)))
 (.ck (decide ((0 : Int) ≤ a) && decide (a < ((c.length : Nat) : Int))) <|
 .int .i64 (c.getD (0 + a.toNat) (.dead ())) fun h =>
 .bif ((h != d))
 (C116 b h fun i =>
 .bif ((!i))
 (.ck (decide ((b.length + ([i64 h] : List TV).length) * 8 < lim)) <|
 B131_1 d f (b ++ ([i64 h])) g c (w64 (a + 1)))
 (B131_1 d f b g c (w64 (a + 1))))
 (B131_1 d f b g c (w64 (a + 1))))
 (B131_0 d f b (w64 (g + 1)))
theorem eH131_1 {a : Int} {b c : List TV} {d : Int} {f : List TV} {g : Int} {r : Res} (h : S cx 131 (NH131_1 a b c d f g) = some r) : S cx 131 (H131_1 a b c d f g) = some r :=
 hw_of (fun call hd hb pt rg => by kernel_rfl) h
noncomputable def N132 (c b a : Int) : Nd :=
 .bif ((c == 4))
 (.ret [i64 (w64 (((BitVec.ofInt 64 (w64 (b + a)) &&& BitVec.ofInt 64 65535).toNat : Int))), tb true] [])
 (.bif ((c == 5))
 (.ret [i64 (w64 (((BitVec.ofInt 64 (w64 (b - a)) &&& BitVec.ofInt 64 65535).toNat : Int))), tb true] [])
 (.bif ((c == 6))
 (.ret [i64 (w64 (((BitVec.ofInt 64 (w64 (b * a)) &&& BitVec.ofInt 64 65535).toNat : Int))), tb true] [])
 (.bif ((c == 7))
 (.bif ((a == 0))
 (.ret [i64 0, tb false] [])
 (.ck ((!(decide (a = 0)))) <|
 .ret [i64 (w64 (b.tdiv a)), tb true] []))
 (.bif ((c == 8))
 (C133 (decide (b < a)) fun d =>
 .ret [i64 d, tb true] [])
 (C133 (b == a) fun f =>
 .ret [i64 f, tb true] [])))))
theorem e132 {a b c : Int} {r : Res} (h : S cx 132 (N132 a b c) = some r) : tw cx 132 [i64 a, i64 b, i64 c] = some r :=
 tw_of (fun call hd hb pt rg => by kernel_rfl) h
noncomputable def N133 (a : Bool) : Nd :=
 .bif (a)
 (.ret [i64 1] [])
 (.ret [i64 0] [])
theorem e133 {a : Bool} {r : Res} (h : S cx 133 (N133 a) = some r) : tw cx 133 [tb a] = some r :=
 tw_of (fun call hd hb pt rg => by kernel_rfl) h
noncomputable def EH134_0 (a b : List TV) (c : Int) : Env := [w25 a, .un, .un, .val [] (sl false ⟨6,false⟩ b), w6 c] ++ uns 19
noncomputable abbrev H134_0 (a b : List TV) (c : Int) : Nd := .head [1, 1, 0, 1, 2] (EH134_0 a b c)
noncomputable abbrev B134_0 (a b : List TV) (c : Int) : Nd := .back [1, 1, 0, 1, 2] (EH134_0 a b c)
noncomputable def N134 (a : List TV) : Nd :=
 .ck (decide ((0 : Int) ≤ ((a.length : Nat) : Int)) && decide (((a.length : Nat) : Int) ≤ ((a.length : Nat) : Int)) && decide (((a.length : Nat) : Int) * 48 < (lim : Int)) && decide (((a.length : Nat) : Int) < 9223372036854775807) && true && true) <|
 H134_0 a (List.replicate (((a.length : Nat) : Int).toNat) (.st [i64 0, i64 0, i64 0, i64 0, i64 0, i64 0])) 0
theorem e134 {a : List TV} {r : Res} (h : S cx 134 (N134 a) = some r) : tw cx 134 [sl true ⟨6,false⟩ a] = some r :=
 tw_of (fun call hd hb pt rg => by kernel_rfl) h
noncomputable def NH134_0 (b c : List TV) (a : Int) : Nd :=
 .bif (decide (a < ((b.length : Nat) : Int)))
 (.ck (decide ((0 : Int) ≤ a) && decide (a < ((b.length : Nat) : Int))) <|
 V6_1 (b.getD (0 + a.toNat) (.dead ())) fun d f g h i j =>
 C163 d f g h i j fun k l m n o p =>
 .ck (decide ((0 : Int) ≤ a) && decide (a < ((c.length : Nat) : Int))) <|
 B134_0 b (c.set (0 + a.toNat) (.st [i64 k, i64 l, i64 m, i64 n, i64 o, i64 p])) (w64 (a + 1)))
 (.ret [sl false ⟨6,false⟩ c] [])
theorem eH134_0 {a b : List TV} {c : Int} {r : Res} (h : S cx 134 (NH134_0 a b c) = some r) : S cx 134 (H134_0 a b c) = some r :=
 hw_of (fun call hd hb pt rg => by kernel_rfl) h
noncomputable def EH135_0 (a b : List TV) (c : Int) : Env := [w26 a, .un, .un, w18 b, w6 c] ++ uns 19
noncomputable abbrev H135_0 (a b : List TV) (c : Int) : Nd := .head [1, 1, 0, 1, 2] (EH135_0 a b c)
noncomputable abbrev B135_0 (a b : List TV) (c : Int) : Nd := .back [1, 1, 0, 1, 2] (EH135_0 a b c)
noncomputable def N135 (a : List TV) : Nd :=
 .ck (decide ((0 : Int) ≤ ((a.length : Nat) : Int)) && decide (((a.length : Nat) : Int) ≤ ((a.length : Nat) : Int)) && decide (((a.length : Nat) : Int) * 24 < (lim : Int)) && decide (((a.length : Nat) : Int) < 9223372036854775807) && true && true) <|
 H135_0 a (List.replicate (((a.length : Nat) : Int).toNat) (sl false ⟨1,false⟩ ([]))) 0
theorem e135 {a : List TV} {r : Res} (h : S cx 135 (N135 a) = some r) : tw cx 135 [sl true ⟨1,true⟩ a] = some r :=
 tw_of (fun call hd hb pt rg => by kernel_rfl) h
noncomputable def NH135_0 (b c : List TV) (a : Int) : Nd :=
 .bif (decide (a < ((b.length : Nat) : Int)))
 (.ck (decide ((0 : Int) ≤ a) && decide (a < ((b.length : Nat) : Int))) <|
 .slR ⟨1,false⟩ (b.getD (0 + a.toNat) (.dead ())) fun d =>
 C48 d fun f =>
 .ck (decide ((0 : Int) ≤ a) && decide (a < ((c.length : Nat) : Int))) <|
 B135_0 b (c.set (0 + a.toNat) (sl false ⟨1,false⟩ f)) (w64 (a + 1)))
 (.ret [sl false ⟨1,true⟩ c] [])
theorem eH135_0 {a b : List TV} {c : Int} {r : Res} (h : S cx 135 (NH135_0 a b c) = some r) : S cx 135 (H135_0 a b c) = some r :=
 hw_of (fun call hd hb pt rg => by kernel_rfl) h
noncomputable def EH136_0 (b a : List TV) (c : Int) : Env := [.un, .un, .un, w18 b] ++ uns 7 ++ [w24 a, w8 a, w6 c] ++ uns 12
noncomputable abbrev H136_0 (a b : List TV) (c : Int) : Nd := .head [1, 1, 0, 1, 2] (EH136_0 a b c)
noncomputable abbrev B136_0 (a b : List TV) (c : Int) : Nd := .back [1, 1, 0, 1, 2] (EH136_0 a b c)
noncomputable def N136 (a : List TV) (b : Int) : Nd :=
 .ck (decide ((0 : Int) ≤ ((a.length : Nat) : Int)) && decide (((a.length : Nat) : Int) ≤ ((a.length : Nat) : Int)) && decide (((a.length : Nat) : Int) * 24 < (lim : Int)) && decide (((a.length : Nat) : Int) < 9223372036854775807) && true && true) <|
 H136_0 (List.replicate (((a.length : Nat) : Int).toNat) (sl false ⟨1,false⟩ ([]))) a 0
theorem e136 {a : List TV} {b : Int} {r : Res} (h : S cx 136 (N136 a b) = some r) : tw cx 136 [.st [sl true ⟨6,true⟩ a, i64 b]] = some r :=
 tw_of (fun call hd hb pt rg => by kernel_rfl) h
noncomputable def NH136_0 (c b : List TV) (a : Int) : Nd :=
 .bif (decide (a < ((b.length : Nat) : Int)))
 (.ck (decide ((0 : Int) ≤ a) && decide (a < ((b.length : Nat) : Int))) <|
 V6 (b.getD (0 + a.toNat) (.dead ())) fun f g h i d j =>
 .ck (decide ((0 : Int) ≤ a) && decide (a < ((c.length : Nat) : Int))) <|
 B136_0 (c.set (0 + a.toNat) (sl true ⟨1,false⟩ d)) b (w64 (a + 1)))
 (.ret [sl false ⟨1,true⟩ c] [])
theorem eH136_0 {a b : List TV} {c : Int} {r : Res} (h : S cx 136 (NH136_0 a b c) = some r) : S cx 136 (H136_0 a b c) = some r :=
 hw_of (fun call hd hb pt rg => by kernel_rfl) h
noncomputable def EH137_0 (a : Int) (c b : List TV) (d : Int) (f : List TV) (g : Int) (h j : List TV) (k l : List TV) : Env := [.ref 115 [] none 135 false, w6 a, .un, .un, .un, .adr 14 [.i 119 (0 + a.toNat)]] ++ uns 8 ++ [w24 c] ++ uns 56 ++ [w3 b, w8 b, w6 d] ++ uns 41 ++ [w23 f g h j k l, .un]
noncomputable abbrev H137_0 (a : Int) (b c : List TV) (d : Int) (f : List TV) (g : Int) (h i : List TV) (j k : List TV) : Nd := .head [1, 1, 1, 0, 1, 2] (EH137_0 a b c d f g h i j k)
noncomputable abbrev B137_0 (a : Int) (b c : List TV) (d : Int) (f : List TV) (g : Int) (h i : List TV) (j k : List TV) : Nd := .back [1, 1, 1, 0, 1, 2] (EH137_0 a b c d f g h i j k)
noncomputable def EH137_1 (a : Int) (c b : List TV) (d : Int) (f : List TV) (g : Int) (h j : List TV) (k l : List TV) : Env := [.ref 115 [] none 135 false, w6 a, .un, .un, .un, .adr 14 [.i 119 (0 + a.toNat)]] ++ uns 8 ++ [w24 c] ++ uns 71 ++ [w25 b, w8 b, w6 d] ++ uns 26 ++ [w23 f g h j k l, .un]
noncomputable abbrev H137_1 (a : Int) (b c : List TV) (d : Int) (f : List TV) (g : Int) (h i : List TV) (j k : List TV) : Nd := .head [1, 1, 1, 1, 0, 1, 2] (EH137_1 a b c d f g h i j k)
noncomputable abbrev B137_1 (a : Int) (b c : List TV) (d : Int) (f : List TV) (g : Int) (h i : List TV) (j k : List TV) : Nd := .back [1, 1, 1, 1, 0, 1, 2] (EH137_1 a b c d f g h i j k)
noncomputable def N137 (a : List TV) (c : Int) (d f : List TV) (g h : List TV) (b : Int) : Nd :=
 .ck (decide ((0 : Int) ≤ b) && decide (b < ((a.length : Nat) : Int))) <|
 V6 (a.getD (0 + b.toNat) (.dead ())) fun y i z aa ab ac =>
 C77 i c fun j =>
 .bif ((!j))
 (.ret [tb false] [.pt false () (.st [.st [sl true ⟨6,true⟩ a, i64 c], sl false ⟨1,true⟩ d, sl false ⟨1,true⟩ f, sl false ⟨1,false⟩ g, sl false ⟨1,false⟩ h])])
 (V6 (a.getD (0 + b.toNat) (.dead ())) fun ad ae k af ag ah =>
 V6 (a.getD (0 + b.toNat) (.dead ())) fun ai aj ak l al am =>
 V6 (a.getD (0 + b.toNat) (.dead ())) fun an ao ap aq m ar =>
 C78 k l m c ((a.length : Nat) : Int) fun n =>
 .bif ((!n))
 (.ret [tb false] [.pt false () (.st [.st [sl true ⟨6,true⟩ a, i64 c], sl false ⟨1,true⟩ d, sl false ⟨1,true⟩ f, sl false ⟨1,false⟩ g, sl false ⟨1,false⟩ h])])
 (V6 (a.getD (0 + b.toNat) (.dead ())) fun au av aw ax o ay =>
 C119 o 0 fun p =>
 .bif (p)
 (.ret [tb false] [.pt false () (.st [.st [sl true ⟨6,true⟩ a, i64 c], sl false ⟨1,true⟩ d, sl false ⟨1,true⟩ f, sl false ⟨1,false⟩ g, sl false ⟨1,false⟩ h])])
 (V6 (a.getD (0 + b.toNat) (.dead ())) fun q r s t u v =>
 C164 a c d f g h q r s t u v fun w =>
 .bif ((!w))
 (.ret [tb false] [.pt false () (.st [.st [sl true ⟨6,true⟩ a, i64 c], sl false ⟨1,true⟩ d, sl false ⟨1,true⟩ f, sl false ⟨1,false⟩ g, sl false ⟨1,false⟩ h])])
 (V6 (a.getD (0 + b.toNat) (.dead ())) fun x az a0 a1 a2 a3 =>
 H137_0 b a x 0 a c d f g h))))
theorem e137 {a : List TV} {b : Int} {c d : List TV} {f g : List TV} {i : Int} {r : Res} (h : S cx 137 (N137 a b c d f g i) = some r) : tw cx 137 [.pt false () (.st [.st [sl true ⟨6,true⟩ a, i64 b], sl false ⟨1,true⟩ c, sl false ⟨1,true⟩ d, sl false ⟨1,false⟩ f, sl false ⟨1,false⟩ g]), i64 i] = some r :=
 tw_of (fun call hd hb pt rg => by kernel_rfl) h
noncomputable def NH137_0 (b : Int) (d c : List TV) (a : Int) (f : List TV) (g : Int) (h i : List TV) (j k : List TV) : Nd :=
 .bif (decide (a < ((c.length : Nat) : Int)))
 (.ck (decide ((0 : Int) ≤ a) && decide (a < ((c.length : Nat) : Int))) <|
 .int .i64 (c.getD (0 + a.toNat) (.dead ())) fun r =>
 C165 f g h i j k r b (-1) fun s l m n o p q =>
 .bif ((!s))
 (.ret [tb false] [.pt false () (.st [.st [sl true ⟨6,true⟩ l, i64 m], sl false ⟨1,true⟩ n, sl false ⟨1,true⟩ o, sl false ⟨1,false⟩ p, sl false ⟨1,false⟩ q])])
 (B137_0 b d c (w64 (a + 1)) l m n o p q))
 (V6 (d.getD (0 + b.toNat) (.dead ())) fun u t v w x y =>
 H137_1 b d t 0 f g h i j k)
theorem eH137_0 {a : Int} {b c : List TV} {d : Int} {f : List TV} {g : Int} {i j : List TV} {k l : List TV} {r : Res} (h : S cx 137 (NH137_0 a b c d f g i j k l) = some r) : S cx 137 (H137_0 a b c d f g i j k l) = some r :=
 hw_of (fun call hd hb pt rg => by kernel_rfl) h
noncomputable def NH137_1 (b : Int) (k c : List TV) (a : Int) (d : List TV) (f : Int) (g h : List TV) (i j : List TV) : Nd :=
 .bif (decide (a < ((c.length : Nat) : Int)))
 (.ck (decide ((0 : Int) ≤ a) && decide (a < ((c.length : Nat) : Int))) <|
 V6_1 (c.getD (0 + a.toNat) (.dead ())) fun s t l u v w =>
 C166 s t l u v w fun x =>
 .bif (x)
 (C165 d f g h i j l b a fun y m n o p q r =>
 .bif ((!y))
 (.ret [tb false] [.pt false () (.st [.st [sl true ⟨6,true⟩ m, i64 n], sl false ⟨1,true⟩ o, sl false ⟨1,true⟩ p, sl false ⟨1,false⟩ q, sl false ⟨1,false⟩ r])])
 (B137_1 b k c (w64 (a + 1)) m n o p q r))
 (B137_1 b k c (w64 (a + 1)) d f g h i j))
 (.bif (decide (b > 0))
 (.ret [tb true] [.pt false () (.st [.st [sl true ⟨6,true⟩ d, i64 f], sl false ⟨1,true⟩ g, sl false ⟨1,true⟩ h, sl false ⟨1,false⟩ i, sl false ⟨1,false⟩ j])])
 (V6 (k.getD (0 + b.toNat) (.dead ())) fun z aa ab ac ad ae =>
 .ret [tb (((z.length : Nat) : Int) == 0)] [.pt false () (.st [.st [sl true ⟨6,true⟩ d, i64 f], sl false ⟨1,true⟩ g, sl false ⟨1,true⟩ h, sl false ⟨1,false⟩ i, sl false ⟨1,false⟩ j])]))
theorem eH137_1 {a : Int} {b c : List TV} {d : Int} {f : List TV} {g : Int} {i j : List TV} {k l : List TV} {r : Res} (h : S cx 137 (NH137_1 a b c d f g i j k l) = some r) : S cx 137 (H137_1 a b c d f g i j k l) = some r :=
 hw_of (fun call hd hb pt rg => by kernel_rfl) h
noncomputable def EG138_0 (a b : List TV) : Env := [w26 a, .un, .un, .val [] (sl false ⟨1,true⟩ (List.replicate (((a.length : Nat) : Int).toNat) (sl false ⟨1,false⟩ ([])))), w10 b] ++ uns 61
noncomputable abbrev G138_0 (a b : List TV) : Nd := .go [1, 1] (EG138_0 a b)
noncomputable def EH138_1 (a b c : List TV) (d : Int) : Env := [w26 a, .un, .un, w18 b, w10 c] ++ uns 11 ++ [.val [] (i64 (((List.replicate (((a.length : Nat) : Int).toNat) (sl false ⟨1,false⟩ ([]))).length : Nat) : Int)), w6 d] ++ uns 48
noncomputable abbrev H138_1 (a b c : List TV) (d : Int) : Nd := .head [1, 1, 0, 1, 2] (EH138_1 a b c d)
noncomputable abbrev B138_1 (a b c : List TV) (d : Int) : Nd := .back [1, 1, 0, 1, 2] (EH138_1 a b c d)
noncomputable def EH138_2 (b c a : List TV) (d : Int) : Env := [w26 b, .un, .un, w18 c, w10 a] ++ uns 22 ++ [.ref 4 [] none 104 false, w8 a, w6 d] ++ uns 36
noncomputable abbrev H138_2 (a b c : List TV) (d : Int) : Nd := .head [1, 1, 1, 0, 1, 2] (EH138_2 a b c d)
noncomputable abbrev B138_2 (a b c : List TV) (d : Int) : Nd := .back [1, 1, 1, 0, 1, 2] (EH138_2 a b c d)
noncomputable def EH138_3 (b c a : List TV) (d : Int) (f : List TV) (g h i : Int) : Env := [w26 b, .un, .un, w18 c, w10 a, .un, w6 d, .un, w10 f] ++ uns 18 ++ [.ref 4 [] none 104 false, w8 a, w6 g] ++ uns 11 ++ [w6 h, w6 i] ++ uns 23
noncomputable abbrev H138_3 (a b c : List TV) (d : Int) (f : List TV) (g h i : Int) : Nd := .head [1, 1, 1, 0, 1, 2, 5, 1, 1, 0, 2, 1, 1, 1, 1, 2] (EH138_3 a b c d f g h i)
noncomputable abbrev B138_3 (a b c : List TV) (d : Int) (f : List TV) (g h i : Int) : Nd := .back [1, 1, 1, 0, 1, 2, 5, 1, 1, 0, 2, 1, 1, 1, 1, 2] (EH138_3 a b c d f g h i)
noncomputable def N138 (a : List TV) : Nd :=
 .amb2
 (.ck (decide ((0 : Int) ≤ ((a.length : Nat) : Int)) && decide (((a.length : Nat) : Int) ≤ ((a.length : Nat) : Int)) && decide (((a.length : Nat) : Int) * 24 < (lim : Int)) && decide (((a.length : Nat) : Int) < 9223372036854775807) && true && true) <|
 C69 a 0 ([]) fun b =>
 G138_0 a b)
 (C69 a 0 ([]) fun b =>
 .ck (decide ((0 : Int) ≤ ((a.length : Nat) : Int)) && decide (((a.length : Nat) : Int) ≤ ((a.length : Nat) : Int)) && decide (((a.length : Nat) : Int) * 24 < (lim : Int)) && decide (((a.length : Nat) : Int) < 9223372036854775807) && true && true) <|
 G138_0 a b)
theorem e138 {a : List TV} {r : Res} (h : S cx 138 (N138 a) = some r) : tw cx 138 [sl true ⟨1,true⟩ a] = some r :=
 tw_of (fun call hd hb pt rg => by kernel_rfl) h
noncomputable def NG138_0 (a b : List TV) : Nd :=
 H138_1 a (List.replicate (((a.length : Nat) : Int).toNat) (sl false ⟨1,false⟩ ([]))) b 0
theorem eG138_0 {a b : List TV} {r : Res} (h : S cx 138 (NG138_0 a b) = some r) : S cx 138 (G138_0 a b) = some r :=
 pw_of (fun call hd hb pt rg => by kernel_rfl) h
noncomputable def NH138_1 (a c d : List TV) (b : Int) : Nd :=
 .bif (decide (b < (((List.replicate (((a.length : Nat) : Int).toNat) (sl false ⟨1,false⟩ ([]))).length : Nat) : Int)))
 (.ck (decide ((0 : Int) ≤ ((a.length : Nat) : Int)) && decide (((a.length : Nat) : Int) ≤ ((a.length : Nat) : Int)) && decide (((a.length : Nat) : Int) * 1 < (lim : Int)) && decide (((a.length : Nat) : Int) < 9223372036854775807) && true && true) <|
 .ck (decide ((0 : Int) ≤ b) && decide (b < ((c.length : Nat) : Int))) <|
 B138_1 a (c.set (0 + b.toNat) (sl false ⟨1,false⟩ (List.replicate (((a.length : Nat) : Int).toNat) (tb false)))) d (w64 (b + 1)))
 (H138_2 a c d 0)
theorem eH138_1 {a b c : List TV} {d : Int} {r : Res} (h : S cx 138 (NH138_1 a b c d) = some r) : S cx 138 (H138_1 a b c d) = some r :=
 hw_of (fun call hd hb pt rg => by kernel_rfl) h
noncomputable def NH138_2 (d c b : List TV) (a : Int) : Nd :=
 .bif (decide (a < ((b.length : Nat) : Int)))
 (.ck (decide ((0 : Int) ≤ a) && decide (a < ((b.length : Nat) : Int))) <|
 .bool (b.getD (0 + a.toNat) (.dead ())) fun f =>
 .bif ((!f))
 (B138_2 d c b (w64 (a + 1)))
 (C69 d 0 ([i64 a]) fun g =>
 H138_3 d c b a g a ((c.length : Nat) : Int) 0))
 (.ret [sl false ⟨1,true⟩ c] [])
theorem eH138_2 {a b c : List TV} {d : Int} {r : Res} (h : S cx 138 (NH138_2 a b c d) = some r) : S cx 138 (H138_2 a b c d) = some r :=
 hw_of (fun call hd hb pt rg => by kernel_rfl) h
noncomputable def NH138_3_s0 (d c f : List TV) (a : Int) (g : List TV) (h i b : Int) (j : Bool) (k : List TV) : Nd :=
 .ck (decide ((0 : Int) ≤ a) && decide (a < ((k.length : Nat) : Int))) <|
 .slB ⟨1,false⟩ (c.getD (0 + b.toNat) (.dead ())) fun r l => bif r then
 (.non)
 else (B138_3 d (c.set (0 + b.toNat) (sl false ⟨1,false⟩ (l.set (0 + a.toNat) (tb (!j))))) f a g h i (w64 (b + 1)))
noncomputable def NH138_3_s1 (d c f : List TV) (a : Int) (g : List TV) (h i b : Int) (j : List TV) : Nd :=
 .ck (decide ((0 : Int) ≤ a) && decide (a < ((j.length : Nat) : Int))) <|
 .slB ⟨1,false⟩ (c.getD (0 + b.toNat) (.dead ())) fun r k => bif r then
 (.non)
 else (B138_3 d (c.set (0 + b.toNat) (sl false ⟨1,false⟩ (k.set (0 + a.toNat) (tb false)))) f a g h i (w64 (b + 1)))
noncomputable def NH138_3 (f b c : List TV) (j : Int) (d : List TV) (g h a : Int) : Nd :=
 .bif (decide (a < h))
 (.ck (decide ((0 : Int) ≤ a) && decide (a < ((b.length : Nat) : Int))) <|
 .ck (decide ((0 : Int) ≤ a) && decide (a < ((c.length : Nat) : Int))) <|
 .bool (c.getD (0 + a.toNat) (.dead ())) fun l =>
 .bif (l)
 (.ck (decide ((0 : Int) ≤ a) && decide (a < ((d.length : Nat) : Int))) <|
 .bool (d.getD (0 + a.toNat) (.dead ())) fun k =>
 .slO ⟨1,false⟩ (b.getD (0 + a.toNat) (.dead ())) fun m =>
 .slB ⟨1,false⟩ (b.getD (0 + a.toNat) (.dead ())) fun r i => bif r then
 (NH138_3_s0 f b c j d g h a k i)
 else (NH138_3_s0 f b c j d g h a k i))
 (.slO ⟨1,false⟩ (b.getD (0 + a.toNat) (.dead ())) fun m =>
 .slB ⟨1,false⟩ (b.getD (0 + a.toNat) (.dead ())) fun r i => bif r then
 (NH138_3_s1 f b c j d g h a i)
 else (NH138_3_s1 f b c j d g h a i)))
 (B138_2 f b c (w64 (g + 1)))
theorem eH138_3 {a b c : List TV} {d : Int} {f : List TV} {g i j : Int} {r : Res} (h : S cx 138 (NH138_3 a b c d f g i j) = some r) : S cx 138 (H138_3 a b c d f g i j) = some r :=
 hw_of (fun call hd hb pt rg => by kernel_rfl) h
noncomputable def N139 (a : List TV) (b : Bool) : Nd :=
 C167 a b fun c =>
 .ret [tb (decide (c ≥ 0))] []
theorem e139 {a : List TV} {b : Bool} {r : Res} (h : S cx 139 (N139 a b) = some r) : tw cx 139 [sl true ⟨1,false⟩ a, tb b] = some r :=
 tw_of (fun call hd hb pt rg => by kernel_rfl) h
end Go.Tree.Q

/- Trees of values: program points of functions. -/
namespace Go.Tree.Q
open Go.Proofs
set_option linter.unusedVariables false
set_option maxRecDepth 20000
noncomputable def EH140_0 (a : List TV) (d : Int) (f g : List TV) (h j : List TV) (b : Int) (c : List TV) (k : Int) : Env := [w13 a d f g h j, w6 b, .un, .un, .un, .adr 16 [.i 119 (0 + b.toNat)]] ++ uns 10 ++ [w24 a, .un, .un, .un, .un, .un, w25 c, w8 c, w6 k] ++ uns 62
noncomputable abbrev H140_0 (a : List TV) (b : Int) (c d : List TV) (f g : List TV) (h : Int) (i : List TV) (j : Int) : Nd := .head [1, 1, 0, 1, 2] (EH140_0 a b c d f g h i j)
noncomputable abbrev B140_0 (a : List TV) (b : Int) (c d : List TV) (f g : List TV) (h : Int) (i : List TV) (j : Int) : Nd := .back [1, 1, 0, 1, 2] (EH140_0 a b c d f g h i j)
noncomputable def EH140_1 (a : List TV) (f : Int) (g h : List TV) (j k : List TV) (b l : Int) (c : List TV) (m : Int) (d : List TV) (n : Int) : Env := [w13 a f g h j k, w6 b, .un, .un, .un, .adr 16 [.i 119 (0 + b.toNat)], w6 l] ++ uns 9 ++ [w24 a, .un, .un, .un, .un, .un, w25 c, w8 c, w6 m, .un, .un, .un, .un, .un, w10 d, w8 d, w6 n] ++ uns 54
noncomputable abbrev H140_1 (a : List TV) (b : Int) (c d : List TV) (f g : List TV) (h i : Int) (j : List TV) (k : Int) (l : List TV) (m : Int) : Nd := .head [1, 1, 0, 1, 2, 5, 1, 1, 0, 2, 1, 1, 2] (EH140_1 a b c d f g h i j k l m)
noncomputable abbrev B140_1 (a : List TV) (b : Int) (c d : List TV) (f g : List TV) (h i : Int) (j : List TV) (k : Int) (l : List TV) (m : Int) : Nd := .back [1, 1, 0, 1, 2, 5, 1, 1, 0, 2, 1, 1, 2] (EH140_1 a b c d f g h i j k l m)
noncomputable def EH140_2 (a : List TV) (d : Int) (f g : List TV) (h j : List TV) (b : Int) (c : List TV) (k : Int) : Env := [w13 a d f g h j, w6 b, .un, .un, .un, .adr 16 [.i 119 (0 + b.toNat)]] ++ uns 10 ++ [w24 a] ++ uns 51 ++ [w10 c, w8 c, w6 k] ++ uns 16
noncomputable abbrev H140_2 (a : List TV) (b : Int) (c d : List TV) (f g : List TV) (h : Int) (i : List TV) (j : Int) : Nd := .head [1, 1, 1, 1, 0, 1, 2] (EH140_2 a b c d f g h i j)
noncomputable abbrev B140_2 (a : List TV) (b : Int) (c d : List TV) (f g : List TV) (h : Int) (i : List TV) (j : Int) : Nd := .back [1, 1, 1, 1, 0, 1, 2] (EH140_2 a b c d f g h i j)
noncomputable def N140 (b : List TV) (c : Int) (d f : List TV) (g h : List TV) (a : Int) : Nd :=
 .ck (decide ((0 : Int) ≤ a) && decide (a < ((b.length : Nat) : Int))) <|
 V6 (b.getD (0 + a.toNat) (.dead ())) fun j i k l m n =>
 H140_0 b c d f g h a i 0
theorem e140 {a : List TV} {b : Int} {c d : List TV} {f g : List TV} {i : Int} {r : Res} (h : S cx 140 (N140 a b c d f g i) = some r) : tw cx 140 [.pt true () (.st [.st [sl true ⟨6,true⟩ a, i64 b], sl false ⟨1,true⟩ c, sl false ⟨1,true⟩ d, sl false ⟨1,false⟩ f, sl false ⟨1,false⟩ g]), i64 i] = some r :=
 tw_of (fun call hd hb pt rg => by kernel_rfl) h
noncomputable def NH140_0 (a : List TV) (d : Int) (f g : List TV) (h i : List TV) (b : Int) (j : List TV) (c : Int) : Nd :=
 .bif (decide (c < ((j.length : Nat) : Int)))
 (.ck (decide ((0 : Int) ≤ c) && decide (c < ((j.length : Nat) : Int))) <|
 V6_1 (j.getD (0 + c.toNat) (.dead ())) fun m n o p q r =>
 C168 m n o p q r fun s =>
 H140_1 a d f g h i b c j c s 0)
 (V6 (a.getD (0 + b.toNat) (.dead ())) fun ae af t ag ah ai =>
 C125 t fun u =>
 .bif (u)
 (V6 (a.getD (0 + b.toNat) (.dead ())) fun v w x k y l =>
 V6 (a.getD (0 + b.toNat) (.dead ())) fun aj z ak al am an =>
 C169 a d f g h i k b ((z.length : Nat) : Int) fun aa =>
 .bif ((!aa))
 (.ret [tb false] [])
 (V6 (a.getD (0 + b.toNat) (.dead ())) fun ao ap aq ar au ab =>
 C170 ab fun ac =>
 H140_2 a d f g h i b ac 0))
 (V6 (a.getD (0 + b.toNat) (.dead ())) fun v w x k y l =>
 C170 l fun ad =>
 H140_2 a d f g h i b ad 0))
theorem eH140_0 {a : List TV} {b : Int} {c d : List TV} {f g : List TV} {i : Int} {j : List TV} {k : Int} {r : Res} (h : S cx 140 (NH140_0 a b c d f g i j k) = some r) : S cx 140 (H140_0 a b c d f g i j k) = some r :=
 hw_of (fun call hd hb pt rg => by kernel_rfl) h
noncomputable def NH140_1 (c : List TV) (d : Int) (f g : List TV) (h i : List TV) (j k : Int) (l : List TV) (m : Int) (b : List TV) (a : Int) : Nd :=
 .bif (decide (a < ((b.length : Nat) : Int)))
 (.ck (decide ((0 : Int) ≤ a) && decide (a < ((b.length : Nat) : Int))) <|
 .int .i64 (b.getD (0 + a.toNat) (.dead ())) fun n =>
 C169 c d f g h i n j k fun o =>
 .bif ((!o))
 (.ret [tb false] [])
 (B140_1 c d f g h i j k l m b (w64 (a + 1))))
 (B140_0 c d f g h i j l (w64 (m + 1)))
theorem eH140_1 {a : List TV} {b : Int} {c d : List TV} {f g : List TV} {i j : Int} {k : List TV} {l : Int} {m : List TV} {n : Int} {r : Res} (h : S cx 140 (NH140_1 a b c d f g i j k l m n) = some r) : S cx 140 (H140_1 a b c d f g i j k l m n) = some r :=
 hw_of (fun call hd hb pt rg => by kernel_rfl) h
noncomputable def NH140_2 (c : List TV) (f : Int) (g h : List TV) (i j : List TV) (d : Int) (b : List TV) (a : Int) : Nd :=
 .bif (decide (a < ((b.length : Nat) : Int)))
 (.ck (decide ((0 : Int) ≤ a) && decide (a < ((b.length : Nat) : Int))) <|
 .int .i64 (b.getD (0 + a.toNat) (.dead ())) fun k =>
 V6 (c.getD (0 + d.toNat) (.dead ())) fun n l o p q r =>
 C169 c f g h i j k d ((l.length : Nat) : Int) fun m =>
 .bif ((!m))
 (.ret [tb false] [])
 (B140_2 c f g h i j d b (w64 (a + 1))))
 (.ret [tb true] [])
theorem eH140_2 {a : List TV} {b : Int} {c d : List TV} {f g : List TV} {i : Int} {j : List TV} {k : Int} {r : Res} (h : S cx 140 (NH140_2 a b c d f g i j k) = some r) : S cx 140 (H140_2 a b c d f g i j k) = some r :=
 hw_of (fun call hd hb pt rg => by kernel_rfl) h
noncomputable def EH141_0 (a : List TV) (b : Int) (c d : List TV) (f g : List TV) (h i : Int) (j k : Int) : Env := [.ref 37 [] none 76 false] ++ uns 9 ++ [w25 a, w8 a, w6 b] ++ uns 24 ++ [w22 c d f g h i j k, .un]
noncomputable abbrev H141_0 (a : List TV) (b : Int) (c d : List TV) (f g : List TV) (h i : Int) (j k : Int) : Nd := .head [1, 0, 1, 2] (EH141_0 a b c d f g h i j k)
noncomputable abbrev B141_0 (a : List TV) (b : Int) (c d : List TV) (f g : List TV) (h i : Int) (j k : Int) : Nd := .back [1, 0, 1, 2] (EH141_0 a b c d f g h i j k)
noncomputable def EG141_1 (b c : Int) (d f : Int) (g h : Int) (a : List TV) (i : Int) (j k : List TV) (l m : List TV) (n o : Int) (p q : Int) : Env := [.ref 37 [] none 76 false, .un, .un, .un, .un, .un, w28 b c d f g h, .un, .un, .un, w25 a, w8 a, w6 i] ++ uns 24 ++ [w22 j k l m n o p q, .un]
noncomputable abbrev G141_1 (a b : Int) (c d : Int) (f g : Int) (h : List TV) (i : Int) (j k : List TV) (l m : List TV) (n o : Int) (p q : Int) : Nd := .go [1, 0, 1, 2, 5, 1, 1, 0, 2, 1, 1] (EG141_1 a b c d f g h i j k l m n o p q)
noncomputable def N141 (a b : List TV) (c d : List TV) (f g : Int) (h i : Int) (k j : List TV) (l m : Int) (n o : List TV) : Nd :=
 H141_0 j 0 a b c d f g h i
theorem e141 {a b : List TV} {c d : List TV} {f g : Int} {i j : Int} {k l : List TV} {m n : Int} {o p : List TV} {r : Res} (h : S cx 141 (N141 a b c d f g i j k l m n o p) = some r) : tw cx 141 [.pt false () (.st [.st [sl false ⟨1,false⟩ a, sl false ⟨1,false⟩ b, sl false ⟨1,false⟩ c], sl false ⟨1,false⟩ d, i64 f, i64 g, i64 i, i64 j]), .pt true () (.st [sl true ⟨1,false⟩ k, sl true ⟨6,false⟩ l, i64 m, i64 n, sl true ⟨1,false⟩ o, sl true ⟨1,true⟩ p])] = some r :=
 tw_of (fun call hd hb pt rg => by kernel_rfl) h
noncomputable def NH141_0 (b : List TV) (a : Int) (c d : List TV) (f g : List TV) (h i : Int) (j k : Int) : Nd :=
 .bif (decide (a < ((b.length : Nat) : Int)))
 (.ck (decide ((0 : Int) ≤ a) && decide (a < ((b.length : Nat) : Int))) <|
 V6_1 (b.getD (0 + a.toNat) (.dead ())) fun l m n o p q =>
 .bif ((l == 3))
 (G141_1 l m n o p q b a c d f g h i j (w64 (k + 1)))
 (G141_1 l m n o p q b a c d f g h i j k))
 (.ret [tb true] [.pt false () (.st [.st [sl false ⟨1,false⟩ c, sl false ⟨1,false⟩ d, sl false ⟨1,false⟩ f], sl false ⟨1,false⟩ g, i64 h, i64 i, i64 j, i64 k])])
theorem eH141_0 {a : List TV} {b : Int} {c d : List TV} {f g : List TV} {i j : Int} {k l : Int} {r : Res} (h : S cx 141 (NH141_0 a b c d f g i j k l) = some r) : S cx 141 (H141_0 a b c d f g i j k l) = some r :=
 hw_of (fun call hd hb pt rg => by kernel_rfl) h
noncomputable def NG141_1 (p v : Int) (g d : Int) (o w : Int) (m : List TV) (n : Int) (f c : List TV) (b a : List TV) (h i : Int) (j k : Int) : Nd :=
 .bif ((p == 1))
 (.ck (decide ((0 : Int) ≤ g) && decide (g < ((a.length : Nat) : Int))) <|
 B141_0 m (w64 (n + 1)) f c b (a.set (0 + g.toNat) (i64 w)) h i j k)
 (.bif ((p == 2))
 (.ck (decide ((0 : Int) ≤ d) && decide (d < ((a.length : Nat) : Int))) <|
 .int .i64 (a.getD (0 + d.toNat) (.dead ())) fun l =>
 .ck (decide ((0 : Int) ≤ g) && decide (g < ((a.length : Nat) : Int))) <|
 B141_0 m (w64 (n + 1)) f c b (a.set (0 + g.toNat) (i64 l)) h i j k)
 (.bif ((p == 3))
 (.ck (decide ((0 : Int) ≤ d) && decide (d < ((a.length : Nat) : Int))) <|
 .int .i64 (a.getD (0 + d.toNat) (.dead ())) fun l =>
 .ck (decide ((0 : Int) ≤ o) && decide (o < ((a.length : Nat) : Int))) <|
 .int .i64 (a.getD (0 + o.toNat) (.dead ())) fun q =>
 C107 v l q fun t r =>
 .bif (r)
 (.ck (decide ((0 : Int) ≤ g) && decide (g < ((a.length : Nat) : Int))) <|
 .bif ((!r))
 (.ret [tb false] [.pt false () (.st [.st [sl false ⟨1,false⟩ f, sl false ⟨1,false⟩ c, sl false ⟨1,false⟩ b], sl false ⟨1,false⟩ (a.set (0 + g.toNat) (i64 t)), i64 h, i64 i, i64 j, i64 k])])
 (B141_0 m (w64 (n + 1)) f c b (a.set (0 + g.toNat) (i64 t)) h i j k))
 (.bif ((!r))
 (.ret [tb false] [.pt false () (.st [.st [sl false ⟨1,false⟩ f, sl false ⟨1,false⟩ c, sl false ⟨1,false⟩ b], sl false ⟨1,false⟩ a, i64 h, i64 i, i64 j, i64 k])])
 (B141_0 m (w64 (n + 1)) f c b a h i j k)))
 (.bif ((p == 4))
 (.ck (decide ((0 : Int) ≤ d) && decide (d < ((a.length : Nat) : Int))) <|
 .int .i64 (a.getD (0 + d.toNat) (.dead ())) fun l =>
 C108 f c b l fun u s =>
 .bif (s)
 (.ck (decide ((0 : Int) ≤ g) && decide (g < ((a.length : Nat) : Int))) <|
 .bif ((!s))
 (.ret [tb false] [.pt false () (.st [.st [sl false ⟨1,false⟩ f, sl false ⟨1,false⟩ c, sl false ⟨1,false⟩ b], sl false ⟨1,false⟩ (a.set (0 + g.toNat) (i64 u)), i64 h, i64 i, i64 j, i64 k])])
 (B141_0 m (w64 (n + 1)) f c b (a.set (0 + g.toNat) (i64 u)) h i j k))
 (.bif ((!s))
 (.ret [tb false] [.pt false () (.st [.st [sl false ⟨1,false⟩ f, sl false ⟨1,false⟩ c, sl false ⟨1,false⟩ b], sl false ⟨1,false⟩ a, i64 h, i64 i, i64 j, i64 k])])
 (B141_0 m (w64 (n + 1)) f c b a h i j k)))
 (.bif ((p == 5))
 (.ck (decide ((0 : Int) ≤ d) && decide (d < ((a.length : Nat) : Int))) <|
 .int .i64 (a.getD (0 + d.toNat) (.dead ())) fun l =>
 .ck (decide ((0 : Int) ≤ o) && decide (o < ((a.length : Nat) : Int))) <|
 .int .i64 (a.getD (0 + o.toNat) (.dead ())) fun q =>
 .bif (decide (l ≥ 16))
 (.ret [tb false] [.pt false () (.st [.st [sl false ⟨1,false⟩ f, sl false ⟨1,false⟩ c, sl false ⟨1,false⟩ b], sl false ⟨1,false⟩ a, i64 h, i64 i, i64 j, i64 k])])
 (.ck (decide ((0 : Int) ≤ l) && decide (l < ((c.length : Nat) : Int))) <|
 B141_0 m (w64 (n + 1)) f (c.set (0 + l.toNat) (i64 q)) b a h i j k))
 (.ck (decide ((0 : Int) ≤ d) && decide (d < ((a.length : Nat) : Int))) <|
 .int .i64 (a.getD (0 + d.toNat) (.dead ())) fun l =>
 .bif ((((b.length : Nat) : Int) == 100))
 (.ret [tb false] [.pt false () (.st [.st [sl false ⟨1,false⟩ f, sl false ⟨1,false⟩ c, sl false ⟨1,false⟩ b], sl false ⟨1,false⟩ a, i64 h, i64 i, i64 j, i64 k])])
 (.ck (decide ((b.length + ([i64 l] : List TV).length) * 8 < lim)) <|
 B141_0 m (w64 (n + 1)) f c (b ++ ([i64 l])) a h i j k))))))
theorem eG141_1 {a b : Int} {c d : Int} {f g : Int} {i : List TV} {j : Int} {k l : List TV} {m n : List TV} {o p : Int} {q s : Int} {r : Res} (h : S cx 141 (NG141_1 a b c d f g i j k l m n o p q s) = some r) : S cx 141 (G141_1 a b c d f g i j k l m n o p q s) = some r :=
 pw_of (fun call hd hb pt rg => by kernel_rfl) h
noncomputable def N142_s0 (a b : List TV) (c d : List TV) (f g h : Int) (i : List TV) : Nd :=
 C171 a b c d 1 f g h i fun j =>
 .ret [i64 0, sl false ⟨1,false⟩ ([])] [.pt false () (.st [.st [sl false ⟨1,false⟩ (cpyT a j), sl false ⟨1,false⟩ b, sl false ⟨1,false⟩ c], sl false ⟨1,false⟩ d, i64 1, i64 f, i64 g, i64 h])]
noncomputable def N142 (c d : List TV) (f a : List TV) (j g : Int) (h i : Int) (t u : List TV) (o p : Int) (k n : List TV) : Nd :=
 .bif ((o == 3))
 (.ck (decide ((0 : Int) < ((n.length : Nat) : Int))) <|
 .slR ⟨1,false⟩ (n.getD 0 (.dead ())) fun r =>
 .amb2
 (N142_s0 c d f a g h i r)
 (N142_s0 c d f a g h i r))
 (.bif ((o == 4))
 (.ret [i64 0, sl false ⟨1,false⟩ ([])] [.pt false () (.st [.st [sl false ⟨1,false⟩ c, sl false ⟨1,false⟩ d, sl false ⟨1,false⟩ f], sl false ⟨1,false⟩ a, i64 2, i64 g, i64 h, i64 i])])
 (.ck (decide ((0 : Int) ≤ p) && decide (p < ((a.length : Nat) : Int))) <|
 .int .i64 (a.getD (0 + p.toNat) (.dead ())) fun s =>
 C60 o s ((k.length : Nat) : Int) fun b =>
 .ck (decide ((0 : Int) ≤ b) && decide (b < ((n.length : Nat) : Int))) <|
 .slR ⟨1,false⟩ (n.getD (0 + b.toNat) (.dead ())) fun q =>
 .amb2
 (.ck (decide ((0 : Int) ≤ b) && decide (b < ((k.length : Nat) : Int))) <|
 .amb2
 (.int .i64 (k.getD (0 + b.toNat) (.dead ())) fun l =>
 C171 c d f a j g h i q fun m =>
 .ret [i64 l, sl false ⟨1,false⟩ m] [.pt false () (.st [.st [sl false ⟨1,false⟩ c, sl false ⟨1,false⟩ d, sl false ⟨1,false⟩ f], sl false ⟨1,false⟩ a, i64 j, i64 g, i64 h, i64 i])])
 (C171 c d f a j g h i q fun m =>
 .int .i64 (k.getD (0 + b.toNat) (.dead ())) fun l =>
 .ret [i64 l, sl false ⟨1,false⟩ m] [.pt false () (.st [.st [sl false ⟨1,false⟩ c, sl false ⟨1,false⟩ d, sl false ⟨1,false⟩ f], sl false ⟨1,false⟩ a, i64 j, i64 g, i64 h, i64 i])]))
 (C171 c d f a j g h i q fun m =>
 .ck (decide ((0 : Int) ≤ b) && decide (b < ((k.length : Nat) : Int))) <|
 .int .i64 (k.getD (0 + b.toNat) (.dead ())) fun l =>
 .ret [i64 l, sl false ⟨1,false⟩ m] [.pt false () (.st [.st [sl false ⟨1,false⟩ c, sl false ⟨1,false⟩ d, sl false ⟨1,false⟩ f], sl false ⟨1,false⟩ a, i64 j, i64 g, i64 h, i64 i])])))
theorem e142 {a b : List TV} {c d : List TV} {f g : Int} {i j : Int} {k l : List TV} {m n : Int} {o p : List TV} {r : Res} (h : S cx 142 (N142 a b c d f g i j k l m n o p) = some r) : tw cx 142 [.pt false () (.st [.st [sl false ⟨1,false⟩ a, sl false ⟨1,false⟩ b, sl false ⟨1,false⟩ c], sl false ⟨1,false⟩ d, i64 f, i64 g, i64 i, i64 j]), .pt true () (.st [sl true ⟨1,false⟩ k, sl true ⟨6,false⟩ l, i64 m, i64 n, sl true ⟨1,false⟩ o, sl true ⟨1,true⟩ p])] = some r :=
 tw_of (fun call hd hb pt rg => by kernel_rfl) h
noncomputable def EH143_0 (a b : List TV) (c : Int) : Env := [w25 a, w25 b, .un, .un, .un, w6 c] ++ uns 23
noncomputable abbrev H143_0 (a b : List TV) (c : Int) : Nd := .head [1, 1, 0, 1, 2] (EH143_0 a b c)
noncomputable abbrev B143_0 (a b : List TV) (c : Int) : Nd := .back [1, 1, 0, 1, 2] (EH143_0 a b c)
noncomputable def N143 (a b : List TV) : Nd :=
 .bif ((((a.length : Nat) : Int) != ((b.length : Nat) : Int)))
 (.ret [tb false] [])
 (H143_0 a b 0)
theorem e143 {a b : List TV} {r : Res} (h : S cx 143 (N143 a b) = some r) : tw cx 143 [sl true ⟨6,false⟩ a, sl true ⟨6,false⟩ b] = some r :=
 tw_of (fun call hd hb pt rg => by kernel_rfl) h
noncomputable def NH143_0 (b c : List TV) (a : Int) : Nd :=
 .bif (decide (a < ((b.length : Nat) : Int)))
 (.ck (decide ((0 : Int) ≤ a) && decide (a < ((b.length : Nat) : Int))) <|
 V6_1 (b.getD (0 + a.toNat) (.dead ())) fun d f g h i j =>
 .ck (decide ((0 : Int) ≤ a) && decide (a < ((c.length : Nat) : Int))) <|
 V6_1 (c.getD (0 + a.toNat) (.dead ())) fun k l m n o p =>
 C172 d f g h i j k l m n o p fun q =>
 .bif ((!q))
 (.ret [tb false] [])
 (B143_0 b c (w64 (a + 1))))
 (.ret [tb true] [])
theorem eH143_0 {a b : List TV} {c : Int} {r : Res} (h : S cx 143 (NH143_0 a b c) = some r) : S cx 143 (H143_0 a b c) = some r :=
 hw_of (fun call hd hb pt rg => by kernel_rfl) h
noncomputable def EH144_0 (a b : List TV) (c : Int) : Env := [w26 a, w26 b, .un, .un, .un, w6 c] ++ uns 23
noncomputable abbrev H144_0 (a b : List TV) (c : Int) : Nd := .head [1, 1, 0, 1, 2] (EH144_0 a b c)
noncomputable abbrev B144_0 (a b : List TV) (c : Int) : Nd := .back [1, 1, 0, 1, 2] (EH144_0 a b c)
noncomputable def N144 (a b : List TV) : Nd :=
 .bif ((((a.length : Nat) : Int) != ((b.length : Nat) : Int)))
 (.ret [tb false] [])
 (H144_0 a b 0)
theorem e144 {a b : List TV} {r : Res} (h : S cx 144 (N144 a b) = some r) : tw cx 144 [sl true ⟨1,true⟩ a, sl true ⟨1,true⟩ b] = some r :=
 tw_of (fun call hd hb pt rg => by kernel_rfl) h
noncomputable def NH144_0 (b c : List TV) (a : Int) : Nd :=
 .bif (decide (a < ((b.length : Nat) : Int)))
 (.ck (decide ((0 : Int) ≤ a) && decide (a < ((b.length : Nat) : Int))) <|
 .slR ⟨1,false⟩ (b.getD (0 + a.toNat) (.dead ())) fun d =>
 .ck (decide ((0 : Int) ≤ a) && decide (a < ((c.length : Nat) : Int))) <|
 .slR ⟨1,false⟩ (c.getD (0 + a.toNat) (.dead ())) fun f =>
 C17 d f fun g =>
 .bif ((!g))
 (.ret [tb false] [])
 (B144_0 b c (w64 (a + 1))))
 (.ret [tb true] [])
theorem eH144_0 {a b : List TV} {c : Int} {r : Res} (h : S cx 144 (NH144_0 a b c) = some r) : S cx 144 (H144_0 a b c) = some r :=
 hw_of (fun call hd hb pt rg => by kernel_rfl) h
noncomputable def N152 (a : Int) : Nd :=
 C153 a fun b =>
 .ret [tb (!b)] []
theorem e152 {a : Int} {r : Res} (h : S cx 152 (N152 a) = some r) : tw cx 152 [i64 a] = some r :=
 tw_of (fun call hd hb pt rg => by kernel_rfl) h
noncomputable def N153 (a : Int) : Nd :=
 C57 a 0 65535 fun b =>
 .ret [tb b] []
theorem e153 {a : Int} {r : Res} (h : S cx 153 (N153 a) = some r) : tw cx 153 [i64 a] = some r :=
 tw_of (fun call hd hb pt rg => by kernel_rfl) h
noncomputable def N154 (a : Int) : Nd :=
 C80 a 0 11 fun b =>
 .ret [tb b] []
theorem e154 {a : Int} {r : Res} (h : S cx 154 (N154 a) = some r) : tw cx 154 [i64 a] = some r :=
 tw_of (fun call hd hb pt rg => by kernel_rfl) h
noncomputable def N155 (a b : Int) : Nd :=
 C184 a b fun c d =>
 .ret [.fl (.int .u64 c), .fl (.int .u64 d)] []
theorem e155 {a b : Int} {r : Res} (h : S cx 155 (N155 a b) = some r) : tw cx 155 [.fl (.int .u64 a), .fl (.int .u64 b)] = some r :=
 tw_of (fun call hd hb pt rg => by kernel_rfl) h
noncomputable def EH157_0 (a : List TV) (b c : Int) : Env := [w3 a, w6 b, .un, .un, .un, .un, .un, w8 a, w6 c] ++ uns 12
noncomputable abbrev H157_0 (a : List TV) (b c : Int) : Nd := .head [1, 0, 1, 2] (EH157_0 a b c)
noncomputable abbrev B157_0 (a : List TV) (b c : Int) : Nd := .back [1, 0, 1, 2] (EH157_0 a b c)
noncomputable def N157 (a : List TV) (b : Int) : Nd :=
 H157_0 a b 0
theorem e157 {a : List TV} {b : Int} {r : Res} (h : S cx 157 (N157 a b) = some r) : tw cx 157 [sl true ⟨1,false⟩ a, i64 b] = some r :=
 tw_of (fun call hd hb pt rg => by kernel_rfl) h
noncomputable def NH157_0 (b : List TV) (c a : Int) : Nd :=
 .bif (decide (a < ((b.length : Nat) : Int)))
 (.ck (decide ((0 : Int) ≤ a) && decide (a < ((b.length : Nat) : Int))) <|
 .int .i64 (b.getD (0 + a.toNat) (.dead ())) fun d =>
 .bif ((c == d))
 (.ret [i64 a] [])
 (B157_0 b c (w64 (a + 1))))
 (.ret [i64 (-1)] [])
theorem eH157_0 {a : List TV} {b c : Int} {r : Res} (h : S cx 157 (NH157_0 a b c) = some r) : S cx 157 (H157_0 a b c) = some r :=
 hw_of (fun call hd hb pt rg => by kernel_rfl) h
noncomputable def EH158_0 (a : List TV) (b c : Int) : Env := [w25 a, .val [] (.cl 123 [.pt true () (i64 b)]), .un, .un, .un, .un, .un, w8 a, w6 c] ++ uns 12
noncomputable abbrev H158_0 (a : List TV) (b c : Int) : Nd := .head [1, 0, 1, 2] (EH158_0 a b c)
noncomputable abbrev B158_0 (a : List TV) (b c : Int) : Nd := .back [1, 0, 1, 2] (EH158_0 a b c)
noncomputable def N158 (a : List TV) (b : Int) : Nd :=
 H158_0 a b 0
theorem e158 {a : List TV} {b : Int} {r : Res} (h : S cx 158 (N158 a b) = some r) : tw cx 158 [sl true ⟨6,false⟩ a, .cl 123 [.pt true () (i64 b)]] = some r :=
 tw_of (fun call hd hb pt rg => by kernel_rfl) h
noncomputable def NH158_0 (b : List TV) (c a : Int) : Nd :=
 .bif (decide (a < ((b.length : Nat) : Int)))
 (.ck (decide ((0 : Int) ≤ a) && decide (a < ((b.length : Nat) : Int))) <|
 V6_1 (b.getD (0 + a.toNat) (.dead ())) fun d f g h i j =>
 C123 d f g h i j c fun k =>
 .bif (k)
 (.ret [i64 a] [])
 (B158_0 b c (w64 (a + 1))))
 (.ret [i64 (-1)] [])
theorem eH158_0 {a : List TV} {b c : Int} {r : Res} (h : S cx 158 (NH158_0 a b c) = some r) : S cx 158 (H158_0 a b c) = some r :=
 hw_of (fun call hd hb pt rg => by kernel_rfl) h
noncomputable def EG159_0 (a : Int) (b : Bool) : Env := [.un, .un, .val [] (.pt false () (.st [tb false, tb false, tb false, tb false, tb false])), .un, w6 a, .un, .un, .un, .val [] (tb b)] ++ uns 14
noncomputable abbrev G159_0 (a : Int) (b : Bool) : Nd := .go [1, 0, 1, 2, 1, 4, 1] (EG159_0 a b)
noncomputable def N159 (a : Int) : Nd :=
 .bif ((a == 1))
 (.ret [.st [tb true, tb false, tb false, tb true, tb false], tb true] [])
 (.bif ((a == 2))
 (G159_0 a (a == 2))
 (G159_0 a (a == 4)))
theorem e159 {a : Int} {r : Res} (h : S cx 159 (N159 a) = some r) : tw cx 159 [i64 a] = some r :=
 tw_of (fun call hd hb pt rg => by kernel_rfl) h
noncomputable def NG159_0 (a : Int) (b : Bool) : Nd :=
 .bif (b)
 (.ret [.st [tb true, tb true, tb false, tb false, tb false], tb true] [])
 (.bif ((a == 3))
 (.ret [.st [tb true, tb true, tb true, tb false, tb true], tb true] [])
 (.bif ((a == 5))
 (.ret [.st [tb false, tb true, tb true, tb false, tb false], tb true] [])
 (.bif ((a == 6))
 (.ret [.st [tb false, tb true, tb false, tb false, tb false], tb true] [])
 (.ret [.st [tb false, tb false, tb false, tb false, tb false], tb false] []))))
theorem eG159_0 {a : Int} {b : Bool} {r : Res} (h : S cx 159 (NG159_0 a b) = some r) : S cx 159 (G159_0 a b) = some r :=
 pw_of (fun call hd hb pt rg => by kernel_rfl) h
noncomputable def N160_s0 (a : Bool) (b c : Int) : Nd :=
 .bif (a)
 (C57 b 0 (w64 (c - 1)) fun d =>
 .ret [tb d] [])
 (.ret [tb false] [])
noncomputable def N160 (a : Bool) (b c : Int) : Nd :=
 .bif ((!a))
 (.bif ((b == 0))
 (.ret [tb true] [])
 (N160_s0 a b c))
 (N160_s0 a b c)
theorem e160 {a : Bool} {b c : Int} {r : Res} (h : S cx 160 (N160 a b c) = some r) : tw cx 160 [tb a, i64 b, .pt true () (i64 c)] = some r :=
 tw_of (fun call hd hb pt rg => by kernel_rfl) h
noncomputable def N161 (a : Int) : Nd :=
 C57 a 4 9 fun b =>
 .ret [tb b] []
theorem e161 {a : Int} {r : Res} (h : S cx 161 (N161 a) = some r) : tw cx 161 [i64 a] = some r :=
 tw_of (fun call hd hb pt rg => by kernel_rfl) h
noncomputable def EH162_0 (a : List TV) (b : Int) : Env := [w3 a, .val [] (.cl 152 []), .un, .un, .un, .un, .un, w8 a, w6 b] ++ uns 12
noncomputable abbrev H162_0 (a : List TV) (b : Int) : Nd := .head [1, 0, 1, 2] (EH162_0 a b)
noncomputable abbrev B162_0 (a : List TV) (b : Int) : Nd := .back [1, 0, 1, 2] (EH162_0 a b)
noncomputable def N162 (a : List TV) : Nd :=
 H162_0 a 0
theorem e162 {a : List TV} {r : Res} (h : S cx 162 (N162 a) = some r) : tw cx 162 [sl true ⟨1,false⟩ a, .cl 152 []] = some r :=
 tw_of (fun call hd hb pt rg => by kernel_rfl) h
noncomputable def NH162_0 (b : List TV) (a : Int) : Nd :=
 .bif (decide (a < ((b.length : Nat) : Int)))
 (.ck (decide ((0 : Int) ≤ a) && decide (a < ((b.length : Nat) : Int))) <|
 .int .i64 (b.getD (0 + a.toNat) (.dead ())) fun c =>
 C152 c fun d =>
 .bif (d)
 (.ret [i64 a] [])
 (B162_0 b (w64 (a + 1))))
 (.ret [i64 (-1)] [])
theorem eH162_0 {a : List TV} {b : Int} {r : Res} (h : S cx 162 (NH162_0 a b) = some r) : S cx 162 (H162_0 a b) = some r :=
 hw_of (fun call hd hb pt rg => by kernel_rfl) h
noncomputable def EH162_b_0 (a : List TV) (b c : Int) : Env := [w3 a, .val [] (.cl 127 [.pt true () (i64 b)]), .un, .un, .un, .un, .un, w8 a, w6 c] ++ uns 12
noncomputable abbrev H162_b_0 (a : List TV) (b c : Int) : Nd := .head [1, 0, 1, 2] (EH162_b_0 a b c)
noncomputable abbrev B162_b_0 (a : List TV) (b c : Int) : Nd := .back [1, 0, 1, 2] (EH162_b_0 a b c)
noncomputable def N162b (a : List TV) (b : Int) : Nd :=
 H162_b_0 a b 0
theorem e162b {a : List TV} {b : Int} {r : Res} (h : S cx 162 (N162b a b) = some r) : tw cx 162 [sl true ⟨1,false⟩ a, .cl 127 [.pt true () (i64 b)]] = some r :=
 tw_of (fun call hd hb pt rg => by kernel_rfl) h
noncomputable def NH162_b_0 (b : List TV) (c a : Int) : Nd :=
 .bif (decide (a < ((b.length : Nat) : Int)))
 (.ck (decide ((0 : Int) ≤ a) && decide (a < ((b.length : Nat) : Int))) <|
 .int .i64 (b.getD (0 + a.toNat) (.dead ())) fun d =>
 C127 d c fun f =>
 .bif (f)
 (.ret [i64 a] [])
 (B162_b_0 b c (w64 (a + 1))))
 (.ret [i64 (-1)] [])
theorem eH162_b_0 {a : List TV} {b c : Int} {r : Res} (h : S cx 162 (NH162_b_0 a b c) = some r) : S cx 162 (H162_b_0 a b c) = some r :=
 hw_of (fun call hd hb pt rg => by kernel_rfl) h
noncomputable def N163 (a b : Int) (c d : Int) (f g : Int) : Nd :=
 .ret [.st [i64 a, i64 b, i64 c, i64 d, i64 f, i64 g]] []
theorem e163 {a b : Int} {c d : Int} {f g : Int} {r : Res} (h : S cx 163 (N163 a b c d f g) = some r) : tw cx 163 [.st [i64 a, i64 b, i64 c, i64 d, i64 f, i64 g]] = some r :=
 tw_of (fun call hd hb pt rg => by kernel_rfl) h
noncomputable def EH164_0 (b : List TV) (c : Int) (d f : List TV) (g h : List TV) (i j : List TV) (k l : Int) (a m : List TV) (n : Int) : Env := [w13 b c d f g h, .val [] (.pt true () (.st [sl true ⟨1,false⟩ i, sl true ⟨6,false⟩ j, i64 k, i64 l, sl true ⟨1,false⟩ a, sl true ⟨1,true⟩ m]))] ++ uns 40 ++ [w3 a, w8 a, w6 n] ++ uns 26
noncomputable abbrev H164_0 (a : List TV) (b : Int) (c d : List TV) (f g : List TV) (h i : List TV) (j k : Int) (l m : List TV) (n : Int) : Nd := .head [1, 1, 1, 0, 1, 2] (EH164_0 a b c d f g h i j k l m n)
noncomputable abbrev B164_0 (a : List TV) (b : Int) (c d : List TV) (f g : List TV) (h i : List TV) (j k : Int) (l m : List TV) (n : Int) : Nd := .back [1, 1, 1, 0, 1, 2] (EH164_0 a b c d f g h i j k l m n)
noncomputable def N164 (d : List TV) (f : Int) (g h : List TV) (i j : List TV) (k l : List TV) (b m : Int) (c a : List TV) : Nd :=
 .bif ((b == 3))
 (.bif ((((a.length : Nat) : Int) == 1))
 (.ck (decide ((0 : Int) < ((a.length : Nat) : Int))) <|
 .slR ⟨1,false⟩ (a.getD 0 (.dead ())) fun n =>
 .ret [tb (((n.length : Nat) : Int) == 3)] [])
 (.ret [tb false] []))
 (.bif ((((a.length : Nat) : Int) != ((c.length : Nat) : Int)))
 (.ret [tb false] [])
 (H164_0 d f g h i j k l b m c a 0))
theorem e164 {a : List TV} {b : Int} {c d : List TV} {f g : List TV} {i j : List TV} {k l : Int} {m n : List TV} {r : Res} (h : S cx 164 (N164 a b c d f g i j k l m n) = some r) : tw cx 164 [.pt true () (.st [.st [sl true ⟨6,true⟩ a, i64 b], sl false ⟨1,true⟩ c, sl false ⟨1,true⟩ d, sl false ⟨1,false⟩ f, sl false ⟨1,false⟩ g]), .pt true () (.st [sl true ⟨1,false⟩ i, sl true ⟨6,false⟩ j, i64 k, i64 l, sl true ⟨1,false⟩ m, sl true ⟨1,true⟩ n])] = some r :=
 tw_of (fun call hd hb pt rg => by kernel_rfl) h
noncomputable def NH164_0 (c : List TV) (g : Int) (h i : List TV) (j k : List TV) (l m : List TV) (n o : Int) (b d : List TV) (a : Int) : Nd :=
 .bif (decide (a < ((b.length : Nat) : Int)))
 (.ck (decide ((0 : Int) ≤ a) && decide (a < ((b.length : Nat) : Int))) <|
 .int .i64 (b.getD (0 + a.toNat) (.dead ())) fun f =>
 .ck (decide ((0 : Int) ≤ a) && decide (a < ((d.length : Nat) : Int))) <|
 .slR ⟨1,false⟩ (d.getD (0 + a.toNat) (.dead ())) fun p =>
 .ck (decide ((0 : Int) ≤ f) && decide (f < ((c.length : Nat) : Int))) <|
 V6 (c.getD (0 + f.toNat) (.dead ())) fun q r s t u v =>
 .bif ((((p.length : Nat) : Int) != ((q.length : Nat) : Int)))
 (.ret [tb false] [])
 (B164_0 c g h i j k l m n o b d (w64 (a + 1))))
 (.ret [tb true] [])
theorem eH164_0 {a : List TV} {b : Int} {c d : List TV} {f g : List TV} {i j : List TV} {k l : Int} {m n : List TV} {o : Int} {r : Res} (h : S cx 164 (NH164_0 a b c d f g i j k l m n o) = some r) : S cx 164 (H164_0 a b c d f g i j k l m n o) = some r :=
 hw_of (fun call hd hb pt rg => by kernel_rfl) h
noncomputable def N165 (f : List TV) (c : Int) (g h : List TV) (b d : List TV) (a i j : Int) : Nd :=
 C57 a 12 (w64 (c - 1)) fun k =>
 .bif ((!k))
 (.ret [tb false] [.pt false () (.st [.st [sl true ⟨6,true⟩ f, i64 c], sl false ⟨1,true⟩ g, sl false ⟨1,true⟩ h, sl false ⟨1,false⟩ b, sl false ⟨1,false⟩ d])])
 (.ck (decide ((0 : Int) ≤ a) && decide (a < ((b.length : Nat) : Int))) <|
 .int .i64 (b.getD (0 + a.toNat) (.dead ())) fun l =>
 .bif (decide (l ≥ 0))
 (.ret [tb false] [.pt false () (.st [.st [sl true ⟨6,true⟩ f, i64 c], sl false ⟨1,true⟩ g, sl false ⟨1,true⟩ h, sl false ⟨1,false⟩ b, sl false ⟨1,false⟩ d])])
 (.ck (decide ((0 : Int) ≤ a) && decide (a < ((b.length : Nat) : Int))) <|
 .ck (decide ((0 : Int) ≤ a) && decide (a < ((d.length : Nat) : Int))) <|
 .ret [tb true] [.pt false () (.st [.st [sl true ⟨6,true⟩ f, i64 c], sl false ⟨1,true⟩ g, sl false ⟨1,true⟩ h, sl false ⟨1,false⟩ (b.set (0 + a.toNat) (i64 i)), sl false ⟨1,false⟩ (d.set (0 + a.toNat) (i64 j))])]))
theorem e165 {a : List TV} {b : Int} {c d : List TV} {f g : List TV} {i j k : Int} {r : Res} (h : S cx 165 (N165 a b c d f g i j k) = some r) : tw cx 165 [.pt false () (.st [.st [sl true ⟨6,true⟩ a, i64 b], sl false ⟨1,true⟩ c, sl false ⟨1,true⟩ d, sl false ⟨1,false⟩ f, sl false ⟨1,false⟩ g]), i64 i, i64 j, i64 k] = some r :=
 tw_of (fun call hd hb pt rg => by kernel_rfl) h
noncomputable def N166 (a c : Int) (d f : Int) (g h : Int) : Nd :=
 C159 a fun b i j k l m =>
 .ret [tb b] []
theorem e166 {a b : Int} {c d : Int} {f g : Int} {r : Res} (h : S cx 166 (N166 a b c d f g) = some r) : tw cx 166 [.st [i64 a, i64 b, i64 c, i64 d, i64 f, i64 g]] = some r :=
 tw_of (fun call hd hb pt rg => by kernel_rfl) h
noncomputable def EH167_0 (a : List TV) (b : Bool) (c : Int) : Env := [w3 a, .val [] (tb b), .un, .un, .un, .un, .un, w8 a, w6 c] ++ uns 12
noncomputable abbrev H167_0 (a : List TV) (b : Bool) (c : Int) : Nd := .head [1, 0, 1, 2] (EH167_0 a b c)
noncomputable abbrev B167_0 (a : List TV) (b : Bool) (c : Int) : Nd := .back [1, 0, 1, 2] (EH167_0 a b c)
noncomputable def N167 (a : List TV) (b : Bool) : Nd :=
 H167_0 a b 0
theorem e167 {a : List TV} {b : Bool} {r : Res} (h : S cx 167 (N167 a b) = some r) : tw cx 167 [sl true ⟨1,false⟩ a, tb b] = some r :=
 tw_of (fun call hd hb pt rg => by kernel_rfl) h
noncomputable def NH167_0 (b : List TV) (c : Bool) (a : Int) : Nd :=
 .bif (decide (a < ((b.length : Nat) : Int)))
 (.ck (decide ((0 : Int) ≤ a) && decide (a < ((b.length : Nat) : Int))) <|
 .bool (b.getD (0 + a.toNat) (.dead ())) fun d =>
 .bif ((c == d))
 (.ret [i64 a] [])
 (B167_0 b c (w64 (a + 1))))
 (.ret [i64 (-1)] [])
theorem eH167_0 {a : List TV} {b : Bool} {c : Int} {r : Res} (h : S cx 167 (NH167_0 a b c) = some r) : S cx 167 (H167_0 a b c) = some r :=
 hw_of (fun call hd hb pt rg => by kernel_rfl) h
noncomputable def EG168_0 (a b : Int) (c d : Int) (f g : Int) (h : List TV) (i j : Bool) (k l m : Bool) : Env := [.un, w28 a b c d f g, .un, w10 h, .val [] (.pt false () (.st [tb i, tb j, tb k, tb l, tb m]))] ++ uns 24
noncomputable abbrev G168_0 (a b : Int) (c d : Int) (f g : Int) (h : List TV) (i j : Bool) (k l m : Bool) : Nd := .go [1, 1, 1, 1] (EG168_0 a b c d f g h i j k l m)
noncomputable def EG168_1 (a : List TV) : Env := [.un, .un, .un, w10 a] ++ uns 25
noncomputable abbrev G168_1 (a : List TV) : Nd := .go [1, 1, 1, 1, 1] (EG168_1 a)
noncomputable def N168 (b d : Int) (f a : Int) (g h : Int) : Nd :=
 C159 b fun i c j k l m =>
 .bif (c)
 (.ck (decide ((0 + ([i64 a] : List TV).length) * 8 < lim)) <|
 G168_0 b d f a g h (([]) ++ ([i64 a])) i c j k l)
 (G168_0 b d f a g h ([]) i c j k l)
theorem e168 {a b : Int} {c d : Int} {f g : Int} {r : Res} (h : S cx 168 (N168 a b c d f g) = some r) : tw cx 168 [.st [i64 a, i64 b, i64 c, i64 d, i64 f, i64 g]] = some r :=
 tw_of (fun call hd hb pt rg => by kernel_rfl) h
noncomputable def NG168_0 (d f : Int) (g h : Int) (b i : Int) (a : List TV) (j k : Bool) (c l m : Bool) : Nd :=
 .bif (c)
 (.ck (decide ((a.length + ([i64 b] : List TV).length) * 8 < lim)) <|
 G168_1 (a ++ ([i64 b])))
 (G168_1 a)
theorem eG168_0 {a b : Int} {c d : Int} {f g : Int} {i : List TV} {j k : Bool} {l m n : Bool} {r : Res} (h : S cx 168 (NG168_0 a b c d f g i j k l m n) = some r) : S cx 168 (G168_0 a b c d f g i j k l m n) = some r :=
 pw_of (fun call hd hb pt rg => by kernel_rfl) h
noncomputable def NG168_1 (a : List TV) : Nd :=
 .ret [sl false ⟨1,false⟩ a] []
theorem eG168_1 {a : List TV} {r : Res} (h : S cx 168 (NG168_1 a) = some r) : S cx 168 (G168_1 a) = some r :=
 pw_of (fun call hd hb pt rg => by kernel_rfl) h
noncomputable def N169 (p : List TV) (i : Int) (q f : List TV) (b g : List TV) (a c j : Int) : Nd :=
 C57 a 0 (w64 (i - 1)) fun k =>
 .bif ((!k))
 (.ret [tb false] [])
 (.bif (decide (a < 12))
 (.ret [tb true] [])
 (.ck (decide ((0 : Int) ≤ a) && decide (a < ((b.length : Nat) : Int))) <|
 .int .i64 (b.getD (0 + a.toNat) (.dead ())) fun l =>
 .bif ((l == c))
 (.ck (decide ((0 : Int) ≤ a) && decide (a < ((g.length : Nat) : Int))) <|
 .int .i64 (g.getD (0 + a.toNat) (.dead ())) fun m =>
 .ret [tb (decide (m < j))] [])
 (.ck (decide ((0 : Int) ≤ a) && decide (a < ((b.length : Nat) : Int))) <|
 .int .i64 (b.getD (0 + a.toNat) (.dead ())) fun n =>
 .bif (decide (n ≥ 0))
 (.ck (decide ((0 : Int) ≤ c) && decide (c < ((f.length : Nat) : Int))) <|
 .slR ⟨1,false⟩ (f.getD (0 + c.toNat) (.dead ())) fun h =>
 .ck (decide ((0 : Int) ≤ a) && decide (a < ((b.length : Nat) : Int))) <|
 .int .i64 (b.getD (0 + a.toNat) (.dead ())) fun d =>
 .ck (decide ((0 : Int) ≤ d) && decide (d < ((h.length : Nat) : Int))) <|
 .bool (h.getD (0 + d.toNat) (.dead ())) fun o =>
 .ret [tb o] [])
 (.ret [tb false] []))))
theorem e169 {a : List TV} {b : Int} {c d : List TV} {f g : List TV} {i j k : Int} {r : Res} (h : S cx 169 (N169 a b c d f g i j k) = some r) : tw cx 169 [.pt true () (.st [.st [sl true ⟨6,true⟩ a, i64 b], sl false ⟨1,true⟩ c, sl false ⟨1,true⟩ d, sl false ⟨1,false⟩ f, sl false ⟨1,false⟩ g]), i64 i, i64 j, i64 k] = some r :=
 tw_of (fun call hd hb pt rg => by kernel_rfl) h
noncomputable def EH170_0 (a : List TV) (b c : Int) : Env := [w26 a, .un, .un, w6 b, .un, .un, .un, .un, .un, w26 a, w8 a, w6 c] ++ uns 25
noncomputable abbrev H170_0 (a : List TV) (b c : Int) : Nd := .head [1, 1, 0, 1, 2] (EH170_0 a b c)
noncomputable abbrev B170_0 (a : List TV) (b c : Int) : Nd := .back [1, 1, 0, 1, 2] (EH170_0 a b c)
noncomputable def EH170_1 (b a : List TV) (c : Int) : Env := [.un, .un, .un, .un, .un, .un, w10 b] ++ uns 18 ++ [w26 a, w8 a, w6 c] ++ uns 9
noncomputable abbrev H170_1 (a b : List TV) (c : Int) : Nd := .head [1, 1, 1, 1, 0, 1, 2] (EH170_1 a b c)
noncomputable abbrev B170_1 (a b : List TV) (c : Int) : Nd := .back [1, 1, 1, 1, 0, 1, 2] (EH170_1 a b c)
noncomputable def N170 (a : List TV) : Nd :=
 H170_0 a 0 0
theorem e170 {a : List TV} {r : Res} (h : S cx 170 (N170 a) = some r) : tw cx 170 [sl true ⟨1,true⟩ a] = some r :=
 tw_of (fun call hd hb pt rg => by kernel_rfl) h
noncomputable def NH170_0 (a : List TV) (c b : Int) : Nd :=
 .bif (decide (b < ((a.length : Nat) : Int)))
 (.ck (decide ((0 : Int) ≤ b) && decide (b < ((a.length : Nat) : Int))) <|
 .slR ⟨1,false⟩ (a.getD (0 + b.toNat) (.dead ())) fun d =>
 .bif (decide (w64 (c + ((d.length : Nat) : Int)) < 0))
 (.non)
 (B170_0 a (w64 (c + ((d.length : Nat) : Int))) (w64 (b + 1))))
 (C185 c fun f =>
 .ck (deepL [sl false ⟨1,false⟩ f]) <|
 H170_1 f a 0)
theorem eH170_0 {a : List TV} {b c : Int} {r : Res} (h : S cx 170 (NH170_0 a b c) = some r) : S cx 170 (H170_0 a b c) = some r :=
 hw_of (fun call hd hb pt rg => by kernel_rfl) h
noncomputable def NH170_1 (c b : List TV) (a : Int) : Nd :=
 .bif (decide (a < ((b.length : Nat) : Int)))
 (.ck (decide ((0 : Int) ≤ a) && decide (a < ((b.length : Nat) : Int))) <|
 .slR ⟨1,false⟩ (b.getD (0 + a.toNat) (.dead ())) fun d =>
 .ck (decide ((c.length + d.length) * 8 < lim)) <|
 B170_1 (c ++ d) b (w64 (a + 1)))
 (.ret [sl false ⟨1,false⟩ c] [])
theorem eH170_1 {a b : List TV} {c : Int} {r : Res} (h : S cx 170 (NH170_1 a b c) = some r) : S cx 170 (H170_1 a b c) = some r :=
 hw_of (fun call hd hb pt rg => by kernel_rfl) h
noncomputable def EH171_0 (b c : List TV) (d f : List TV) (g h : Int) (i j : Int) (k a : List TV) (l : Int) : Env := [.val [] (.pt true () (.st [.st [sl false ⟨1,false⟩ b, sl false ⟨1,false⟩ c, sl false ⟨1,false⟩ d], sl false ⟨1,false⟩ f, i64 g, i64 h, i64 i, i64 j])), .un, .un, .un, .un, w10 k, .un, .un, .un, .un, .un, w3 a, w8 a, w6 l] ++ uns 18
noncomputable abbrev H171_0 (a b : List TV) (c d : List TV) (f g : Int) (h i : Int) (j k : List TV) (l : Int) : Nd := .head [1, 1, 0, 1, 2] (EH171_0 a b c d f g h i j k l)
noncomputable abbrev B171_0 (a b : List TV) (c d : List TV) (f g : Int) (h i : Int) (j k : List TV) (l : Int) : Nd := .back [1, 1, 0, 1, 2] (EH171_0 a b c d f g h i j k l)
noncomputable def N171 (b c : List TV) (d f : List TV) (g h : Int) (i j : Int) (a : List TV) : Nd :=
 .ck (decide ((0 : Int) ≤ ((a.length : Nat) : Int)) && decide (((a.length : Nat) : Int) ≤ ((a.length : Nat) : Int)) && decide (((a.length : Nat) : Int) * 8 < (lim : Int)) && decide (((a.length : Nat) : Int) < 9223372036854775807) && true && true) <|
 H171_0 b c d f g h i j (List.replicate (((a.length : Nat) : Int).toNat) (i64 0)) a 0
theorem e171 {a b : List TV} {c d : List TV} {f g : Int} {i j : Int} {k : List TV} {r : Res} (h : S cx 171 (N171 a b c d f g i j k) = some r) : tw cx 171 [.pt true () (.st [.st [sl false ⟨1,false⟩ a, sl false ⟨1,false⟩ b, sl false ⟨1,false⟩ c], sl false ⟨1,false⟩ d, i64 f, i64 g, i64 i, i64 j]), sl true ⟨1,false⟩ k] = some r :=
 tw_of (fun call hd hb pt rg => by kernel_rfl) h
noncomputable def NH171_0 (g h : List TV) (i c : List TV) (j k : Int) (l m : Int) (d b : List TV) (a : Int) : Nd :=
 .bif (decide (a < ((b.length : Nat) : Int)))
 (.ck (decide ((0 : Int) ≤ a) && decide (a < ((b.length : Nat) : Int))) <|
 .int .i64 (b.getD (0 + a.toNat) (.dead ())) fun f =>
 .ck (decide ((0 : Int) ≤ f) && decide (f < ((c.length : Nat) : Int))) <|
 .int .i64 (c.getD (0 + f.toNat) (.dead ())) fun n =>
 .ck (decide ((0 : Int) ≤ a) && decide (a < ((d.length : Nat) : Int))) <|
 B171_0 g h i c j k l m (d.set (0 + a.toNat) (i64 n)) b (w64 (a + 1)))
 (.ret [sl false ⟨1,false⟩ d] [])
theorem eH171_0 {a b : List TV} {c d : List TV} {f g : Int} {i j : Int} {k l : List TV} {m : Int} {r : Res} (h : S cx 171 (NH171_0 a b c d f g i j k l m) = some r) : S cx 171 (H171_0 a b c d f g i j k l m) = some r :=
 hw_of (fun call hd hb pt rg => by kernel_rfl) h
noncomputable def N172 (a b : Int) (c d : Int) (f g : Int) (h i : Int) (j k : Int) (l m : Int) : Nd :=
 .bif ((a != h))
 (.ret [tb false] [])
 (.bif ((b != i))
 (.ret [tb false] [])
 (.bif ((c != j))
 (.ret [tb false] [])
 (.bif ((d != k))
 (.ret [tb false] [])
 (.bif ((f != l))
 (.ret [tb false] [])
 (.bif ((g != m))
 (.ret [tb false] [])
 (.ret [tb true] []))))))
theorem e172 {a b : Int} {c d : Int} {f g : Int} {i j : Int} {k l : Int} {m n : Int} {r : Res} (h : S cx 172 (N172 a b c d f g i j k l m n) = some r) : tw cx 172 [.st [i64 a, i64 b, i64 c, i64 d, i64 f, i64 g], .st [i64 i, i64 j, i64 k, i64 l, i64 m, i64 n]] = some r :=
 tw_of (fun call hd hb pt rg => by kernel_rfl) h
noncomputable def N184 (a b : Int) : Nd :=
 .ret [.fl (.int .u64 (IntKind.u64.wrap ((IntKind.u64.wrap ((IntKind.u64.wrap ((a.fdiv (2 ^ (32))) * (b.fdiv (2 ^ (32))))) + ((IntKind.u64.wrap ((IntKind.u64.wrap ((a.fdiv (2 ^ (32))) * (IntKind.u64.wrap (((BitVec.ofInt 64 b &&& BitVec.ofInt 64 4294967295).toNat : Int))))) + ((IntKind.u64.wrap ((IntKind.u64.wrap (((BitVec.ofInt 64 a &&& BitVec.ofInt 64 4294967295).toNat : Int))) * (IntKind.u64.wrap (((BitVec.ofInt 64 b &&& BitVec.ofInt 64 4294967295).toNat : Int))))).fdiv (2 ^ (32))))).fdiv (2 ^ (32))))) + ((IntKind.u64.wrap ((IntKind.u64.wrap (((BitVec.ofInt 64 (IntKind.u64.wrap ((IntKind.u64.wrap ((a.fdiv (2 ^ (32))) * (IntKind.u64.wrap (((BitVec.ofInt 64 b &&& BitVec.ofInt 64 4294967295).toNat : Int))))) + ((IntKind.u64.wrap ((IntKind.u64.wrap (((BitVec.ofInt 64 a &&& BitVec.ofInt 64 4294967295).toNat : Int))) * (IntKind.u64.wrap (((BitVec.ofInt 64 b &&& BitVec.ofInt 64 4294967295).toNat : Int))))).fdiv (2 ^ (32))))) &&& BitVec.ofInt 64 4294967295).toNat : Int))) + (IntKind.u64.wrap ((IntKind.u64.wrap (((BitVec.ofInt 64 a &&& BitVec.ofInt 64 4294967295).toNat : Int))) * (b.fdiv (2 ^ (32))))))).fdiv (2 ^ (32)))))), .fl (.int .u64 (IntKind.u64.wrap (a * b)))] []
theorem e184 {a b : Int} {r : Res} (h : S cx 184 (N184 a b) = some r) : tw cx 184 [.fl (.int .u64 a), .fl (.int .u64 b)] = some r :=
 tw_of (fun call hd hb pt rg => by kernel_rfl) h
end Go.Tree.Q
