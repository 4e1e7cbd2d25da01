/- The functions that the law reaches, told as points of a program, second part. Conditions: none. -/
import Derived.Test.YtfjmogpgccnccaaGreatMqa
/- Trees of values: program points of functions. -/
namespace Go.Tree.Q
open Go.Proofs
set_option linter.unusedVariables false
set_option maxRecDepth 20000
noncomputable def EG94_0 (s_0 : List TV) (s_1 : Int) : Env := [.un, w0 s_0 s_1] ++ uns 65
noncomputable abbrev G94_0 (s_0 : List TV) (s_1 : Int) : Nd := .go [1, 1] (EG94_0 s_0 s_1)
noncomputable def ER94_1 (s_0 : List TV) (s_1 : Int) : Env := [.un, w0 s_0 s_1] ++ uns 15 ++ [w5 s_0 s_1, .un, .un, .un, w7, .un, .un, w7] ++ uns 42
noncomputable abbrev R94_1 (s_0 : List TV) (s_1 : Int) : Nd := .rg [1, 1, 0] [true, false, false, false, true, false, false, true, false, false, false, false, false] (ER94_1 s_0 s_1)
noncomputable def ER94_2 (s_0 : List TV) (s_1 : Int) : Env := [.un, w0 s_0 s_1] ++ uns 16 ++ [w5 s_0 s_1, .un, .un, w7, .un, .un, w7] ++ uns 42
noncomputable abbrev R94_2 (s_0 : List TV) (s_1 : Int) : Nd := .rg [1, 1, 0] [false, true, false, false, true, false, false, true, false, false, false, false, false] (ER94_2 s_0 s_1)
noncomputable def ER94_3 (s_0 : List TV) (s_1 : Int) : Env := [.un, w0 s_0 s_1] ++ uns 18 ++ [w11, w7, .un, .un, w7] ++ uns 42
noncomputable abbrev R94_3 (s_0 : List TV) (s_1 : Int) : Nd := .rg [1, 1, 0] [false, false, false, true, true, false, false, true, false, false, false, false, false] (ER94_3 s_0 s_1)
noncomputable def ER94_4 (s_0 : List TV) (s_1 : Int) : Env := [.un, w0 s_0 s_1] ++ uns 19 ++ [w7, w6 s_1, .un, w7] ++ uns 42
noncomputable abbrev R94_4 (s_0 : List TV) (s_1 : Int) : Nd := .rg [1, 1, 0] [false, false, false, false, true, true, false, true, false, false, false, false, false] (ER94_4 s_0 s_1)
noncomputable def ER94_5 (s_0 : List TV) (s_1 : Int) : Env := [.un, w0 s_0 s_1] ++ uns 19 ++ [w7, .un, .un, w7, w6 s_1] ++ uns 41
noncomputable abbrev R94_5 (s_0 : List TV) (s_1 : Int) : Nd := .rg [1, 1, 0] [false, false, false, false, true, false, false, true, true, false, false, false, false] (ER94_5 s_0 s_1)
noncomputable def ER94_6 (s_0 : List TV) (s_1 : Int) : Env := [.un, w0 s_0 s_1] ++ uns 15 ++ [w5 s_0 s_1, w5 s_0 s_1, .un, .un, w7, .un, .un, w7] ++ uns 42
noncomputable abbrev R94_6 (s_0 : List TV) (s_1 : Int) : Nd := .rg [1, 1, 0] [true, true, false, false, true, false, false, true, false, false, false, false, false] (ER94_6 s_0 s_1)
noncomputable def ER94_7 (s_0 : List TV) (s_1 : Int) : Env := [.un, w0 s_0 s_1] ++ uns 15 ++ [w5 s_0 s_1, .un, .un, w11, w7, .un, .un, w7] ++ uns 42
noncomputable abbrev R94_7 (s_0 : List TV) (s_1 : Int) : Nd := .rg [1, 1, 0] [true, false, false, true, true, false, false, true, false, false, false, false, false] (ER94_7 s_0 s_1)
noncomputable def ER94_8 (s_0 : List TV) (s_1 : Int) : Env := [.un, w0 s_0 s_1] ++ uns 15 ++ [w5 s_0 s_1, .un, .un, .un, w7, w6 s_1, .un, w7] ++ uns 42
noncomputable abbrev R94_8 (s_0 : List TV) (s_1 : Int) : Nd := .rg [1, 1, 0] [true, false, false, false, true, true, false, true, false, false, false, false, false] (ER94_8 s_0 s_1)
noncomputable def ER94_9 (s_0 : List TV) (s_1 : Int) : Env := [.un, w0 s_0 s_1] ++ uns 15 ++ [w5 s_0 s_1, .un, .un, .un, w7, .un, .un, w7, w6 s_1] ++ uns 41
noncomputable abbrev R94_9 (s_0 : List TV) (s_1 : Int) : Nd := .rg [1, 1, 0] [true, false, false, false, true, false, false, true, true, false, false, false, false] (ER94_9 s_0 s_1)
noncomputable def ER94_10 (s_0 : List TV) (s_1 : Int) (v_2 : List TV) : Env := [.un, w0 s_0 s_1] ++ uns 16 ++ [w5 s_0 s_1, w18 v_2, .un, w7, .un, .un, w7] ++ uns 42
noncomputable abbrev R94_10 (s_0 : List TV) (s_1 : Int) (v_2 : List TV) : Nd := .rg [1, 1, 0] [false, true, true, false, true, false, false, true, false, false, false, false, false] (ER94_10 s_0 s_1 v_2)
noncomputable def ER94_11 (s_0 : List TV) (s_1 : Int) : Env := [.un, w0 s_0 s_1] ++ uns 16 ++ [w5 s_0 s_1, .un, w11, w7, .un, .un, w7] ++ uns 42
noncomputable abbrev R94_11 (s_0 : List TV) (s_1 : Int) : Nd := .rg [1, 1, 0] [false, true, false, true, true, false, false, true, false, false, false, false, false] (ER94_11 s_0 s_1)
noncomputable def ER94_12 (s_0 : List TV) (s_1 : Int) : Env := [.un, w0 s_0 s_1] ++ uns 16 ++ [w5 s_0 s_1, .un, .un, w7, w6 s_1, .un, w7] ++ uns 42
noncomputable abbrev R94_12 (s_0 : List TV) (s_1 : Int) : Nd := .rg [1, 1, 0] [false, true, false, false, true, true, false, true, false, false, false, false, false] (ER94_12 s_0 s_1)
noncomputable def ER94_13 (s_0 : List TV) (s_1 : Int) : Env := [.un, w0 s_0 s_1] ++ uns 16 ++ [w5 s_0 s_1, .un, .un, w7, .un, .un, w7, w6 s_1] ++ uns 41
noncomputable abbrev R94_13 (s_0 : List TV) (s_1 : Int) : Nd := .rg [1, 1, 0] [false, true, false, false, true, false, false, true, true, false, false, false, false] (ER94_13 s_0 s_1)
noncomputable def ER94_14 (s_0 : List TV) (s_1 : Int) : Env := [.un, w0 s_0 s_1] ++ uns 18 ++ [w11, w7, w6 s_1, .un, w7] ++ uns 42
noncomputable abbrev R94_14 (s_0 : List TV) (s_1 : Int) : Nd := .rg [1, 1, 0] [false, false, false, true, true, true, false, true, false, false, false, false, false] (ER94_14 s_0 s_1)
noncomputable def ER94_15 (s_0 : List TV) (s_1 : Int) : Env := [.un, w0 s_0 s_1] ++ uns 18 ++ [w11, w7, .un, .un, w7, w6 s_1] ++ uns 41
noncomputable abbrev R94_15 (s_0 : List TV) (s_1 : Int) : Nd := .rg [1, 1, 0] [false, false, false, true, true, false, false, true, true, false, false, false, false] (ER94_15 s_0 s_1)
noncomputable def ER94_16 (s_0 : List TV) (s_1 : Int) : Env := [.un, w0 s_0 s_1] ++ uns 19 ++ [w7, w6 s_1, .un, w7, w6 s_1] ++ uns 41
noncomputable abbrev R94_16 (s_0 : List TV) (s_1 : Int) : Nd := .rg [1, 1, 0] [false, false, false, false, true, true, false, true, true, false, false, false, false] (ER94_16 s_0 s_1)
noncomputable def ER94_17 (s_0 : List TV) (s_1 : Int) : Env := [.un, w0 s_0 s_1] ++ uns 19 ++ [w7, .un, .un, w7, w6 s_1, w12 s_1] ++ uns 40
noncomputable abbrev R94_17 (s_0 : List TV) (s_1 : Int) : Nd := .rg [1, 1, 0] [false, false, false, false, true, false, false, true, true, true, false, false, false] (ER94_17 s_0 s_1)
noncomputable def ER94_18 (s_0 : List TV) (s_1 : Int) (v_2 : List TV) : Env := [.un, w0 s_0 s_1] ++ uns 15 ++ [w5 s_0 s_1, w5 s_0 s_1, w18 v_2, .un, w7, .un, .un, w7] ++ uns 42
noncomputable abbrev R94_18 (s_0 : List TV) (s_1 : Int) (v_2 : List TV) : Nd := .rg [1, 1, 0] [true, true, true, false, true, false, false, true, false, false, false, false, false] (ER94_18 s_0 s_1 v_2)
noncomputable def ER94_19 (s_0 : List TV) (s_1 : Int) : Env := [.un, w0 s_0 s_1] ++ uns 15 ++ [w5 s_0 s_1, w5 s_0 s_1, .un, w11, w7, .un, .un, w7] ++ uns 42
noncomputable abbrev R94_19 (s_0 : List TV) (s_1 : Int) : Nd := .rg [1, 1, 0] [true, true, false, true, true, false, false, true, false, false, false, false, false] (ER94_19 s_0 s_1)
noncomputable def ER94_20 (s_0 : List TV) (s_1 : Int) : Env := [.un, w0 s_0 s_1] ++ uns 15 ++ [w5 s_0 s_1, w5 s_0 s_1, .un, .un, w7, w6 s_1, .un, w7] ++ uns 42
noncomputable abbrev R94_20 (s_0 : List TV) (s_1 : Int) : Nd := .rg [1, 1, 0] [true, true, false, false, true, true, false, true, false, false, false, false, false] (ER94_20 s_0 s_1)
noncomputable def ER94_21 (s_0 : List TV) (s_1 : Int) : Env := [.un, w0 s_0 s_1] ++ uns 15 ++ [w5 s_0 s_1, w5 s_0 s_1, .un, .un, w7, .un, .un, w7, w6 s_1] ++ uns 41
noncomputable abbrev R94_21 (s_0 : List TV) (s_1 : Int) : Nd := .rg [1, 1, 0] [true, true, false, false, true, false, false, true, true, false, false, false, false] (ER94_21 s_0 s_1)
noncomputable def ER94_22 (s_0 : List TV) (s_1 : Int) : Env := [.un, w0 s_0 s_1] ++ uns 15 ++ [w5 s_0 s_1, .un, .un, w11, w7, w6 s_1, .un, w7] ++ uns 42
noncomputable abbrev R94_22 (s_0 : List TV) (s_1 : Int) : Nd := .rg [1, 1, 0] [true, false, false, true, true, true, false, true, false, false, false, false, false] (ER94_22 s_0 s_1)
noncomputable def ER94_23 (s_0 : List TV) (s_1 : Int) : Env := [.un, w0 s_0 s_1] ++ uns 15 ++ [w5 s_0 s_1, .un, .un, w11, w7, .un, .un, w7, w6 s_1] ++ uns 41
noncomputable abbrev R94_23 (s_0 : List TV) (s_1 : Int) : Nd := .rg [1, 1, 0] [true, false, false, true, true, false, false, true, true, false, false, false, false] (ER94_23 s_0 s_1)
noncomputable def ER94_24 (s_0 : List TV) (s_1 : Int) : Env := [.un, w0 s_0 s_1] ++ uns 15 ++ [w5 s_0 s_1, .un, .un, .un, w7, w6 s_1, .un, w7, w6 s_1] ++ uns 41
noncomputable abbrev R94_24 (s_0 : List TV) (s_1 : Int) : Nd := .rg [1, 1, 0] [true, false, false, false, true, true, false, true, true, false, false, false, false] (ER94_24 s_0 s_1)
noncomputable def ER94_25 (s_0 : List TV) (s_1 : Int) : Env := [.un, w0 s_0 s_1] ++ uns 15 ++ [w5 s_0 s_1, .un, .un, .un, w7, .un, .un, w7, w6 s_1, w12 s_1] ++ uns 40
noncomputable abbrev R94_25 (s_0 : List TV) (s_1 : Int) : Nd := .rg [1, 1, 0] [true, false, false, false, true, false, false, true, true, true, false, false, false] (ER94_25 s_0 s_1)
noncomputable def ER94_26 (s_0 : List TV) (s_1 : Int) (v_2 : List TV) : Env := [.un, w0 s_0 s_1] ++ uns 16 ++ [w5 s_0 s_1, w18 v_2, w11, w7, .un, .un, w7] ++ uns 42
noncomputable abbrev R94_26 (s_0 : List TV) (s_1 : Int) (v_2 : List TV) : Nd := .rg [1, 1, 0] [false, true, true, true, true, false, false, true, false, false, false, false, false] (ER94_26 s_0 s_1 v_2)
noncomputable def ER94_27 (s_0 : List TV) (s_1 : Int) (v_2 : List TV) : Env := [.un, w0 s_0 s_1] ++ uns 16 ++ [w5 s_0 s_1, w18 v_2, .un, w7, w6 s_1, .un, w7] ++ uns 42
noncomputable abbrev R94_27 (s_0 : List TV) (s_1 : Int) (v_2 : List TV) : Nd := .rg [1, 1, 0] [false, true, true, false, true, true, false, true, false, false, false, false, false] (ER94_27 s_0 s_1 v_2)
noncomputable def ER94_28 (s_0 : List TV) (s_1 : Int) (v_2 : List TV) : Env := [.un, w0 s_0 s_1] ++ uns 16 ++ [w5 s_0 s_1, w18 v_2, .un, w7, .un, .un, w7, w6 s_1] ++ uns 41
noncomputable abbrev R94_28 (s_0 : List TV) (s_1 : Int) (v_2 : List TV) : Nd := .rg [1, 1, 0] [false, true, true, false, true, false, false, true, true, false, false, false, false] (ER94_28 s_0 s_1 v_2)
noncomputable def ER94_29 (s_0 : List TV) (s_1 : Int) : Env := [.un, w0 s_0 s_1] ++ uns 16 ++ [w5 s_0 s_1, .un, w11, w7, w6 s_1, .un, w7] ++ uns 42
noncomputable abbrev R94_29 (s_0 : List TV) (s_1 : Int) : Nd := .rg [1, 1, 0] [false, true, false, true, true, true, false, true, false, false, false, false, false] (ER94_29 s_0 s_1)
noncomputable def ER94_30 (s_0 : List TV) (s_1 : Int) : Env := [.un, w0 s_0 s_1] ++ uns 16 ++ [w5 s_0 s_1, .un, w11, w7, .un, .un, w7, w6 s_1] ++ uns 41
noncomputable abbrev R94_30 (s_0 : List TV) (s_1 : Int) : Nd := .rg [1, 1, 0] [false, true, false, true, true, false, false, true, true, false, false, false, false] (ER94_30 s_0 s_1)
noncomputable def ER94_31 (s_0 : List TV) (s_1 : Int) : Env := [.un, w0 s_0 s_1] ++ uns 16 ++ [w5 s_0 s_1, .un, .un, w7, w6 s_1, .un, w7, w6 s_1] ++ uns 41
noncomputable abbrev R94_31 (s_0 : List TV) (s_1 : Int) : Nd := .rg [1, 1, 0] [false, true, false, false, true, true, false, true, true, false, false, false, false] (ER94_31 s_0 s_1)
noncomputable def ER94_32 (s_0 : List TV) (s_1 : Int) : Env := [.un, w0 s_0 s_1] ++ uns 16 ++ [w5 s_0 s_1, .un, .un, w7, .un, .un, w7, w6 s_1, w12 s_1] ++ uns 40
noncomputable abbrev R94_32 (s_0 : List TV) (s_1 : Int) : Nd := .rg [1, 1, 0] [false, true, false, false, true, false, false, true, true, true, false, false, false] (ER94_32 s_0 s_1)
noncomputable def ER94_33 (s_0 : List TV) (s_1 : Int) : Env := [.un, w0 s_0 s_1] ++ uns 18 ++ [w11, w7, w6 s_1, .un, w7, w6 s_1] ++ uns 41
noncomputable abbrev R94_33 (s_0 : List TV) (s_1 : Int) : Nd := .rg [1, 1, 0] [false, false, false, true, true, true, false, true, true, false, false, false, false] (ER94_33 s_0 s_1)
noncomputable def ER94_34 (s_0 : List TV) (s_1 : Int) : Env := [.un, w0 s_0 s_1] ++ uns 18 ++ [w11, w7, .un, .un, w7, w6 s_1, w12 s_1] ++ uns 40
noncomputable abbrev R94_34 (s_0 : List TV) (s_1 : Int) : Nd := .rg [1, 1, 0] [false, false, false, true, true, false, false, true, true, true, false, false, false] (ER94_34 s_0 s_1)
noncomputable def ER94_35 (s_0 : List TV) (s_1 : Int) : Env := [.un, w0 s_0 s_1] ++ uns 19 ++ [w7, w6 s_1, .un, w7, w6 s_1, w12 s_1] ++ uns 40
noncomputable abbrev R94_35 (s_0 : List TV) (s_1 : Int) : Nd := .rg [1, 1, 0] [false, false, false, false, true, true, false, true, true, true, false, false, false] (ER94_35 s_0 s_1)
noncomputable def ER94_36 (s_0 : List TV) (s_1 : Int) : Env := [.un, w0 s_0 s_1] ++ uns 15 ++ [w5 s_0 s_1, w5 s_0 s_1, .un, .un, w7, .un, .un, w7, w6 s_1, w12 s_1] ++ uns 40
noncomputable abbrev R94_36 (s_0 : List TV) (s_1 : Int) : Nd := .rg [1, 1, 0] [true, true, false, false, true, false, false, true, true, true, false, false, false] (ER94_36 s_0 s_1)
noncomputable def ER94_37 (s_0 : List TV) (s_1 : Int) (v_2 : List TV) : Env := [.un, w0 s_0 s_1] ++ uns 16 ++ [w5 s_0 s_1, w18 v_2, .un, w7, .un, .un, w7, w6 s_1, w12 s_1] ++ uns 40
noncomputable abbrev R94_37 (s_0 : List TV) (s_1 : Int) (v_2 : List TV) : Nd := .rg [1, 1, 0] [false, true, true, false, true, false, false, true, true, true, false, false, false] (ER94_37 s_0 s_1 v_2)
noncomputable def ER94_38 (s_0 : List TV) (s_1 : Int) : Env := [.un, w0 s_0 s_1] ++ uns 16 ++ [w5 s_0 s_1, .un, w11, w7, .un, .un, w7, w6 s_1, w12 s_1] ++ uns 40
noncomputable abbrev R94_38 (s_0 : List TV) (s_1 : Int) : Nd := .rg [1, 1, 0] [false, true, false, true, true, false, false, true, true, true, false, false, false] (ER94_38 s_0 s_1)
noncomputable def ER94_39 (s_0 : List TV) (s_1 : Int) : Env := [.un, w0 s_0 s_1] ++ uns 16 ++ [w5 s_0 s_1, .un, .un, w7, w6 s_1, .un, w7, w6 s_1, w12 s_1] ++ uns 40
noncomputable abbrev R94_39 (s_0 : List TV) (s_1 : Int) : Nd := .rg [1, 1, 0] [false, true, false, false, true, true, false, true, true, true, false, false, false] (ER94_39 s_0 s_1)
noncomputable def ER94_40 (s_0 : List TV) (s_1 : Int) (v_2 : List TV) : Env := [.un, w0 s_0 s_1] ++ uns 15 ++ [w5 s_0 s_1, w5 s_0 s_1, w18 v_2, w11, w7, .un, .un, w7] ++ uns 42
noncomputable abbrev R94_40 (s_0 : List TV) (s_1 : Int) (v_2 : List TV) : Nd := .rg [1, 1, 0] [true, true, true, true, true, false, false, true, false, false, false, false, false] (ER94_40 s_0 s_1 v_2)
noncomputable def ER94_41 (s_0 : List TV) (s_1 : Int) (v_2 : List TV) : Env := [.un, w0 s_0 s_1] ++ uns 15 ++ [w5 s_0 s_1, w5 s_0 s_1, w18 v_2, .un, w7, w6 s_1, .un, w7] ++ uns 42
noncomputable abbrev R94_41 (s_0 : List TV) (s_1 : Int) (v_2 : List TV) : Nd := .rg [1, 1, 0] [true, true, true, false, true, true, false, true, false, false, false, false, false] (ER94_41 s_0 s_1 v_2)
noncomputable def ER94_42 (s_0 : List TV) (s_1 : Int) (v_2 : List TV) : Env := [.un, w0 s_0 s_1] ++ uns 15 ++ [w5 s_0 s_1, w5 s_0 s_1, w18 v_2, .un, w7, .un, .un, w7, w6 s_1] ++ uns 41
noncomputable abbrev R94_42 (s_0 : List TV) (s_1 : Int) (v_2 : List TV) : Nd := .rg [1, 1, 0] [true, true, true, false, true, false, false, true, true, false, false, false, false] (ER94_42 s_0 s_1 v_2)
noncomputable def ER94_43 (s_0 : List TV) (s_1 : Int) : Env := [.un, w0 s_0 s_1] ++ uns 15 ++ [w5 s_0 s_1, w5 s_0 s_1, .un, w11, w7, w6 s_1, .un, w7] ++ uns 42
noncomputable abbrev R94_43 (s_0 : List TV) (s_1 : Int) : Nd := .rg [1, 1, 0] [true, true, false, true, true, true, false, true, false, false, false, false, false] (ER94_43 s_0 s_1)
noncomputable def ER94_44 (s_0 : List TV) (s_1 : Int) : Env := [.un, w0 s_0 s_1] ++ uns 15 ++ [w5 s_0 s_1, w5 s_0 s_1, .un, w11, w7, .un, .un, w7, w6 s_1] ++ uns 41
noncomputable abbrev R94_44 (s_0 : List TV) (s_1 : Int) : Nd := .rg [1, 1, 0] [true, true, false, true, true, false, false, true, true, false, false, false, false] (ER94_44 s_0 s_1)
noncomputable def ER94_45 (s_0 : List TV) (s_1 : Int) : Env := [.un, w0 s_0 s_1] ++ uns 15 ++ [w5 s_0 s_1, w5 s_0 s_1, .un, .un, w7, w6 s_1, .un, w7, w6 s_1] ++ uns 41
noncomputable abbrev R94_45 (s_0 : List TV) (s_1 : Int) : Nd := .rg [1, 1, 0] [true, true, false, false, true, true, false, true, true, false, false, false, false] (ER94_45 s_0 s_1)
noncomputable def ER94_46 (s_0 : List TV) (s_1 : Int) : Env := [.un, w0 s_0 s_1] ++ uns 15 ++ [w5 s_0 s_1, .un, .un, w11, w7, w6 s_1, .un, w7, w6 s_1] ++ uns 41
noncomputable abbrev R94_46 (s_0 : List TV) (s_1 : Int) : Nd := .rg [1, 1, 0] [true, false, false, true, true, true, false, true, true, false, false, false, false] (ER94_46 s_0 s_1)
noncomputable def ER94_47 (s_0 : List TV) (s_1 : Int) : Env := [.un, w0 s_0 s_1] ++ uns 15 ++ [w5 s_0 s_1, .un, .un, w11, w7, .un, .un, w7, w6 s_1, w12 s_1] ++ uns 40
noncomputable abbrev R94_47 (s_0 : List TV) (s_1 : Int) : Nd := .rg [1, 1, 0] [true, false, false, true, true, false, false, true, true, true, false, false, false] (ER94_47 s_0 s_1)
noncomputable def ER94_48 (s_0 : List TV) (s_1 : Int) : Env := [.un, w0 s_0 s_1] ++ uns 15 ++ [w5 s_0 s_1, .un, .un, .un, w7, w6 s_1, .un, w7, w6 s_1, w12 s_1] ++ uns 40
noncomputable abbrev R94_48 (s_0 : List TV) (s_1 : Int) : Nd := .rg [1, 1, 0] [true, false, false, false, true, true, false, true, true, true, false, false, false] (ER94_48 s_0 s_1)
noncomputable def ER94_49 (s_0 : List TV) (s_1 : Int) (v_2 : List TV) : Env := [.un, w0 s_0 s_1] ++ uns 15 ++ [w5 s_0 s_1, w5 s_0 s_1, w18 v_2, .un, w7, .un, .un, w7, w6 s_1, w12 s_1] ++ uns 40
noncomputable abbrev R94_49 (s_0 : List TV) (s_1 : Int) (v_2 : List TV) : Nd := .rg [1, 1, 0] [true, true, true, false, true, false, false, true, true, true, false, false, false] (ER94_49 s_0 s_1 v_2)
noncomputable def ER94_50 (s_0 : List TV) (s_1 : Int) : Env := [.un, w0 s_0 s_1] ++ uns 15 ++ [w5 s_0 s_1, w5 s_0 s_1, .un, w11, w7, .un, .un, w7, w6 s_1, w12 s_1] ++ uns 40
noncomputable abbrev R94_50 (s_0 : List TV) (s_1 : Int) : Nd := .rg [1, 1, 0] [true, true, false, true, true, false, false, true, true, true, false, false, false] (ER94_50 s_0 s_1)
noncomputable def ER94_51 (s_0 : List TV) (s_1 : Int) : Env := [.un, w0 s_0 s_1] ++ uns 15 ++ [w5 s_0 s_1, w5 s_0 s_1, .un, .un, w7, w6 s_1, .un, w7, w6 s_1, w12 s_1] ++ uns 40
noncomputable abbrev R94_51 (s_0 : List TV) (s_1 : Int) : Nd := .rg [1, 1, 0] [true, true, false, false, true, true, false, true, true, true, false, false, false] (ER94_51 s_0 s_1)
noncomputable def ER94_52 (s_0 : List TV) (s_1 : Int) (v_2 : List TV) : Env := [.un, w0 s_0 s_1] ++ uns 16 ++ [w5 s_0 s_1, w18 v_2, w11, w7, w6 s_1, .un, w7] ++ uns 42
noncomputable abbrev R94_52 (s_0 : List TV) (s_1 : Int) (v_2 : List TV) : Nd := .rg [1, 1, 0] [false, true, true, true, true, true, false, true, false, false, false, false, false] (ER94_52 s_0 s_1 v_2)
noncomputable def ER94_53 (s_0 : List TV) (s_1 : Int) (v_2 : List TV) : Env := [.un, w0 s_0 s_1] ++ uns 16 ++ [w5 s_0 s_1, w18 v_2, w11, w7, .un, .un, w7, w6 s_1] ++ uns 41
noncomputable abbrev R94_53 (s_0 : List TV) (s_1 : Int) (v_2 : List TV) : Nd := .rg [1, 1, 0] [false, true, true, true, true, false, false, true, true, false, false, false, false] (ER94_53 s_0 s_1 v_2)
noncomputable def ER94_54 (s_0 : List TV) (s_1 : Int) (v_2 : List TV) : Env := [.un, w0 s_0 s_1] ++ uns 16 ++ [w5 s_0 s_1, w18 v_2, .un, w7, w6 s_1, .un, w7, w6 s_1] ++ uns 41
noncomputable abbrev R94_54 (s_0 : List TV) (s_1 : Int) (v_2 : List TV) : Nd := .rg [1, 1, 0] [false, true, true, false, true, true, false, true, true, false, false, false, false] (ER94_54 s_0 s_1 v_2)
noncomputable def ER94_55 (s_0 : List TV) (s_1 : Int) : Env := [.un, w0 s_0 s_1] ++ uns 16 ++ [w5 s_0 s_1, .un, w11, w7, w6 s_1, .un, w7, w6 s_1] ++ uns 41
noncomputable abbrev R94_55 (s_0 : List TV) (s_1 : Int) : Nd := .rg [1, 1, 0] [false, true, false, true, true, true, false, true, true, false, false, false, false] (ER94_55 s_0 s_1)
noncomputable def ER94_56 (s_0 : List TV) (s_1 : Int) : Env := [.un, w0 s_0 s_1] ++ uns 18 ++ [w11, w7, w6 s_1, .un, w7, w6 s_1, w12 s_1] ++ uns 40
noncomputable abbrev R94_56 (s_0 : List TV) (s_1 : Int) : Nd := .rg [1, 1, 0] [false, false, false, true, true, true, false, true, true, true, false, false, false] (ER94_56 s_0 s_1)
noncomputable def ER94_57 (s_0 : List TV) (s_1 : Int) (v_2 : List TV) : Env := [.un, w0 s_0 s_1] ++ uns 16 ++ [w5 s_0 s_1, w18 v_2, w11, w7, .un, .un, w7, w6 s_1, w12 s_1] ++ uns 40
noncomputable abbrev R94_57 (s_0 : List TV) (s_1 : Int) (v_2 : List TV) : Nd := .rg [1, 1, 0] [false, true, true, true, true, false, false, true, true, true, false, false, false] (ER94_57 s_0 s_1 v_2)
noncomputable def ER94_58 (s_0 : List TV) (s_1 : Int) : Env := [.un, w0 s_0 s_1] ++ uns 16 ++ [w5 s_0 s_1, .un, w11, w7, w6 s_1, .un, w7, w6 s_1, w12 s_1] ++ uns 40
noncomputable abbrev R94_58 (s_0 : List TV) (s_1 : Int) : Nd := .rg [1, 1, 0] [false, true, false, true, true, true, false, true, true, true, false, false, false] (ER94_58 s_0 s_1)
noncomputable def ER94_59 (s_0 : List TV) (s_1 : Int) (v_2 : List TV) : Env := [.un, w0 s_0 s_1] ++ uns 16 ++ [w5 s_0 s_1, w18 v_2, .un, w7, w6 s_1, .un, w7, w6 s_1, w12 s_1] ++ uns 40
noncomputable abbrev R94_59 (s_0 : List TV) (s_1 : Int) (v_2 : List TV) : Nd := .rg [1, 1, 0] [false, true, true, false, true, true, false, true, true, true, false, false, false] (ER94_59 s_0 s_1 v_2)
noncomputable def ER94_60 (s_0 : List TV) (s_1 : Int) (v_2 : List TV) : Env := [.un, w0 s_0 s_1] ++ uns 15 ++ [w5 s_0 s_1, w5 s_0 s_1, w18 v_2, .un, w7, w6 s_1, .un, w7, w6 s_1, w12 s_1] ++ uns 40
noncomputable abbrev R94_60 (s_0 : List TV) (s_1 : Int) (v_2 : List TV) : Nd := .rg [1, 1, 0] [true, true, true, false, true, true, false, true, true, true, false, false, false] (ER94_60 s_0 s_1 v_2)
noncomputable def ER94_61 (s_0 : List TV) (s_1 : Int) (v_2 : List TV) : Env := [.un, w0 s_0 s_1] ++ uns 16 ++ [w5 s_0 s_1, w18 v_2, w11, w7, w6 s_1, .un, w7, w6 s_1, w12 s_1] ++ uns 40
noncomputable abbrev R94_61 (s_0 : List TV) (s_1 : Int) (v_2 : List TV) : Nd := .rg [1, 1, 0] [false, true, true, true, true, true, false, true, true, true, false, false, false] (ER94_61 s_0 s_1 v_2)
noncomputable def ER94_62 (s_0 : List TV) (s_1 : Int) (v_2 : List TV) : Env := [.un, w0 s_0 s_1] ++ uns 15 ++ [w5 s_0 s_1, w5 s_0 s_1, w18 v_2, w11, w7, w6 s_1, .un, w7] ++ uns 42
noncomputable abbrev R94_62 (s_0 : List TV) (s_1 : Int) (v_2 : List TV) : Nd := .rg [1, 1, 0] [true, true, true, true, true, true, false, true, false, false, false, false, false] (ER94_62 s_0 s_1 v_2)
noncomputable def ER94_63 (s_0 : List TV) (s_1 : Int) (v_2 : List TV) : Env := [.un, w0 s_0 s_1] ++ uns 15 ++ [w5 s_0 s_1, w5 s_0 s_1, w18 v_2, w11, w7, .un, .un, w7, w6 s_1] ++ uns 41
noncomputable abbrev R94_63 (s_0 : List TV) (s_1 : Int) (v_2 : List TV) : Nd := .rg [1, 1, 0] [true, true, true, true, true, false, false, true, true, false, false, false, false] (ER94_63 s_0 s_1 v_2)
noncomputable def ER94_64 (s_0 : List TV) (s_1 : Int) (v_2 : List TV) : Env := [.un, w0 s_0 s_1] ++ uns 15 ++ [w5 s_0 s_1, w5 s_0 s_1, w18 v_2, .un, w7, w6 s_1, .un, w7, w6 s_1] ++ uns 41
noncomputable abbrev R94_64 (s_0 : List TV) (s_1 : Int) (v_2 : List TV) : Nd := .rg [1, 1, 0] [true, true, true, false, true, true, false, true, true, false, false, false, false] (ER94_64 s_0 s_1 v_2)
noncomputable def ER94_65 (s_0 : List TV) (s_1 : Int) : Env := [.un, w0 s_0 s_1] ++ uns 15 ++ [w5 s_0 s_1, w5 s_0 s_1, .un, w11, w7, w6 s_1, .un, w7, w6 s_1] ++ uns 41
noncomputable abbrev R94_65 (s_0 : List TV) (s_1 : Int) : Nd := .rg [1, 1, 0] [true, true, false, true, true, true, false, true, true, false, false, false, false] (ER94_65 s_0 s_1)
noncomputable def ER94_66 (s_0 : List TV) (s_1 : Int) : Env := [.un, w0 s_0 s_1] ++ uns 15 ++ [w5 s_0 s_1, .un, .un, w11, w7, w6 s_1, .un, w7, w6 s_1, w12 s_1] ++ uns 40
noncomputable abbrev R94_66 (s_0 : List TV) (s_1 : Int) : Nd := .rg [1, 1, 0] [true, false, false, true, true, true, false, true, true, true, false, false, false] (ER94_66 s_0 s_1)
noncomputable def ER94_67 (s_0 : List TV) (s_1 : Int) (v_2 : List TV) : Env := [.un, w0 s_0 s_1] ++ uns 15 ++ [w5 s_0 s_1, w5 s_0 s_1, w18 v_2, w11, w7, .un, .un, w7, w6 s_1, w12 s_1] ++ uns 40
noncomputable abbrev R94_67 (s_0 : List TV) (s_1 : Int) (v_2 : List TV) : Nd := .rg [1, 1, 0] [true, true, true, true, true, false, false, true, true, true, false, false, false] (ER94_67 s_0 s_1 v_2)
noncomputable def ER94_68 (s_0 : List TV) (s_1 : Int) : Env := [.un, w0 s_0 s_1] ++ uns 15 ++ [w5 s_0 s_1, w5 s_0 s_1, .un, w11, w7, w6 s_1, .un, w7, w6 s_1, w12 s_1] ++ uns 40
noncomputable abbrev R94_68 (s_0 : List TV) (s_1 : Int) : Nd := .rg [1, 1, 0] [true, true, false, true, true, true, false, true, true, true, false, false, false] (ER94_68 s_0 s_1)
noncomputable def EG94_69 (s_0 : List TV) (s_1 : Int) (v_2 : List TV) (v_3 : List TV) : Env := [.un, w0 s_0 s_1, .un, .val [] (.pt false () (.st [.st [sl true ⟨6, true⟩ s_0, i64 s_1], sl false ⟨1, true⟩ v_2, sl false ⟨1, true⟩ ([]), sl false ⟨1, false⟩ v_3, sl false ⟨1, false⟩ (List.replicate s_1.toNat (i64 0))]))] ++ uns 63
noncomputable abbrev G94_69 (s_0 : List TV) (s_1 : Int) (v_2 : List TV) (v_3 : List TV) : Nd := .go [1, 1, 1] (EG94_69 s_0 s_1 v_2 v_3)
noncomputable def ER94_70 (s_0 : List TV) (s_1 : Int) (v_2 : List TV) (v_3 : List TV) : Env := [.un, w0 s_0 s_1] ++ uns 16 ++ [w5 s_0 s_1, w18 v_2, w11, w7, w6 s_1, w10 v_3, w7] ++ uns 42
noncomputable abbrev R94_70 (s_0 : List TV) (s_1 : Int) (v_2 : List TV) (v_3 : List TV) : Nd := .rg [1, 1, 0] [false, true, true, true, true, true, true, true, false, false, false, false, false] (ER94_70 s_0 s_1 v_2 v_3)
noncomputable def ER94_71 (s_0 : List TV) (s_1 : Int) (v_2 : List TV) : Env := [.un, w0 s_0 s_1] ++ uns 16 ++ [w5 s_0 s_1, w18 v_2, w11, w7, w6 s_1, .un, w7, w6 s_1] ++ uns 41
noncomputable abbrev R94_71 (s_0 : List TV) (s_1 : Int) (v_2 : List TV) : Nd := .rg [1, 1, 0] [false, true, true, true, true, true, false, true, true, false, false, false, false] (ER94_71 s_0 s_1 v_2)
noncomputable def ER94_72 (s_0 : List TV) (s_1 : Int) (v_2 : List TV) : Env := [.un, w0 s_0 s_1] ++ uns 15 ++ [w5 s_0 s_1, w5 s_0 s_1, w18 v_2, w11, w7, w6 s_1, .un, w7, w6 s_1, w12 s_1] ++ uns 40
noncomputable abbrev R94_72 (s_0 : List TV) (s_1 : Int) (v_2 : List TV) : Nd := .rg [1, 1, 0] [true, true, true, true, true, true, false, true, true, true, false, false, false] (ER94_72 s_0 s_1 v_2)
noncomputable def ER94_73 (s_0 : List TV) (s_1 : Int) (v_2 : List TV) (v_3 : List TV) : Env := [.un, w0 s_0 s_1] ++ uns 16 ++ [w5 s_0 s_1, w18 v_2, w11, w7, w6 s_1, w10 v_3, w7, w6 s_1, w12 s_1] ++ uns 40
noncomputable abbrev R94_73 (s_0 : List TV) (s_1 : Int) (v_2 : List TV) (v_3 : List TV) : Nd := .rg [1, 1, 0] [false, true, true, true, true, true, true, true, true, true, false, false, false] (ER94_73 s_0 s_1 v_2 v_3)
noncomputable def ER94_74 (s_0 : List TV) (s_1 : Int) (v_2 : List TV) (v_3 : List TV) : Env := [.un, w0 s_0 s_1] ++ uns 15 ++ [w5 s_0 s_1, w5 s_0 s_1, w18 v_2, w11, w7, w6 s_1, w10 v_3, w7] ++ uns 42
noncomputable abbrev R94_74 (s_0 : List TV) (s_1 : Int) (v_2 : List TV) (v_3 : List TV) : Nd := .rg [1, 1, 0] [true, true, true, true, true, true, true, true, false, false, false, false, false] (ER94_74 s_0 s_1 v_2 v_3)
noncomputable def ER94_75 (s_0 : List TV) (s_1 : Int) (v_2 : List TV) : Env := [.un, w0 s_0 s_1] ++ uns 15 ++ [w5 s_0 s_1, w5 s_0 s_1, w18 v_2, w11, w7, w6 s_1, .un, w7, w6 s_1] ++ uns 41
noncomputable abbrev R94_75 (s_0 : List TV) (s_1 : Int) (v_2 : List TV) : Nd := .rg [1, 1, 0] [true, true, true, true, true, true, false, true, true, false, false, false, false] (ER94_75 s_0 s_1 v_2)
noncomputable def EH94_76 (s_0 : List TV) (s_1 : Int) (v_4 : List TV) (v_5 : Int) (v_2 : List TV) (v_6 : List TV) (v_3 : List TV) (v_7 : List TV) (v_8 : Int) : Env := [.un, w0 s_0 s_1, .un, w23 v_4 v_5 v_2 v_6 v_3 v_7] ++ uns 27 ++ [w8 s_0, w6 v_8] ++ uns 34
noncomputable abbrev H94_76 (s_0 : List TV) (s_1 : Int) (v_4 : List TV) (v_5 : Int) (v_2 : List TV) (v_6 : List TV) (v_3 : List TV) (v_7 : List TV) (v_8 : Int) : Nd := .head [1, 1, 1, 0, 1, 2] (EH94_76 s_0 s_1 v_4 v_5 v_2 v_6 v_3 v_7 v_8)
noncomputable abbrev B94_76 (s_0 : List TV) (s_1 : Int) (v_4 : List TV) (v_5 : Int) (v_2 : List TV) (v_6 : List TV) (v_3 : List TV) (v_7 : List TV) (v_8 : Int) : Nd := .back [1, 1, 1, 0, 1, 2] (EH94_76 s_0 s_1 v_4 v_5 v_2 v_6 v_3 v_7 v_8)
noncomputable def ER94_77 (s_0 : List TV) (s_1 : Int) (v_2 : List TV) (v_3 : List TV) : Env := [.un, w0 s_0 s_1] ++ uns 15 ++ [w5 s_0 s_1, w5 s_0 s_1, w18 v_2, w11, w7, w6 s_1, w10 v_3, w7, w6 s_1] ++ uns 41
noncomputable abbrev R94_77 (s_0 : List TV) (s_1 : Int) (v_2 : List TV) (v_3 : List TV) : Nd := .rg [1, 1, 0] [true, true, true, true, true, true, true, true, true, false, false, false, false] (ER94_77 s_0 s_1 v_2 v_3)
noncomputable def ER94_78 (s_0 : List TV) (s_1 : Int) (v_2 : List TV) (v_3 : List TV) : Env := [.un, w0 s_0 s_1] ++ uns 16 ++ [w5 s_0 s_1, w18 v_2, w11, w7, w6 s_1, w10 v_3, w7, w6 s_1] ++ uns 41
noncomputable abbrev R94_78 (s_0 : List TV) (s_1 : Int) (v_2 : List TV) (v_3 : List TV) : Nd := .rg [1, 1, 0] [false, true, true, true, true, true, true, true, true, false, false, false, false] (ER94_78 s_0 s_1 v_2 v_3)
noncomputable def EH94_79 (v_0 : List TV) (v_1 : Int) (v_2 : List TV) (v_3 : List TV) (v_4 : List TV) (v_6 : List TV) (v_7 : Int) (v_5 : Int) : Env := [.un, .un, .un, w23 v_0 v_1 v_2 v_3 v_4 v_6] ++ uns 52 ++ [w6 v_7, w6 v_5] ++ uns 9
noncomputable abbrev H94_79 (v_0 : List TV) (v_1 : Int) (v_2 : List TV) (v_3 : List TV) (v_4 : List TV) (v_6 : List TV) (v_7 : Int) (v_5 : Int) : Nd := .head [1, 1, 1, 1, 1, 1, 0, 1, 2] (EH94_79 v_0 v_1 v_2 v_3 v_4 v_6 v_7 v_5)
noncomputable abbrev B94_79 (v_0 : List TV) (v_1 : Int) (v_2 : List TV) (v_3 : List TV) (v_4 : List TV) (v_6 : List TV) (v_7 : Int) (v_5 : Int) : Nd := .back [1, 1, 1, 1, 1, 1, 0, 1, 2] (EH94_79 v_0 v_1 v_2 v_3 v_4 v_6 v_7 v_5)
noncomputable def Z94_0  : Nd :=
  .ret [tnil] []
noncomputable def Z94_1 (s_0 : List TV) (s_1 : Int) : Nd :=
  .amb4 
  (R94_36 s_0 s_1) 
  (C136 s_0 s_1 fun vs_784a =>
    R94_37 s_0 s_1 vs_784a) 
  (R94_38 s_0 s_1) 
  (R94_39 s_0 s_1)
noncomputable def Z94_2 (s_0 : List TV) (s_1 : Int) : Nd :=
  .amb3 
  (C136 s_0 s_1 fun vs_784a =>
    R94_49 s_0 s_1 vs_784a) 
  (R94_50 s_0 s_1) 
  (R94_51 s_0 s_1)
noncomputable def Z94_3 (s_0 : List TV) (s_1 : Int) : Nd :=
  .amb3 
  (R94_50 s_0 s_1) 
  (C136 s_0 s_1 fun vs_784a =>
    R94_57 s_0 s_1 vs_784a) 
  (R94_58 s_0 s_1)
noncomputable def Z94_4 (s_0 : List TV) (s_1 : Int) : Nd :=
  .amb3 
  (R94_51 s_0 s_1) 
  (C136 s_0 s_1 fun vs_784a =>
    R94_59 s_0 s_1 vs_784a) 
  (R94_58 s_0 s_1)
noncomputable def Z94_5 (s_0 : List TV) (s_1 : Int) (v_2 : List TV) : Nd :=
  .amb2 
  (R94_60 s_0 s_1 v_2) 
  (R94_61 s_0 s_1 v_2)
noncomputable def Z94_6 (s_0 : List TV) (s_1 : Int) : Nd :=
  .amb2 
  (C136 s_0 s_1 fun vs_784a =>
    R94_67 s_0 s_1 vs_784a) 
  (R94_68 s_0 s_1)
noncomputable def Z94_7 (s_0 : List TV) (s_1 : Int) : Nd :=
  .amb2 
  (C136 s_0 s_1 fun vs_784a =>
    R94_60 s_0 s_1 vs_784a) 
  (R94_68 s_0 s_1)
noncomputable def Z94_8 (s_0 : List TV) (s_1 : Int) (v_2 : List TV) : Nd :=
  C114 ([i64 (-1)]) s_1 fun vs_41e8 =>
  G94_69 s_0 s_1 v_2 vs_41e8
noncomputable def Z94_9 (s_0 : List TV) (s_1 : Int) : Nd :=
  .amb2 
  (R94_68 s_0 s_1) 
  (C136 s_0 s_1 fun vs_784a =>
    R94_61 s_0 s_1 vs_784a)
noncomputable def Z94_10 (s_0 : List TV) (s_1 : Int) (v_2 : List TV) : Nd :=
  .amb2 
  (R94_72 s_0 s_1 v_2) 
  (C114 ([i64 (-1)]) s_1 fun vs_41e8 =>
    R94_73 s_0 s_1 v_2 vs_41e8)
noncomputable def Z94_11 (s_0 : List TV) (s_1 : Int) : Nd :=
  C136 s_0 s_1 fun vs_784a =>
  C114 ([i64 (-1)]) s_1 fun vs_41e8 =>
  G94_69 s_0 s_1 vs_784a vs_41e8
noncomputable def Z94_12 (s_0 : List TV) (s_1 : Int) (v_2 : List TV) (v_3 : List TV) : Nd :=
  .amb2 
  (R94_77 s_0 s_1 v_2 v_3) 
  (.ck (decide ((0 : Int) ≤ s_1) && decide (s_1 ≤ s_1) && decide (s_1 * 8 < (lim : Int)) && decide (s_1 < 9223372036854775807) && true && true) <|
    R94_73 s_0 s_1 v_2 v_3)
noncomputable def Z94_13 (s_0 : List TV) (s_1 : Int) (v_2 : List TV) (v_3 : List TV) : Nd :=
  .ck (decide ((0 : Int) ≤ s_1) && decide (s_1 ≤ s_1) && decide (s_1 * 8 < (lim : Int)) && decide (s_1 < 9223372036854775807) && true && true) <|
  G94_69 s_0 s_1 v_2 v_3
noncomputable def N94 (s_0 : List TV) (s_1 : Int) : Nd :=
  C57 ((s_0.length : Nat) : Int) 1 11 fun v_2062 =>
  .bif ((!v_2062))
  (Z94_0)
  (C57 s_1 12 250 fun v_e6d9 =>
    .bif ((!v_e6d9))
    (Z94_0)
    (G94_0 s_0 s_1))
theorem e94 {s_0 : List TV} {s_1 : Int} {r : Res} (h : S cx 94 (N94 s_0 s_1) = some r) : tw cx 94 [.st [sl true ⟨6, true⟩ s_0, i64 s_1]] = some r :=
  tw_of (fun call hd hb pt rg => by kernel_rfl) h
noncomputable def NG94_0 (s_0 : List TV) (s_1 : Int) : Nd :=
  .amb5 
  (R94_1 s_0 s_1) 
  (R94_2 s_0 s_1) 
  (R94_3 s_0 s_1) 
  (R94_4 s_0 s_1) 
  (R94_5 s_0 s_1)
theorem eG94_0 {s_0 : List TV} {s_1 : Int} {r : Res} (h : S cx 94 (NG94_0 s_0 s_1) = some r) : S cx 94 (G94_0 s_0 s_1) = some r :=
  pw_of (fun call hd hb pt rg => by kernel_rfl) h
noncomputable def NR94_1 (s_0 : List TV) (s_1 : Int) : Nd :=
  .amb4 
  (R94_6 s_0 s_1) 
  (R94_7 s_0 s_1) 
  (R94_8 s_0 s_1) 
  (R94_9 s_0 s_1)
theorem eR94_1 {s_0 : List TV} {s_1 : Int} {r : Res} (h : S cx 94 (NR94_1 s_0 s_1) = some r) : S cx 94 (R94_1 s_0 s_1) = some r :=
  gw_of (fun call hd hb pt rg => by kernel_rfl) h
noncomputable def NR94_2 (s_0 : List TV) (s_1 : Int) : Nd :=
  .amb5 
  (R94_6 s_0 s_1) 
  (C136 s_0 s_1 fun vs_784a =>
    R94_10 s_0 s_1 vs_784a) 
  (R94_11 s_0 s_1) 
  (R94_12 s_0 s_1) 
  (R94_13 s_0 s_1)
theorem eR94_2 {s_0 : List TV} {s_1 : Int} {r : Res} (h : S cx 94 (NR94_2 s_0 s_1) = some r) : S cx 94 (R94_2 s_0 s_1) = some r :=
  gw_of (fun call hd hb pt rg => by kernel_rfl) h
noncomputable def NR94_3 (s_0 : List TV) (s_1 : Int) : Nd :=
  .amb4 
  (R94_7 s_0 s_1) 
  (R94_11 s_0 s_1) 
  (R94_14 s_0 s_1) 
  (R94_15 s_0 s_1)
theorem eR94_3 {s_0 : List TV} {s_1 : Int} {r : Res} (h : S cx 94 (NR94_3 s_0 s_1) = some r) : S cx 94 (R94_3 s_0 s_1) = some r :=
  gw_of (fun call hd hb pt rg => by kernel_rfl) h
noncomputable def NR94_4 (s_0 : List TV) (s_1 : Int) : Nd :=
  .amb4 
  (R94_8 s_0 s_1) 
  (R94_12 s_0 s_1) 
  (R94_14 s_0 s_1) 
  (R94_16 s_0 s_1)
theorem eR94_4 {s_0 : List TV} {s_1 : Int} {r : Res} (h : S cx 94 (NR94_4 s_0 s_1) = some r) : S cx 94 (R94_4 s_0 s_1) = some r :=
  gw_of (fun call hd hb pt rg => by kernel_rfl) h
noncomputable def NR94_5 (s_0 : List TV) (s_1 : Int) : Nd :=
  .amb5 
  (R94_9 s_0 s_1) 
  (R94_13 s_0 s_1) 
  (R94_15 s_0 s_1) 
  (R94_16 s_0 s_1) 
  (.ck (decide ((0 : Int) ≤ s_1) && decide (s_1 ≤ s_1) && decide (s_1 * 8 < (lim : Int)) && decide (s_1 < 9223372036854775807) && true && true) <|
    R94_17 s_0 s_1)
theorem eR94_5 {s_0 : List TV} {s_1 : Int} {r : Res} (h : S cx 94 (NR94_5 s_0 s_1) = some r) : S cx 94 (R94_5 s_0 s_1) = some r :=
  gw_of (fun call hd hb pt rg => by kernel_rfl) h
noncomputable def NR94_6 (s_0 : List TV) (s_1 : Int) : Nd :=
  .amb4 
  (C136 s_0 s_1 fun vs_784a =>
    R94_18 s_0 s_1 vs_784a) 
  (R94_19 s_0 s_1) 
  (R94_20 s_0 s_1) 
  (R94_21 s_0 s_1)
theorem eR94_6 {s_0 : List TV} {s_1 : Int} {r : Res} (h : S cx 94 (NR94_6 s_0 s_1) = some r) : S cx 94 (R94_6 s_0 s_1) = some r :=
  gw_of (fun call hd hb pt rg => by kernel_rfl) h
noncomputable def NR94_7 (s_0 : List TV) (s_1 : Int) : Nd :=
  .amb3 
  (R94_19 s_0 s_1) 
  (R94_22 s_0 s_1) 
  (R94_23 s_0 s_1)
theorem eR94_7 {s_0 : List TV} {s_1 : Int} {r : Res} (h : S cx 94 (NR94_7 s_0 s_1) = some r) : S cx 94 (R94_7 s_0 s_1) = some r :=
  gw_of (fun call hd hb pt rg => by kernel_rfl) h
noncomputable def NR94_8 (s_0 : List TV) (s_1 : Int) : Nd :=
  .amb3 
  (R94_20 s_0 s_1) 
  (R94_22 s_0 s_1) 
  (R94_24 s_0 s_1)
theorem eR94_8 {s_0 : List TV} {s_1 : Int} {r : Res} (h : S cx 94 (NR94_8 s_0 s_1) = some r) : S cx 94 (R94_8 s_0 s_1) = some r :=
  gw_of (fun call hd hb pt rg => by kernel_rfl) h
noncomputable def NR94_9 (s_0 : List TV) (s_1 : Int) : Nd :=
  .amb4 
  (R94_21 s_0 s_1) 
  (R94_23 s_0 s_1) 
  (R94_24 s_0 s_1) 
  (.ck (decide ((0 : Int) ≤ s_1) && decide (s_1 ≤ s_1) && decide (s_1 * 8 < (lim : Int)) && decide (s_1 < 9223372036854775807) && true && true) <|
    R94_25 s_0 s_1)
theorem eR94_9 {s_0 : List TV} {s_1 : Int} {r : Res} (h : S cx 94 (NR94_9 s_0 s_1) = some r) : S cx 94 (R94_9 s_0 s_1) = some r :=
  gw_of (fun call hd hb pt rg => by kernel_rfl) h
noncomputable def NR94_10 (s_0 : List TV) (s_1 : Int) (v_2 : List TV) : Nd :=
  .amb4 
  (R94_18 s_0 s_1 v_2) 
  (R94_26 s_0 s_1 v_2) 
  (R94_27 s_0 s_1 v_2) 
  (R94_28 s_0 s_1 v_2)
theorem eR94_10 {s_0 : List TV} {s_1 : Int} {v_2 : List TV} {r : Res} (h : S cx 94 (NR94_10 s_0 s_1 v_2) = some r) : S cx 94 (R94_10 s_0 s_1 v_2) = some r :=
  gw_of (fun call hd hb pt rg => by kernel_rfl) h
noncomputable def NR94_11 (s_0 : List TV) (s_1 : Int) : Nd :=
  .amb4 
  (R94_19 s_0 s_1) 
  (C136 s_0 s_1 fun vs_784a =>
    R94_26 s_0 s_1 vs_784a) 
  (R94_29 s_0 s_1) 
  (R94_30 s_0 s_1)
theorem eR94_11 {s_0 : List TV} {s_1 : Int} {r : Res} (h : S cx 94 (NR94_11 s_0 s_1) = some r) : S cx 94 (R94_11 s_0 s_1) = some r :=
  gw_of (fun call hd hb pt rg => by kernel_rfl) h
noncomputable def NR94_12 (s_0 : List TV) (s_1 : Int) : Nd :=
  .amb4 
  (R94_20 s_0 s_1) 
  (C136 s_0 s_1 fun vs_784a =>
    R94_27 s_0 s_1 vs_784a) 
  (R94_29 s_0 s_1) 
  (R94_31 s_0 s_1)
theorem eR94_12 {s_0 : List TV} {s_1 : Int} {r : Res} (h : S cx 94 (NR94_12 s_0 s_1) = some r) : S cx 94 (R94_12 s_0 s_1) = some r :=
  gw_of (fun call hd hb pt rg => by kernel_rfl) h
noncomputable def NR94_13 (s_0 : List TV) (s_1 : Int) : Nd :=
  .amb5 
  (R94_21 s_0 s_1) 
  (C136 s_0 s_1 fun vs_784a =>
    R94_28 s_0 s_1 vs_784a) 
  (R94_30 s_0 s_1) 
  (R94_31 s_0 s_1) 
  (.ck (decide ((0 : Int) ≤ s_1) && decide (s_1 ≤ s_1) && decide (s_1 * 8 < (lim : Int)) && decide (s_1 < 9223372036854775807) && true && true) <|
    R94_32 s_0 s_1)
theorem eR94_13 {s_0 : List TV} {s_1 : Int} {r : Res} (h : S cx 94 (NR94_13 s_0 s_1) = some r) : S cx 94 (R94_13 s_0 s_1) = some r :=
  gw_of (fun call hd hb pt rg => by kernel_rfl) h
noncomputable def NR94_14 (s_0 : List TV) (s_1 : Int) : Nd :=
  .amb3 
  (R94_22 s_0 s_1) 
  (R94_29 s_0 s_1) 
  (R94_33 s_0 s_1)
theorem eR94_14 {s_0 : List TV} {s_1 : Int} {r : Res} (h : S cx 94 (NR94_14 s_0 s_1) = some r) : S cx 94 (R94_14 s_0 s_1) = some r :=
  gw_of (fun call hd hb pt rg => by kernel_rfl) h
noncomputable def NR94_15 (s_0 : List TV) (s_1 : Int) : Nd :=
  .amb4 
  (R94_23 s_0 s_1) 
  (R94_30 s_0 s_1) 
  (R94_33 s_0 s_1) 
  (.ck (decide ((0 : Int) ≤ s_1) && decide (s_1 ≤ s_1) && decide (s_1 * 8 < (lim : Int)) && decide (s_1 < 9223372036854775807) && true && true) <|
    R94_34 s_0 s_1)
theorem eR94_15 {s_0 : List TV} {s_1 : Int} {r : Res} (h : S cx 94 (NR94_15 s_0 s_1) = some r) : S cx 94 (R94_15 s_0 s_1) = some r :=
  gw_of (fun call hd hb pt rg => by kernel_rfl) h
noncomputable def NR94_16 (s_0 : List TV) (s_1 : Int) : Nd :=
  .amb4 
  (R94_24 s_0 s_1) 
  (R94_31 s_0 s_1) 
  (R94_33 s_0 s_1) 
  (.ck (decide ((0 : Int) ≤ s_1) && decide (s_1 ≤ s_1) && decide (s_1 * 8 < (lim : Int)) && decide (s_1 < 9223372036854775807) && true && true) <|
    R94_35 s_0 s_1)
theorem eR94_16 {s_0 : List TV} {s_1 : Int} {r : Res} (h : S cx 94 (NR94_16 s_0 s_1) = some r) : S cx 94 (R94_16 s_0 s_1) = some r :=
  gw_of (fun call hd hb pt rg => by kernel_rfl) h
noncomputable def NR94_17 (s_0 : List TV) (s_1 : Int) : Nd :=
  Z94_1 s_0 s_1
theorem eR94_17 {s_0 : List TV} {s_1 : Int} {r : Res} (h : S cx 94 (NR94_17 s_0 s_1) = some r) : S cx 94 (R94_17 s_0 s_1) = some r :=
  gw_of (fun call hd hb pt rg => by kernel_rfl) h
noncomputable def NR94_18 (s_0 : List TV) (s_1 : Int) (v_2 : List TV) : Nd :=
  .amb3 
  (R94_40 s_0 s_1 v_2) 
  (R94_41 s_0 s_1 v_2) 
  (R94_42 s_0 s_1 v_2)
theorem eR94_18 {s_0 : List TV} {s_1 : Int} {v_2 : List TV} {r : Res} (h : S cx 94 (NR94_18 s_0 s_1 v_2) = some r) : S cx 94 (R94_18 s_0 s_1 v_2) = some r :=
  gw_of (fun call hd hb pt rg => by kernel_rfl) h
noncomputable def NR94_19 (s_0 : List TV) (s_1 : Int) : Nd :=
  .amb3 
  (C136 s_0 s_1 fun vs_784a =>
    R94_40 s_0 s_1 vs_784a) 
  (R94_43 s_0 s_1) 
  (R94_44 s_0 s_1)
theorem eR94_19 {s_0 : List TV} {s_1 : Int} {r : Res} (h : S cx 94 (NR94_19 s_0 s_1) = some r) : S cx 94 (R94_19 s_0 s_1) = some r :=
  gw_of (fun call hd hb pt rg => by kernel_rfl) h
noncomputable def NR94_20 (s_0 : List TV) (s_1 : Int) : Nd :=
  .amb3 
  (C136 s_0 s_1 fun vs_784a =>
    R94_41 s_0 s_1 vs_784a) 
  (R94_43 s_0 s_1) 
  (R94_45 s_0 s_1)
theorem eR94_20 {s_0 : List TV} {s_1 : Int} {r : Res} (h : S cx 94 (NR94_20 s_0 s_1) = some r) : S cx 94 (R94_20 s_0 s_1) = some r :=
  gw_of (fun call hd hb pt rg => by kernel_rfl) h
noncomputable def NR94_21 (s_0 : List TV) (s_1 : Int) : Nd :=
  .amb4 
  (C136 s_0 s_1 fun vs_784a =>
    R94_42 s_0 s_1 vs_784a) 
  (R94_44 s_0 s_1) 
  (R94_45 s_0 s_1) 
  (.ck (decide ((0 : Int) ≤ s_1) && decide (s_1 ≤ s_1) && decide (s_1 * 8 < (lim : Int)) && decide (s_1 < 9223372036854775807) && true && true) <|
    R94_36 s_0 s_1)
theorem eR94_21 {s_0 : List TV} {s_1 : Int} {r : Res} (h : S cx 94 (NR94_21 s_0 s_1) = some r) : S cx 94 (R94_21 s_0 s_1) = some r :=
  gw_of (fun call hd hb pt rg => by kernel_rfl) h
noncomputable def NR94_22 (s_0 : List TV) (s_1 : Int) : Nd :=
  .amb2 
  (R94_43 s_0 s_1) 
  (R94_46 s_0 s_1)
theorem eR94_22 {s_0 : List TV} {s_1 : Int} {r : Res} (h : S cx 94 (NR94_22 s_0 s_1) = some r) : S cx 94 (R94_22 s_0 s_1) = some r :=
  gw_of (fun call hd hb pt rg => by kernel_rfl) h
noncomputable def NR94_23 (s_0 : List TV) (s_1 : Int) : Nd :=
  .amb3 
  (R94_44 s_0 s_1) 
  (R94_46 s_0 s_1) 
  (.ck (decide ((0 : Int) ≤ s_1) && decide (s_1 ≤ s_1) && decide (s_1 * 8 < (lim : Int)) && decide (s_1 < 9223372036854775807) && true && true) <|
    R94_47 s_0 s_1)
theorem eR94_23 {s_0 : List TV} {s_1 : Int} {r : Res} (h : S cx 94 (NR94_23 s_0 s_1) = some r) : S cx 94 (R94_23 s_0 s_1) = some r :=
  gw_of (fun call hd hb pt rg => by kernel_rfl) h
noncomputable def NR94_24 (s_0 : List TV) (s_1 : Int) : Nd :=
  .amb3 
  (R94_45 s_0 s_1) 
  (R94_46 s_0 s_1) 
  (.ck (decide ((0 : Int) ≤ s_1) && decide (s_1 ≤ s_1) && decide (s_1 * 8 < (lim : Int)) && decide (s_1 < 9223372036854775807) && true && true) <|
    R94_48 s_0 s_1)
theorem eR94_24 {s_0 : List TV} {s_1 : Int} {r : Res} (h : S cx 94 (NR94_24 s_0 s_1) = some r) : S cx 94 (R94_24 s_0 s_1) = some r :=
  gw_of (fun call hd hb pt rg => by kernel_rfl) h
noncomputable def NR94_25 (s_0 : List TV) (s_1 : Int) : Nd :=
  Z94_2 s_0 s_1
theorem eR94_25 {s_0 : List TV} {s_1 : Int} {r : Res} (h : S cx 94 (NR94_25 s_0 s_1) = some r) : S cx 94 (R94_25 s_0 s_1) = some r :=
  gw_of (fun call hd hb pt rg => by kernel_rfl) h
noncomputable def NR94_26 (s_0 : List TV) (s_1 : Int) (v_2 : List TV) : Nd :=
  .amb3 
  (R94_40 s_0 s_1 v_2) 
  (R94_52 s_0 s_1 v_2) 
  (R94_53 s_0 s_1 v_2)
theorem eR94_26 {s_0 : List TV} {s_1 : Int} {v_2 : List TV} {r : Res} (h : S cx 94 (NR94_26 s_0 s_1 v_2) = some r) : S cx 94 (R94_26 s_0 s_1 v_2) = some r :=
  gw_of (fun call hd hb pt rg => by kernel_rfl) h
noncomputable def NR94_27 (s_0 : List TV) (s_1 : Int) (v_2 : List TV) : Nd :=
  .amb3 
  (R94_41 s_0 s_1 v_2) 
  (R94_52 s_0 s_1 v_2) 
  (R94_54 s_0 s_1 v_2)
theorem eR94_27 {s_0 : List TV} {s_1 : Int} {v_2 : List TV} {r : Res} (h : S cx 94 (NR94_27 s_0 s_1 v_2) = some r) : S cx 94 (R94_27 s_0 s_1 v_2) = some r :=
  gw_of (fun call hd hb pt rg => by kernel_rfl) h
noncomputable def NR94_28 (s_0 : List TV) (s_1 : Int) (v_2 : List TV) : Nd :=
  .amb4 
  (R94_42 s_0 s_1 v_2) 
  (R94_53 s_0 s_1 v_2) 
  (R94_54 s_0 s_1 v_2) 
  (.ck (decide ((0 : Int) ≤ s_1) && decide (s_1 ≤ s_1) && decide (s_1 * 8 < (lim : Int)) && decide (s_1 < 9223372036854775807) && true && true) <|
    R94_37 s_0 s_1 v_2)
theorem eR94_28 {s_0 : List TV} {s_1 : Int} {v_2 : List TV} {r : Res} (h : S cx 94 (NR94_28 s_0 s_1 v_2) = some r) : S cx 94 (R94_28 s_0 s_1 v_2) = some r :=
  gw_of (fun call hd hb pt rg => by kernel_rfl) h
noncomputable def NR94_29 (s_0 : List TV) (s_1 : Int) : Nd :=
  .amb3 
  (R94_43 s_0 s_1) 
  (C136 s_0 s_1 fun vs_784a =>
    R94_52 s_0 s_1 vs_784a) 
  (R94_55 s_0 s_1)
theorem eR94_29 {s_0 : List TV} {s_1 : Int} {r : Res} (h : S cx 94 (NR94_29 s_0 s_1) = some r) : S cx 94 (R94_29 s_0 s_1) = some r :=
  gw_of (fun call hd hb pt rg => by kernel_rfl) h
noncomputable def NR94_30 (s_0 : List TV) (s_1 : Int) : Nd :=
  .amb4 
  (R94_44 s_0 s_1) 
  (C136 s_0 s_1 fun vs_784a =>
    R94_53 s_0 s_1 vs_784a) 
  (R94_55 s_0 s_1) 
  (.ck (decide ((0 : Int) ≤ s_1) && decide (s_1 ≤ s_1) && decide (s_1 * 8 < (lim : Int)) && decide (s_1 < 9223372036854775807) && true && true) <|
    R94_38 s_0 s_1)
theorem eR94_30 {s_0 : List TV} {s_1 : Int} {r : Res} (h : S cx 94 (NR94_30 s_0 s_1) = some r) : S cx 94 (R94_30 s_0 s_1) = some r :=
  gw_of (fun call hd hb pt rg => by kernel_rfl) h
noncomputable def NR94_31 (s_0 : List TV) (s_1 : Int) : Nd :=
  .amb4 
  (R94_45 s_0 s_1) 
  (C136 s_0 s_1 fun vs_784a =>
    R94_54 s_0 s_1 vs_784a) 
  (R94_55 s_0 s_1) 
  (.ck (decide ((0 : Int) ≤ s_1) && decide (s_1 ≤ s_1) && decide (s_1 * 8 < (lim : Int)) && decide (s_1 < 9223372036854775807) && true && true) <|
    R94_39 s_0 s_1)
theorem eR94_31 {s_0 : List TV} {s_1 : Int} {r : Res} (h : S cx 94 (NR94_31 s_0 s_1) = some r) : S cx 94 (R94_31 s_0 s_1) = some r :=
  gw_of (fun call hd hb pt rg => by kernel_rfl) h
noncomputable def NR94_32 (s_0 : List TV) (s_1 : Int) : Nd :=
  Z94_1 s_0 s_1
theorem eR94_32 {s_0 : List TV} {s_1 : Int} {r : Res} (h : S cx 94 (NR94_32 s_0 s_1) = some r) : S cx 94 (R94_32 s_0 s_1) = some r :=
  gw_of (fun call hd hb pt rg => by kernel_rfl) h
noncomputable def NR94_33 (s_0 : List TV) (s_1 : Int) : Nd :=
  .amb3 
  (R94_46 s_0 s_1) 
  (R94_55 s_0 s_1) 
  (.ck (decide ((0 : Int) ≤ s_1) && decide (s_1 ≤ s_1) && decide (s_1 * 8 < (lim : Int)) && decide (s_1 < 9223372036854775807) && true && true) <|
    R94_56 s_0 s_1)
theorem eR94_33 {s_0 : List TV} {s_1 : Int} {r : Res} (h : S cx 94 (NR94_33 s_0 s_1) = some r) : S cx 94 (R94_33 s_0 s_1) = some r :=
  gw_of (fun call hd hb pt rg => by kernel_rfl) h
noncomputable def NR94_34 (s_0 : List TV) (s_1 : Int) : Nd :=
  Z94_3 s_0 s_1
theorem eR94_34 {s_0 : List TV} {s_1 : Int} {r : Res} (h : S cx 94 (NR94_34 s_0 s_1) = some r) : S cx 94 (R94_34 s_0 s_1) = some r :=
  gw_of (fun call hd hb pt rg => by kernel_rfl) h
noncomputable def NR94_35 (s_0 : List TV) (s_1 : Int) : Nd :=
  Z94_4 s_0 s_1
theorem eR94_35 {s_0 : List TV} {s_1 : Int} {r : Res} (h : S cx 94 (NR94_35 s_0 s_1) = some r) : S cx 94 (R94_35 s_0 s_1) = some r :=
  gw_of (fun call hd hb pt rg => by kernel_rfl) h
noncomputable def NR94_36 (s_0 : List TV) (s_1 : Int) : Nd :=
  Z94_2 s_0 s_1
theorem eR94_36 {s_0 : List TV} {s_1 : Int} {r : Res} (h : S cx 94 (NR94_36 s_0 s_1) = some r) : S cx 94 (R94_36 s_0 s_1) = some r :=
  gw_of (fun call hd hb pt rg => by kernel_rfl) h
noncomputable def NR94_37 (s_0 : List TV) (s_1 : Int) (v_2 : List TV) : Nd :=
  Z94_5 s_0 s_1 v_2
theorem eR94_37 {s_0 : List TV} {s_1 : Int} {v_2 : List TV} {r : Res} (h : S cx 94 (NR94_37 s_0 s_1 v_2) = some r) : S cx 94 (R94_37 s_0 s_1 v_2) = some r :=
  gw_of (fun call hd hb pt rg => by kernel_rfl) h
noncomputable def NR94_38 (s_0 : List TV) (s_1 : Int) : Nd :=
  Z94_3 s_0 s_1
theorem eR94_38 {s_0 : List TV} {s_1 : Int} {r : Res} (h : S cx 94 (NR94_38 s_0 s_1) = some r) : S cx 94 (R94_38 s_0 s_1) = some r :=
  gw_of (fun call hd hb pt rg => by kernel_rfl) h
noncomputable def NR94_39 (s_0 : List TV) (s_1 : Int) : Nd :=
  Z94_4 s_0 s_1
theorem eR94_39 {s_0 : List TV} {s_1 : Int} {r : Res} (h : S cx 94 (NR94_39 s_0 s_1) = some r) : S cx 94 (R94_39 s_0 s_1) = some r :=
  gw_of (fun call hd hb pt rg => by kernel_rfl) h
noncomputable def NR94_40 (s_0 : List TV) (s_1 : Int) (v_2 : List TV) : Nd :=
  .amb2 
  (R94_62 s_0 s_1 v_2) 
  (R94_63 s_0 s_1 v_2)
theorem eR94_40 {s_0 : List TV} {s_1 : Int} {v_2 : List TV} {r : Res} (h : S cx 94 (NR94_40 s_0 s_1 v_2) = some r) : S cx 94 (R94_40 s_0 s_1 v_2) = some r :=
  gw_of (fun call hd hb pt rg => by kernel_rfl) h
noncomputable def NR94_41 (s_0 : List TV) (s_1 : Int) (v_2 : List TV) : Nd :=
  .amb2 
  (R94_62 s_0 s_1 v_2) 
  (R94_64 s_0 s_1 v_2)
theorem eR94_41 {s_0 : List TV} {s_1 : Int} {v_2 : List TV} {r : Res} (h : S cx 94 (NR94_41 s_0 s_1 v_2) = some r) : S cx 94 (R94_41 s_0 s_1 v_2) = some r :=
  gw_of (fun call hd hb pt rg => by kernel_rfl) h
noncomputable def NR94_42 (s_0 : List TV) (s_1 : Int) (v_2 : List TV) : Nd :=
  .amb3 
  (R94_63 s_0 s_1 v_2) 
  (R94_64 s_0 s_1 v_2) 
  (.ck (decide ((0 : Int) ≤ s_1) && decide (s_1 ≤ s_1) && decide (s_1 * 8 < (lim : Int)) && decide (s_1 < 9223372036854775807) && true && true) <|
    R94_49 s_0 s_1 v_2)
theorem eR94_42 {s_0 : List TV} {s_1 : Int} {v_2 : List TV} {r : Res} (h : S cx 94 (NR94_42 s_0 s_1 v_2) = some r) : S cx 94 (R94_42 s_0 s_1 v_2) = some r :=
  gw_of (fun call hd hb pt rg => by kernel_rfl) h
noncomputable def NR94_43 (s_0 : List TV) (s_1 : Int) : Nd :=
  .amb2 
  (C136 s_0 s_1 fun vs_784a =>
    R94_62 s_0 s_1 vs_784a) 
  (R94_65 s_0 s_1)
theorem eR94_43 {s_0 : List TV} {s_1 : Int} {r : Res} (h : S cx 94 (NR94_43 s_0 s_1) = some r) : S cx 94 (R94_43 s_0 s_1) = some r :=
  gw_of (fun call hd hb pt rg => by kernel_rfl) h
noncomputable def NR94_44 (s_0 : List TV) (s_1 : Int) : Nd :=
  .amb3 
  (C136 s_0 s_1 fun vs_784a =>
    R94_63 s_0 s_1 vs_784a) 
  (R94_65 s_0 s_1) 
  (.ck (decide ((0 : Int) ≤ s_1) && decide (s_1 ≤ s_1) && decide (s_1 * 8 < (lim : Int)) && decide (s_1 < 9223372036854775807) && true && true) <|
    R94_50 s_0 s_1)
theorem eR94_44 {s_0 : List TV} {s_1 : Int} {r : Res} (h : S cx 94 (NR94_44 s_0 s_1) = some r) : S cx 94 (R94_44 s_0 s_1) = some r :=
  gw_of (fun call hd hb pt rg => by kernel_rfl) h
noncomputable def NR94_45 (s_0 : List TV) (s_1 : Int) : Nd :=
  .amb3 
  (C136 s_0 s_1 fun vs_784a =>
    R94_64 s_0 s_1 vs_784a) 
  (R94_65 s_0 s_1) 
  (.ck (decide ((0 : Int) ≤ s_1) && decide (s_1 ≤ s_1) && decide (s_1 * 8 < (lim : Int)) && decide (s_1 < 9223372036854775807) && true && true) <|
    R94_51 s_0 s_1)
theorem eR94_45 {s_0 : List TV} {s_1 : Int} {r : Res} (h : S cx 94 (NR94_45 s_0 s_1) = some r) : S cx 94 (R94_45 s_0 s_1) = some r :=
  gw_of (fun call hd hb pt rg => by kernel_rfl) h
noncomputable def NR94_46 (s_0 : List TV) (s_1 : Int) : Nd :=
  .amb2 
  (R94_65 s_0 s_1) 
  (.ck (decide ((0 : Int) ≤ s_1) && decide (s_1 ≤ s_1) && decide (s_1 * 8 < (lim : Int)) && decide (s_1 < 9223372036854775807) && true && true) <|
    R94_66 s_0 s_1)
theorem eR94_46 {s_0 : List TV} {s_1 : Int} {r : Res} (h : S cx 94 (NR94_46 s_0 s_1) = some r) : S cx 94 (R94_46 s_0 s_1) = some r :=
  gw_of (fun call hd hb pt rg => by kernel_rfl) h
noncomputable def NR94_47 (s_0 : List TV) (s_1 : Int) : Nd :=
  Z94_6 s_0 s_1
theorem eR94_47 {s_0 : List TV} {s_1 : Int} {r : Res} (h : S cx 94 (NR94_47 s_0 s_1) = some r) : S cx 94 (R94_47 s_0 s_1) = some r :=
  gw_of (fun call hd hb pt rg => by kernel_rfl) h
noncomputable def NR94_48 (s_0 : List TV) (s_1 : Int) : Nd :=
  Z94_7 s_0 s_1
theorem eR94_48 {s_0 : List TV} {s_1 : Int} {r : Res} (h : S cx 94 (NR94_48 s_0 s_1) = some r) : S cx 94 (R94_48 s_0 s_1) = some r :=
  gw_of (fun call hd hb pt rg => by kernel_rfl) h
noncomputable def NR94_49 (s_0 : List TV) (s_1 : Int) (v_2 : List TV) : Nd :=
  Z94_8 s_0 s_1 v_2
theorem eR94_49 {s_0 : List TV} {s_1 : Int} {v_2 : List TV} {r : Res} (h : S cx 94 (NR94_49 s_0 s_1 v_2) = some r) : S cx 94 (R94_49 s_0 s_1 v_2) = some r :=
  gw_of (fun call hd hb pt rg => by kernel_rfl) h
noncomputable def NR94_50 (s_0 : List TV) (s_1 : Int) : Nd :=
  Z94_6 s_0 s_1
theorem eR94_50 {s_0 : List TV} {s_1 : Int} {r : Res} (h : S cx 94 (NR94_50 s_0 s_1) = some r) : S cx 94 (R94_50 s_0 s_1) = some r :=
  gw_of (fun call hd hb pt rg => by kernel_rfl) h
noncomputable def NR94_51 (s_0 : List TV) (s_1 : Int) : Nd :=
  Z94_7 s_0 s_1
theorem eR94_51 {s_0 : List TV} {s_1 : Int} {r : Res} (h : S cx 94 (NR94_51 s_0 s_1) = some r) : S cx 94 (R94_51 s_0 s_1) = some r :=
  gw_of (fun call hd hb pt rg => by kernel_rfl) h
noncomputable def NR94_52 (s_0 : List TV) (s_1 : Int) (v_2 : List TV) : Nd :=
  .amb3 
  (R94_62 s_0 s_1 v_2) 
  (C114 ([i64 (-1)]) s_1 fun vs_41e8 =>
    R94_70 s_0 s_1 v_2 vs_41e8) 
  (R94_71 s_0 s_1 v_2)
theorem eR94_52 {s_0 : List TV} {s_1 : Int} {v_2 : List TV} {r : Res} (h : S cx 94 (NR94_52 s_0 s_1 v_2) = some r) : S cx 94 (R94_52 s_0 s_1 v_2) = some r :=
  gw_of (fun call hd hb pt rg => by kernel_rfl) h
noncomputable def NR94_53 (s_0 : List TV) (s_1 : Int) (v_2 : List TV) : Nd :=
  .amb3 
  (R94_63 s_0 s_1 v_2) 
  (R94_71 s_0 s_1 v_2) 
  (.ck (decide ((0 : Int) ≤ s_1) && decide (s_1 ≤ s_1) && decide (s_1 * 8 < (lim : Int)) && decide (s_1 < 9223372036854775807) && true && true) <|
    R94_57 s_0 s_1 v_2)
theorem eR94_53 {s_0 : List TV} {s_1 : Int} {v_2 : List TV} {r : Res} (h : S cx 94 (NR94_53 s_0 s_1 v_2) = some r) : S cx 94 (R94_53 s_0 s_1 v_2) = some r :=
  gw_of (fun call hd hb pt rg => by kernel_rfl) h
noncomputable def NR94_54 (s_0 : List TV) (s_1 : Int) (v_2 : List TV) : Nd :=
  .amb3 
  (R94_64 s_0 s_1 v_2) 
  (R94_71 s_0 s_1 v_2) 
  (.ck (decide ((0 : Int) ≤ s_1) && decide (s_1 ≤ s_1) && decide (s_1 * 8 < (lim : Int)) && decide (s_1 < 9223372036854775807) && true && true) <|
    R94_59 s_0 s_1 v_2)
theorem eR94_54 {s_0 : List TV} {s_1 : Int} {v_2 : List TV} {r : Res} (h : S cx 94 (NR94_54 s_0 s_1 v_2) = some r) : S cx 94 (R94_54 s_0 s_1 v_2) = some r :=
  gw_of (fun call hd hb pt rg => by kernel_rfl) h
noncomputable def NR94_55 (s_0 : List TV) (s_1 : Int) : Nd :=
  .amb3 
  (R94_65 s_0 s_1) 
  (C136 s_0 s_1 fun vs_784a =>
    R94_71 s_0 s_1 vs_784a) 
  (.ck (decide ((0 : Int) ≤ s_1) && decide (s_1 ≤ s_1) && decide (s_1 * 8 < (lim : Int)) && decide (s_1 < 9223372036854775807) && true && true) <|
    R94_58 s_0 s_1)
theorem eR94_55 {s_0 : List TV} {s_1 : Int} {r : Res} (h : S cx 94 (NR94_55 s_0 s_1) = some r) : S cx 94 (R94_55 s_0 s_1) = some r :=
  gw_of (fun call hd hb pt rg => by kernel_rfl) h
noncomputable def NR94_56 (s_0 : List TV) (s_1 : Int) : Nd :=
  Z94_9 s_0 s_1
theorem eR94_56 {s_0 : List TV} {s_1 : Int} {r : Res} (h : S cx 94 (NR94_56 s_0 s_1) = some r) : S cx 94 (R94_56 s_0 s_1) = some r :=
  gw_of (fun call hd hb pt rg => by kernel_rfl) h
noncomputable def NR94_57 (s_0 : List TV) (s_1 : Int) (v_2 : List TV) : Nd :=
  Z94_10 s_0 s_1 v_2
theorem eR94_57 {s_0 : List TV} {s_1 : Int} {v_2 : List TV} {r : Res} (h : S cx 94 (NR94_57 s_0 s_1 v_2) = some r) : S cx 94 (R94_57 s_0 s_1 v_2) = some r :=
  gw_of (fun call hd hb pt rg => by kernel_rfl) h
noncomputable def NR94_58 (s_0 : List TV) (s_1 : Int) : Nd :=
  Z94_9 s_0 s_1
theorem eR94_58 {s_0 : List TV} {s_1 : Int} {r : Res} (h : S cx 94 (NR94_58 s_0 s_1) = some r) : S cx 94 (R94_58 s_0 s_1) = some r :=
  gw_of (fun call hd hb pt rg => by kernel_rfl) h
noncomputable def NR94_59 (s_0 : List TV) (s_1 : Int) (v_2 : List TV) : Nd :=
  Z94_5 s_0 s_1 v_2
theorem eR94_59 {s_0 : List TV} {s_1 : Int} {v_2 : List TV} {r : Res} (h : S cx 94 (NR94_59 s_0 s_1 v_2) = some r) : S cx 94 (R94_59 s_0 s_1 v_2) = some r :=
  gw_of (fun call hd hb pt rg => by kernel_rfl) h
noncomputable def NR94_60 (s_0 : List TV) (s_1 : Int) (v_2 : List TV) : Nd :=
  Z94_8 s_0 s_1 v_2
theorem eR94_60 {s_0 : List TV} {s_1 : Int} {v_2 : List TV} {r : Res} (h : S cx 94 (NR94_60 s_0 s_1 v_2) = some r) : S cx 94 (R94_60 s_0 s_1 v_2) = some r :=
  gw_of (fun call hd hb pt rg => by kernel_rfl) h
noncomputable def NR94_61 (s_0 : List TV) (s_1 : Int) (v_2 : List TV) : Nd :=
  Z94_10 s_0 s_1 v_2
theorem eR94_61 {s_0 : List TV} {s_1 : Int} {v_2 : List TV} {r : Res} (h : S cx 94 (NR94_61 s_0 s_1 v_2) = some r) : S cx 94 (R94_61 s_0 s_1 v_2) = some r :=
  gw_of (fun call hd hb pt rg => by kernel_rfl) h
noncomputable def NR94_62 (s_0 : List TV) (s_1 : Int) (v_2 : List TV) : Nd :=
  .amb2 
  (C114 ([i64 (-1)]) s_1 fun vs_41e8 =>
    R94_74 s_0 s_1 v_2 vs_41e8) 
  (R94_75 s_0 s_1 v_2)
theorem eR94_62 {s_0 : List TV} {s_1 : Int} {v_2 : List TV} {r : Res} (h : S cx 94 (NR94_62 s_0 s_1 v_2) = some r) : S cx 94 (R94_62 s_0 s_1 v_2) = some r :=
  gw_of (fun call hd hb pt rg => by kernel_rfl) h
noncomputable def NR94_63 (s_0 : List TV) (s_1 : Int) (v_2 : List TV) : Nd :=
  .amb2 
  (R94_75 s_0 s_1 v_2) 
  (.ck (decide ((0 : Int) ≤ s_1) && decide (s_1 ≤ s_1) && decide (s_1 * 8 < (lim : Int)) && decide (s_1 < 9223372036854775807) && true && true) <|
    R94_67 s_0 s_1 v_2)
theorem eR94_63 {s_0 : List TV} {s_1 : Int} {v_2 : List TV} {r : Res} (h : S cx 94 (NR94_63 s_0 s_1 v_2) = some r) : S cx 94 (R94_63 s_0 s_1 v_2) = some r :=
  gw_of (fun call hd hb pt rg => by kernel_rfl) h
noncomputable def NR94_64 (s_0 : List TV) (s_1 : Int) (v_2 : List TV) : Nd :=
  .amb2 
  (R94_75 s_0 s_1 v_2) 
  (.ck (decide ((0 : Int) ≤ s_1) && decide (s_1 ≤ s_1) && decide (s_1 * 8 < (lim : Int)) && decide (s_1 < 9223372036854775807) && true && true) <|
    R94_60 s_0 s_1 v_2)
theorem eR94_64 {s_0 : List TV} {s_1 : Int} {v_2 : List TV} {r : Res} (h : S cx 94 (NR94_64 s_0 s_1 v_2) = some r) : S cx 94 (R94_64 s_0 s_1 v_2) = some r :=
  gw_of (fun call hd hb pt rg => by kernel_rfl) h
noncomputable def NR94_65 (s_0 : List TV) (s_1 : Int) : Nd :=
  .amb2 
  (C136 s_0 s_1 fun vs_784a =>
    R94_75 s_0 s_1 vs_784a) 
  (.ck (decide ((0 : Int) ≤ s_1) && decide (s_1 ≤ s_1) && decide (s_1 * 8 < (lim : Int)) && decide (s_1 < 9223372036854775807) && true && true) <|
    R94_68 s_0 s_1)
theorem eR94_65 {s_0 : List TV} {s_1 : Int} {r : Res} (h : S cx 94 (NR94_65 s_0 s_1) = some r) : S cx 94 (R94_65 s_0 s_1) = some r :=
  gw_of (fun call hd hb pt rg => by kernel_rfl) h
noncomputable def NR94_66 (s_0 : List TV) (s_1 : Int) : Nd :=
  Z94_11 s_0 s_1
theorem eR94_66 {s_0 : List TV} {s_1 : Int} {r : Res} (h : S cx 94 (NR94_66 s_0 s_1) = some r) : S cx 94 (R94_66 s_0 s_1) = some r :=
  gw_of (fun call hd hb pt rg => by kernel_rfl) h
noncomputable def NR94_67 (s_0 : List TV) (s_1 : Int) (v_2 : List TV) : Nd :=
  Z94_8 s_0 s_1 v_2
theorem eR94_67 {s_0 : List TV} {s_1 : Int} {v_2 : List TV} {r : Res} (h : S cx 94 (NR94_67 s_0 s_1 v_2) = some r) : S cx 94 (R94_67 s_0 s_1 v_2) = some r :=
  gw_of (fun call hd hb pt rg => by kernel_rfl) h
noncomputable def NR94_68 (s_0 : List TV) (s_1 : Int) : Nd :=
  Z94_11 s_0 s_1
theorem eR94_68 {s_0 : List TV} {s_1 : Int} {r : Res} (h : S cx 94 (NR94_68 s_0 s_1) = some r) : S cx 94 (R94_68 s_0 s_1) = some r :=
  gw_of (fun call hd hb pt rg => by kernel_rfl) h
noncomputable def NG94_69 (s_0 : List TV) (s_1 : Int) (v_2 : List TV) (v_3 : List TV) : Nd :=
  H94_76 s_0 s_1 s_0 s_1 v_2 ([]) v_3 (List.replicate s_1.toNat (i64 0)) 0
theorem eG94_69 {s_0 : List TV} {s_1 : Int} {v_2 : List TV} {v_3 : List TV} {r : Res} (h : S cx 94 (NG94_69 s_0 s_1 v_2 v_3) = some r) : S cx 94 (G94_69 s_0 s_1 v_2 v_3) = some r :=
  pw_of (fun call hd hb pt rg => by kernel_rfl) h
noncomputable def NR94_70 (s_0 : List TV) (s_1 : Int) (v_2 : List TV) (v_3 : List TV) : Nd :=
  Z94_12 s_0 s_1 v_2 v_3
theorem eR94_70 {s_0 : List TV} {s_1 : Int} {v_2 : List TV} {v_3 : List TV} {r : Res} (h : S cx 94 (NR94_70 s_0 s_1 v_2 v_3) = some r) : S cx 94 (R94_70 s_0 s_1 v_2 v_3) = some r :=
  gw_of (fun call hd hb pt rg => by kernel_rfl) h
noncomputable def NR94_71 (s_0 : List TV) (s_1 : Int) (v_2 : List TV) : Nd :=
  .amb3 
  (R94_75 s_0 s_1 v_2) 
  (C114 ([i64 (-1)]) s_1 fun vs_41e8 =>
    R94_78 s_0 s_1 v_2 vs_41e8) 
  (.ck (decide ((0 : Int) ≤ s_1) && decide (s_1 ≤ s_1) && decide (s_1 * 8 < (lim : Int)) && decide (s_1 < 9223372036854775807) && true && true) <|
    R94_61 s_0 s_1 v_2)
theorem eR94_71 {s_0 : List TV} {s_1 : Int} {v_2 : List TV} {r : Res} (h : S cx 94 (NR94_71 s_0 s_1 v_2) = some r) : S cx 94 (R94_71 s_0 s_1 v_2) = some r :=
  gw_of (fun call hd hb pt rg => by kernel_rfl) h
noncomputable def NR94_72 (s_0 : List TV) (s_1 : Int) (v_2 : List TV) : Nd :=
  Z94_8 s_0 s_1 v_2
theorem eR94_72 {s_0 : List TV} {s_1 : Int} {v_2 : List TV} {r : Res} (h : S cx 94 (NR94_72 s_0 s_1 v_2) = some r) : S cx 94 (R94_72 s_0 s_1 v_2) = some r :=
  gw_of (fun call hd hb pt rg => by kernel_rfl) h
noncomputable def NR94_73 (s_0 : List TV) (s_1 : Int) (v_2 : List TV) (v_3 : List TV) : Nd :=
  G94_69 s_0 s_1 v_2 v_3
theorem eR94_73 {s_0 : List TV} {s_1 : Int} {v_2 : List TV} {v_3 : List TV} {r : Res} (h : S cx 94 (NR94_73 s_0 s_1 v_2 v_3) = some r) : S cx 94 (R94_73 s_0 s_1 v_2 v_3) = some r :=
  gw_of (fun call hd hb pt rg => by kernel_rfl) h
noncomputable def NR94_74 (s_0 : List TV) (s_1 : Int) (v_2 : List TV) (v_3 : List TV) : Nd :=
  Z94_13 s_0 s_1 v_2 v_3
theorem eR94_74 {s_0 : List TV} {s_1 : Int} {v_2 : List TV} {v_3 : List TV} {r : Res} (h : S cx 94 (NR94_74 s_0 s_1 v_2 v_3) = some r) : S cx 94 (R94_74 s_0 s_1 v_2 v_3) = some r :=
  gw_of (fun call hd hb pt rg => by kernel_rfl) h
noncomputable def NR94_75 (s_0 : List TV) (s_1 : Int) (v_2 : List TV) : Nd :=
  .amb2 
  (C114 ([i64 (-1)]) s_1 fun vs_41e8 =>
    R94_77 s_0 s_1 v_2 vs_41e8) 
  (.ck (decide ((0 : Int) ≤ s_1) && decide (s_1 ≤ s_1) && decide (s_1 * 8 < (lim : Int)) && decide (s_1 < 9223372036854775807) && true && true) <|
    R94_72 s_0 s_1 v_2)
theorem eR94_75 {s_0 : List TV} {s_1 : Int} {v_2 : List TV} {r : Res} (h : S cx 94 (NR94_75 s_0 s_1 v_2) = some r) : S cx 94 (R94_75 s_0 s_1 v_2) = some r :=
  gw_of (fun call hd hb pt rg => by kernel_rfl) h
noncomputable def NH94_76 (s_0 : List TV) (s_1 : Int) (v_4 : List TV) (v_5 : Int) (v_2 : List TV) (v_6 : List TV) (v_3 : List TV) (v_7 : List TV) (v_8 : Int) : Nd :=
  .bif (decide (v_8 < ((s_0.length : Nat) : Int)))
  (C137 v_4 v_5 v_2 v_6 v_3 v_7 v_8 fun v_def0 partss_e81e values_aa43 nexts_cb00 doms_7545 defs_81a2 ats_93fe =>
    .bif ((!v_def0))
    (Z94_0)
    (B94_76 s_0 s_1 partss_e81e values_aa43 nexts_cb00 doms_7545 defs_81a2 ats_93fe (w64 (v_8 + 1))))
  (C138 v_2 fun vs_ba52 =>
    .ck (deepL [sl false ⟨1, true⟩ vs_ba52]) <|
    C69 v_2 0 ([]) fun vs_76fe =>
    C139 vs_76fe false fun v_dd08 =>
    .bif (v_dd08)
    (Z94_0)
    (H94_79 v_4 v_5 v_2 vs_ba52 v_3 v_7 ((s_0.length : Nat) : Int) 0))
theorem eH94_76 {s_0 : List TV} {s_1 : Int} {v_4 : List TV} {v_5 : Int} {v_2 : List TV} {v_6 : List TV} {v_3 : List TV} {v_7 : List TV} {v_8 : Int} {r : Res} (h : S cx 94 (NH94_76 s_0 s_1 v_4 v_5 v_2 v_6 v_3 v_7 v_8) = some r) : S cx 94 (H94_76 s_0 s_1 v_4 v_5 v_2 v_6 v_3 v_7 v_8) = some r :=
  hw_of (fun call hd hb pt rg => by kernel_rfl) h
noncomputable def NR94_77 (s_0 : List TV) (s_1 : Int) (v_2 : List TV) (v_3 : List TV) : Nd :=
  Z94_13 s_0 s_1 v_2 v_3
theorem eR94_77 {s_0 : List TV} {s_1 : Int} {v_2 : List TV} {v_3 : List TV} {r : Res} (h : S cx 94 (NR94_77 s_0 s_1 v_2 v_3) = some r) : S cx 94 (R94_77 s_0 s_1 v_2 v_3) = some r :=
  gw_of (fun call hd hb pt rg => by kernel_rfl) h
noncomputable def NR94_78 (s_0 : List TV) (s_1 : Int) (v_2 : List TV) (v_3 : List TV) : Nd :=
  Z94_12 s_0 s_1 v_2 v_3
theorem eR94_78 {s_0 : List TV} {s_1 : Int} {v_2 : List TV} {v_3 : List TV} {r : Res} (h : S cx 94 (NR94_78 s_0 s_1 v_2 v_3) = some r) : S cx 94 (R94_78 s_0 s_1 v_2 v_3) = some r :=
  gw_of (fun call hd hb pt rg => by kernel_rfl) h
noncomputable def NH94_79 (v_0 : List TV) (v_1 : Int) (v_2 : List TV) (v_3 : List TV) (v_4 : List TV) (v_6 : List TV) (v_7 : Int) (v_5 : Int) : Nd :=
  .bif (decide (v_5 < v_7))
  (C140 v_0 v_1 v_2 v_3 v_4 v_6 v_5 fun v_b39d =>
    .bif ((!v_b39d))
    (Z94_0)
    (B94_79 v_0 v_1 v_2 v_3 v_4 v_6 v_7 (w64 (v_5 + 1))))
  (.ret [.pt false () (.st [.st [sl true ⟨6, true⟩ v_0, i64 v_1], sl false ⟨1, true⟩ v_2, sl false ⟨1, true⟩ v_3, sl false ⟨1, false⟩ v_4, sl false ⟨1, false⟩ v_6])] [])
theorem eH94_79 {v_0 : List TV} {v_1 : Int} {v_2 : List TV} {v_3 : List TV} {v_4 : List TV} {v_6 : List TV} {v_7 : Int} {v_5 : Int} {r : Res} (h : S cx 94 (NH94_79 v_0 v_1 v_2 v_3 v_4 v_6 v_7 v_5) = some r) : S cx 94 (H94_79 v_0 v_1 v_2 v_3 v_4 v_6 v_7 v_5) = some r :=
  hw_of (fun call hd hb pt rg => by kernel_rfl) h
end Go.Tree.Q

/- Trees of values: program points of functions. -/
namespace Go.Tree.Q
open Go.Proofs
set_option linter.unusedVariables false
set_option maxRecDepth 20000
noncomputable def EG95_0 (v_0 : List TV) (v_1 : Int) (v_2 : List TV) (v_3 : List TV) (v_4 : List TV) (v_5 : List TV) (fuel_6 : Int) (s_7 : List TV) (s_8 : List TV) (s_9 : List TV) (r_10 : List TV) (r_11 : List TV) (r_12 : List TV) (r_13 : List TV) : Env := [w13 v_0 v_1 v_2 v_3 v_4 v_5, .un, w6 fuel_6, .un, w1 s_7 s_8 s_9, .un, .un, w29 r_10 r_11 r_12 r_13] ++ uns 99
noncomputable abbrev G95_0 (v_0 : List TV) (v_1 : Int) (v_2 : List TV) (v_3 : List TV) (v_4 : List TV) (v_5 : List TV) (fuel_6 : Int) (s_7 : List TV) (s_8 : List TV) (s_9 : List TV) (r_10 : List TV) (r_11 : List TV) (r_12 : List TV) (r_13 : List TV) : Nd := .go [1, 1] (EG95_0 v_0 v_1 v_2 v_3 v_4 v_5 fuel_6 s_7 s_8 s_9 r_10 r_11 r_12 r_13)
noncomputable def EG95_1 (v_0 : List TV) (v_1 : Int) (v_2 : List TV) (v_3 : List TV) (v_4 : List TV) (v_5 : List TV) (fuel_6 : Int) (r_7 : List TV) (r_8 : List TV) (r_9 : List TV) (r_10 : List TV) : Env := [w13 v_0 v_1 v_2 v_3 v_4 v_5, .un, w6 fuel_6, .un, .un, .un, .un, w29 r_7 r_8 r_9 r_10] ++ uns 99
noncomputable abbrev G95_1 (v_0 : List TV) (v_1 : Int) (v_2 : List TV) (v_3 : List TV) (v_4 : List TV) (v_5 : List TV) (fuel_6 : Int) (r_7 : List TV) (r_8 : List TV) (r_9 : List TV) (r_10 : List TV) : Nd := .go [1, 1, 1] (EG95_1 v_0 v_1 v_2 v_3 v_4 v_5 fuel_6 r_7 r_8 r_9 r_10)
noncomputable def EH95_2 (v_0 : List TV) (v_1 : Int) (v_2 : List TV) (v_3 : List TV) (v_4 : List TV) (v_5 : List TV) (fuel_6 : Int) (r_10 : List TV) (r_7 : List TV) (r_8 : List TV) (r_9 : List TV) (r_11 : Int) (r_12 : Int) (r_13 : Int) (r_14 : Int) (at_15 : Int) (handed_16 : List TV) : Env := [w13 v_0 v_1 v_2 v_3 v_4 v_5, .un, w6 fuel_6, .un, .un, .un, .un, w22 r_10 r_7 r_8 r_9 r_11 r_12 r_13 r_14, w6 at_15, w10 handed_16] ++ uns 97
noncomputable abbrev H95_2 (v_0 : List TV) (v_1 : Int) (v_2 : List TV) (v_3 : List TV) (v_4 : List TV) (v_5 : List TV) (fuel_6 : Int) (r_10 : List TV) (r_7 : List TV) (r_8 : List TV) (r_9 : List TV) (r_11 : Int) (r_12 : Int) (r_13 : Int) (r_14 : Int) (at_15 : Int) (handed_16 : List TV) : Nd := .head [1, 1, 1, 1, 1, 0, 2] (EH95_2 v_0 v_1 v_2 v_3 v_4 v_5 fuel_6 r_10 r_7 r_8 r_9 r_11 r_12 r_13 r_14 at_15 handed_16)
noncomputable abbrev B95_2 (v_0 : List TV) (v_1 : Int) (v_2 : List TV) (v_3 : List TV) (v_4 : List TV) (v_5 : List TV) (fuel_6 : Int) (r_10 : List TV) (r_7 : List TV) (r_8 : List TV) (r_9 : List TV) (r_11 : Int) (r_12 : Int) (r_13 : Int) (r_14 : Int) (at_15 : Int) (handed_16 : List TV) : Nd := .back [1, 1, 1, 1, 1, 0, 2] (EH95_2 v_0 v_1 v_2 v_3 v_4 v_5 fuel_6 r_10 r_7 r_8 r_9 r_11 r_12 r_13 r_14 at_15 handed_16)
noncomputable def EH95_3 (v_0 : List TV) (v_1 : Int) (v_2 : List TV) (v_3 : List TV) (v_4 : List TV) (v_5 : List TV) (fuel_6 : Int) (r_7 : List TV) (r_8 : List TV) (r_9 : List TV) (r_10 : List TV) (r_12 : Int) (r_13 : Int) (r_14 : Int) (r_15 : Int) (at_16 : Int) (handed_17 : List TV) (p_18 : Nat) (v_11 : List TV) (v_19 : Int) : Env := [w13 v_0 v_1 v_2 v_3 v_4 v_5, .un, w6 fuel_6, .un, .un, .un, .un, w22 r_7 r_8 r_9 r_10 r_12 r_13 r_14 r_15, w6 at_16, w10 handed_17, .adr 56 [.i 119 p_18]] ++ uns 45 ++ [w24 v_0] ++ uns 16 ++ [w3 v_11, w8 v_11, w6 v_19] ++ uns 31
noncomputable abbrev H95_3 (v_0 : List TV) (v_1 : Int) (v_2 : List TV) (v_3 : List TV) (v_4 : List TV) (v_5 : List TV) (fuel_6 : Int) (r_7 : List TV) (r_8 : List TV) (r_9 : List TV) (r_10 : List TV) (r_12 : Int) (r_13 : Int) (r_14 : Int) (r_15 : Int) (at_16 : Int) (handed_17 : List TV) (p_18 : Nat) (v_11 : List TV) (v_19 : Int) : Nd := .head [1, 1, 1, 1, 1, 0, 2, 5, 1, 2, 1, 1, 1, 0, 1, 2] (EH95_3 v_0 v_1 v_2 v_3 v_4 v_5 fuel_6 r_7 r_8 r_9 r_10 r_12 r_13 r_14 r_15 at_16 handed_17 p_18 v_11 v_19)
noncomputable abbrev B95_3 (v_0 : List TV) (v_1 : Int) (v_2 : List TV) (v_3 : List TV) (v_4 : List TV) (v_5 : List TV) (fuel_6 : Int) (r_7 : List TV) (r_8 : List TV) (r_9 : List TV) (r_10 : List TV) (r_12 : Int) (r_13 : Int) (r_14 : Int) (r_15 : Int) (at_16 : Int) (handed_17 : List TV) (p_18 : Nat) (v_11 : List TV) (v_19 : Int) : Nd := .back [1, 1, 1, 1, 1, 0, 2, 5, 1, 2, 1, 1, 1, 0, 1, 2] (EH95_3 v_0 v_1 v_2 v_3 v_4 v_5 fuel_6 r_7 r_8 r_9 r_10 r_12 r_13 r_14 r_15 at_16 handed_17 p_18 v_11 v_19)
noncomputable def N95_s0 (v_0 : List TV) (v_1 : Int) (v_2 : List TV) (v_3 : List TV) (v_4 : List TV) (v_5 : List TV) (s_6 : List TV) (s_7 : List TV) (s_8 : List TV) (fuel_9 : Int) : Nd :=
  C58 s_6 s_7 s_8 fun localss_be18 mems_5344 tolds_9483 =>
  C114 ([i64 (-1)]) v_1 fun vs_55d3 =>
  G95_0 v_0 v_1 v_2 v_3 v_4 v_5 fuel_9 s_6 s_7 s_8 localss_be18 mems_5344 tolds_9483 vs_55d3
noncomputable def N95_s1 (v_0 : List TV) (v_1 : Int) (v_2 : List TV) (v_3 : List TV) (v_4 : List TV) (v_5 : List TV) (s_6 : List TV) (s_7 : List TV) (s_8 : List TV) (fuel_9 : Int) : Nd :=
  .amb2 
  (N95_s0 v_0 v_1 v_2 v_3 v_4 v_5 s_6 s_7 s_8 fuel_9) 
  (N95_s0 v_0 v_1 v_2 v_3 v_4 v_5 s_6 s_7 s_8 fuel_9)
noncomputable def N95 (v_0 : List TV) (v_1 : Int) (v_2 : List TV) (v_3 : List TV) (v_4 : List TV) (v_5 : List TV) (s_6 : List TV) (s_7 : List TV) (s_8 : List TV) (fuel_9 : Int) : Nd :=
  .amb3 
  (N95_s0 v_0 v_1 v_2 v_3 v_4 v_5 s_6 s_7 s_8 fuel_9) 
  (N95_s1 v_0 v_1 v_2 v_3 v_4 v_5 s_6 s_7 s_8 fuel_9) 
  (N95_s1 v_0 v_1 v_2 v_3 v_4 v_5 s_6 s_7 s_8 fuel_9)
theorem e95 {v_0 : List TV} {v_1 : Int} {v_2 : List TV} {v_3 : List TV} {v_4 : List TV} {v_5 : List TV} {s_6 : List TV} {s_7 : List TV} {s_8 : List TV} {fuel_9 : Int} {r : Res} (h : S cx 95 (N95 v_0 v_1 v_2 v_3 v_4 v_5 s_6 s_7 s_8 fuel_9) = some r) : tw cx 95 [.pt true () (.st [.st [sl true ⟨6, true⟩ v_0, i64 v_1], sl false ⟨1, true⟩ v_2, sl false ⟨1, true⟩ v_3, sl false ⟨1, false⟩ v_4, sl false ⟨1, false⟩ v_5]), .st [sl true ⟨1, false⟩ s_6, sl true ⟨1, false⟩ s_7, sl true ⟨1, false⟩ s_8], i64 fuel_9] = some r :=
  tw_of (fun call hd hb pt rg => by kernel_rfl) h
noncomputable def NG95_0 (v_0 : List TV) (v_1 : Int) (v_2 : List TV) (v_3 : List TV) (v_4 : List TV) (v_5 : List TV) (fuel_6 : Int) (s_7 : List TV) (s_8 : List TV) (s_9 : List TV) (r_10 : List TV) (r_11 : List TV) (r_12 : List TV) (r_13 : List TV) : Nd :=
  .amb2 
  (C106 s_7 fun vs_2d6d =>
    .ck (decide ((vs_2d6d.length + 4) * 8 < lim)) <|
    G95_1 v_0 v_1 v_2 v_3 v_4 v_5 fuel_6 r_10 r_11 r_12 (cpyT r_13 (vs_2d6d ++ List.replicate 4 (i64 0)))) 
  (C106 s_7 fun vs_2d6d =>
    .amb2 
    (.ck (decide ((vs_2d6d.length + 4) * 8 < lim)) <|
      G95_1 v_0 v_1 v_2 v_3 v_4 v_5 fuel_6 r_10 r_11 r_12 (cpyT r_13 (vs_2d6d ++ List.replicate 4 (i64 0)))) 
    (.ck (decide ((vs_2d6d.length + 4) * 8 < lim)) <|
      G95_1 v_0 v_1 v_2 v_3 v_4 v_5 fuel_6 r_10 r_11 r_12 (cpyT r_13 (vs_2d6d ++ List.replicate 4 (i64 0)))))
theorem eG95_0 {v_0 : List TV} {v_1 : Int} {v_2 : List TV} {v_3 : List TV} {v_4 : List TV} {v_5 : List TV} {fuel_6 : Int} {s_7 : List TV} {s_8 : List TV} {s_9 : List TV} {r_10 : List TV} {r_11 : List TV} {r_12 : List TV} {r_13 : List TV} {r : Res} (h : S cx 95 (NG95_0 v_0 v_1 v_2 v_3 v_4 v_5 fuel_6 s_7 s_8 s_9 r_10 r_11 r_12 r_13) = some r) : S cx 95 (G95_0 v_0 v_1 v_2 v_3 v_4 v_5 fuel_6 s_7 s_8 s_9 r_10 r_11 r_12 r_13) = some r :=
  pw_of (fun call hd hb pt rg => by kernel_rfl) h
noncomputable def NG95_1 (v_0 : List TV) (v_1 : Int) (v_2 : List TV) (v_3 : List TV) (v_4 : List TV) (v_5 : List TV) (fuel_6 : Int) (r_7 : List TV) (r_8 : List TV) (r_9 : List TV) (r_10 : List TV) : Nd :=
  H95_2 v_0 v_1 v_2 v_3 v_4 v_5 fuel_6 (cpyT r_7 (List.replicate r_7.length (i64 0))) r_8 r_9 r_10 3 0 (-1) 0 0 ([])
theorem eG95_1 {v_0 : List TV} {v_1 : Int} {v_2 : List TV} {v_3 : List TV} {v_4 : List TV} {v_5 : List TV} {fuel_6 : Int} {r_7 : List TV} {r_8 : List TV} {r_9 : List TV} {r_10 : List TV} {r : Res} (h : S cx 95 (NG95_1 v_0 v_1 v_2 v_3 v_4 v_5 fuel_6 r_7 r_8 r_9 r_10) = some r) : S cx 95 (G95_1 v_0 v_1 v_2 v_3 v_4 v_5 fuel_6 r_7 r_8 r_9 r_10) = some r :=
  pw_of (fun call hd hb pt rg => by kernel_rfl) h
noncomputable def NH95_2 (v_0 : List TV) (v_1 : Int) (v_2 : List TV) (v_3 : List TV) (v_4 : List TV) (v_5 : List TV) (fuel_6 : Int) (r_10 : List TV) (r_7 : List TV) (r_8 : List TV) (r_9 : List TV) (r_11 : Int) (r_12 : Int) (r_13 : Int) (r_14 : Int) (at_15 : Int) (handed_16 : List TV) : Nd :=
  .bif ((r_11 == 3))
  (.bif (decide (r_12 < fuel_6))
    (.ck (decide ((0 : Int) ≤ at_15) && decide (at_15 < ((v_0.length : Nat) : Int))) <|
      V6 (v_0.getD (0 + at_15.toNat) (.dead ())) fun paramss_e8ff codes_8059 go_b306 test_ec81 nexts_cf49 argss_1fee =>
      H95_3 v_0 v_1 v_2 v_3 v_4 v_5 fuel_6 r_10 r_7 r_8 r_9 r_11 (w64 (r_12 + 1)) at_15 r_14 at_15 handed_16 (0 + at_15.toNat) paramss_e8ff 0)
    (.ret [.pt false () (.st [.st [sl false ⟨1, false⟩ r_10, sl false ⟨1, false⟩ r_7, sl false ⟨1, false⟩ r_8], sl false ⟨1, false⟩ r_9, i64 r_11, i64 r_12, i64 r_13, i64 r_14])] []))
  (.ret [.pt false () (.st [.st [sl false ⟨1, false⟩ r_10, sl false ⟨1, false⟩ r_7, sl false ⟨1, false⟩ r_8], sl false ⟨1, false⟩ r_9, i64 r_11, i64 r_12, i64 r_13, i64 r_14])] [])
theorem eH95_2 {v_0 : List TV} {v_1 : Int} {v_2 : List TV} {v_3 : List TV} {v_4 : List TV} {v_5 : List TV} {fuel_6 : Int} {r_10 : List TV} {r_7 : List TV} {r_8 : List TV} {r_9 : List TV} {r_11 : Int} {r_12 : Int} {r_13 : Int} {r_14 : Int} {at_15 : Int} {handed_16 : List TV} {r : Res} (h : S cx 95 (NH95_2 v_0 v_1 v_2 v_3 v_4 v_5 fuel_6 r_10 r_7 r_8 r_9 r_11 r_12 r_13 r_14 at_15 handed_16) = some r) : S cx 95 (H95_2 v_0 v_1 v_2 v_3 v_4 v_5 fuel_6 r_10 r_7 r_8 r_9 r_11 r_12 r_13 r_14 at_15 handed_16) = some r :=
  hw_of (fun call hd hb pt rg => by kernel_rfl) h
noncomputable def NH95_3 (v_0 : List TV) (v_1 : Int) (v_2 : List TV) (v_3 : List TV) (v_4 : List TV) (v_5 : List TV) (fuel_6 : Int) (r_7 : List TV) (r_8 : List TV) (r_9 : List TV) (r_10 : List TV) (r_12 : Int) (r_13 : Int) (r_14 : Int) (r_15 : Int) (at_16 : Int) (handed_17 : List TV) (p_18 : Nat) (v_11 : List TV) (v_19 : Int) : Nd :=
  .bif (decide (v_19 < ((v_11.length : Nat) : Int)))
  (.ck (decide ((0 : Int) ≤ v_19) && decide (v_19 < ((v_11.length : Nat) : Int))) <|
    .int .i64 (v_11.getD (0 + v_19.toNat) (.dead ())) fun x_6b72 =>
    .ck (decide ((0 : Int) ≤ v_19) && decide (v_19 < ((handed_17.length : Nat) : Int))) <|
    .int .i64 (handed_17.getD (0 + v_19.toNat) (.dead ())) fun x_0dd7 =>
    .ck (decide ((0 : Int) ≤ x_6b72) && decide (x_6b72 < ((r_10.length : Nat) : Int))) <|
    B95_3 v_0 v_1 v_2 v_3 v_4 v_5 fuel_6 r_7 r_8 r_9 (r_10.set (0 + x_6b72.toNat) (i64 x_0dd7)) r_12 r_13 r_14 r_15 at_16 handed_17 p_18 v_11 (w64 (v_19 + 1)))
  (V6 (v_0.getD p_18 (.dead ())) fun paramss_9ad7 codes_8148 go_86df test_0dbe nexts_8ec1 argss_ce6b =>
    C141 r_7 r_8 r_9 r_10 r_12 r_13 r_14 r_15 paramss_9ad7 codes_8148 go_86df test_0dbe nexts_8ec1 argss_ce6b fun v_abc7 localss_c46f mems_8d09 tolds_9af9 wordss_71f8 end_5240 begun_025a last_7022 twos_d087 =>
    .bif (v_abc7)
    (V6 (v_0.getD p_18 (.dead ())) fun paramss_581d codes_227e go_c937 test_5bbb nexts_0805 argss_cc33 =>
      C142 localss_c46f mems_8d09 tolds_9af9 wordss_71f8 end_5240 begun_025a last_7022 twos_d087 paramss_581d codes_227e go_c937 test_5bbb nexts_0805 argss_cc33 fun v_3733 vs_4e32 localss_7a9e mems_791c tolds_9d4c wordss_ae2e end_6740 begun_747a last_c0b5 twos_a22d =>
      B95_2 v_0 v_1 v_2 v_3 v_4 v_5 fuel_6 localss_7a9e mems_791c tolds_9d4c wordss_ae2e end_6740 begun_747a last_c0b5 twos_a22d v_3733 vs_4e32)
    (B95_2 v_0 v_1 v_2 v_3 v_4 v_5 fuel_6 localss_c46f mems_8d09 tolds_9af9 wordss_71f8 2 begun_025a last_7022 twos_d087 at_16 handed_17))
theorem eH95_3 {v_0 : List TV} {v_1 : Int} {v_2 : List TV} {v_3 : List TV} {v_4 : List TV} {v_5 : List TV} {fuel_6 : Int} {r_7 : List TV} {r_8 : List TV} {r_9 : List TV} {r_10 : List TV} {r_12 : Int} {r_13 : Int} {r_14 : Int} {r_15 : Int} {at_16 : Int} {handed_17 : List TV} {p_18 : Nat} {v_11 : List TV} {v_19 : Int} {r : Res} (h : S cx 95 (NH95_3 v_0 v_1 v_2 v_3 v_4 v_5 fuel_6 r_7 r_8 r_9 r_10 r_12 r_13 r_14 r_15 at_16 handed_17 p_18 v_11 v_19) = some r) : S cx 95 (H95_3 v_0 v_1 v_2 v_3 v_4 v_5 fuel_6 r_7 r_8 r_9 r_10 r_12 r_13 r_14 r_15 at_16 handed_17 p_18 v_11 v_19) = some r :=
  hw_of (fun call hd hb pt rg => by kernel_rfl) h
noncomputable def N96 (a_0 : List TV) (a_1 : List TV) (a_2 : Int) (a_3 : Int) (a_4 : List TV) (a_5 : List TV) (b_6 : List TV) (b_7 : List TV) (b_8 : Int) (b_9 : Int) (b_10 : List TV) (b_11 : List TV) : Nd :=
  C17 a_0 b_6 fun v_84b5 =>
  .bif ((!v_84b5))
  (.ret [tb false] [])
  (C143 a_1 b_7 fun v_2ad8 =>
    .bif ((!v_2ad8))
    (.ret [tb false] [])
    (.bif ((a_2 != b_8))
      (.ret [tb false] [])
      (.bif ((a_3 != b_9))
        (.ret [tb false] [])
        (C17 a_4 b_10 fun v_0137 =>
          .bif ((!v_0137))
          (.ret [tb false] [])
          (C144 a_5 b_11 fun v_e1d1 =>
            .bif ((!v_e1d1))
            (.ret [tb false] [])
            (.ret [tb true] []))))))
theorem e96 {a_0 : List TV} {a_1 : List TV} {a_2 : Int} {a_3 : Int} {a_4 : List TV} {a_5 : List TV} {b_6 : List TV} {b_7 : List TV} {b_8 : Int} {b_9 : Int} {b_10 : List TV} {b_11 : List TV} {r : Res} (h : S cx 96 (N96 a_0 a_1 a_2 a_3 a_4 a_5 b_6 b_7 b_8 b_9 b_10 b_11) = some r) : tw cx 96 [.st [sl true ⟨1, false⟩ a_0, sl true ⟨6, false⟩ a_1, i64 a_2, i64 a_3, sl true ⟨1, false⟩ a_4, sl true ⟨1, true⟩ a_5], .st [sl true ⟨1, false⟩ b_6, sl true ⟨6, false⟩ b_7, i64 b_8, i64 b_9, sl true ⟨1, false⟩ b_10, sl true ⟨1, true⟩ b_11]] = some r :=
  tw_of (fun call hd hb pt rg => by kernel_rfl) h
noncomputable def N105 (l_0 : List TV) : Nd :=
  C126_1 l_0 fun v_6cd9 =>
  .ret [tb (!v_6cd9)] []
theorem e105 {l_0 : List TV} {r : Res} (h : S cx 105 (N105 l_0) = some r) : tw cx 105 [sl true ⟨1, false⟩ l_0] = some r :=
  tw_of (fun call hd hb pt rg => by kernel_rfl) h
noncomputable def N106 (s_0 : List TV) : Nd :=
  .isNil s_0
  (.amb2 
    (.ret [sl false ⟨1, false⟩ ([])] []) 
    (.ck (decide ((0 + s_0.length) * 8 < lim)) <|
      .ret [sl false ⟨1, false⟩ (([]) ++ s_0)] []))
  (.ck (decide ((0 + s_0.length) * 8 < lim)) <|
    .ret [sl false ⟨1, false⟩ (([]) ++ s_0)] [])
theorem e106 {s_0 : List TV} {r : Res} (h : S cx 106 (N106 s_0) = some r) : tw cx 106 [sl true ⟨1, false⟩ s_0] = some r :=
  tw_of (fun call hd hb pt rg => by kernel_rfl) h
noncomputable def N107 (op_0 : Int) (a_1 : Int) (b_2 : Int) : Nd :=
  .bif ((op_0 == 4))
  (.ret [i64 (w64 (((BitVec.ofInt 64 (w64 (a_1 + b_2)) &&& BitVec.ofInt 64 65535).toNat : Int))), tb true] [])
  (.bif ((op_0 == 5))
    (.ret [i64 (w64 (((BitVec.ofInt 64 (w64 (a_1 - b_2)) &&& BitVec.ofInt 64 65535).toNat : Int))), tb true] [])
    (.bif ((op_0 == 6))
      (.ret [i64 (w64 (((BitVec.ofInt 64 (w64 (a_1 * b_2)) &&& BitVec.ofInt 64 65535).toNat : Int))), tb true] [])
      (.bif ((op_0 == 7))
        (.bif ((b_2 == 0))
          (.ret [i64 0, tb false] [])
          (.ck ((!(decide (b_2 = 0)))) <|
            .ret [i64 (w64 (a_1.tdiv b_2)), tb true] []))
        (.bif ((op_0 == 8))
          (C111 (decide (a_1 < b_2)) fun v_b237 =>
            .ret [i64 v_b237, tb true] [])
          (C111 (a_1 == b_2) fun v_a026 =>
            .ret [i64 v_a026, tb true] [])))))
theorem e107 {op_0 : Int} {a_1 : Int} {b_2 : Int} {r : Res} (h : S cx 107 (N107 op_0 a_1 b_2) = some r) : tw cx 107 [i64 op_0, i64 a_1, i64 b_2] = some r :=
  tw_of (fun call hd hb pt rg => by kernel_rfl) h
noncomputable def N108 (s_0 : List TV) (s_1 : List TV) (s_2 : List TV) (at_3 : Int) : Nd :=
  .bif (decide (at_3 ≥ 16))
  (.ret [i64 0, tb false] [])
  (.ck (decide ((0 : Int) ≤ at_3) && decide (at_3 < ((s_1.length : Nat) : Int))) <|
    .int .i64 (s_1.getD (0 + at_3.toNat) (.dead ())) fun x_4a56 =>
    .ret [i64 x_4a56, tb true] [])
theorem e108 {s_0 : List TV} {s_1 : List TV} {s_2 : List TV} {at_3 : Int} {r : Res} (h : S cx 108 (N108 s_0 s_1 s_2 at_3) = some r) : tw cx 108 [.pt true () (.st [sl false ⟨1, false⟩ s_0, sl false ⟨1, false⟩ s_1, sl false ⟨1, false⟩ s_2]), i64 at_3] = some r :=
  tw_of (fun call hd hb pt rg => by kernel_rfl) h
noncomputable def N111 (is_0 : Bool) : Nd :=
  .bif (is_0)
  (.ret [i64 1] [])
  (.ret [i64 0] [])
theorem e111 {is_0 : Bool} {r : Res} (h : S cx 111 (N111 is_0) = some r) : tw cx 111 [tb is_0] = some r :=
  tw_of (fun call hd hb pt rg => by kernel_rfl) h
noncomputable def EH112_0 (many_0 : Int) (b_1 : List TV) (b_2 : Int) (b_3 : Int) (b_4 : List TV) (v_5 : Int) : Env := [.un, w6 many_0, .val [] (.pt false () (.st [sl true ⟨6, false⟩ b_1, i64 b_2, i64 b_3, sl true ⟨1, false⟩ b_4]))] ++ uns 8 ++ [w25 b_1, w8 b_1, w6 v_5] ++ uns 92
noncomputable abbrev H112_0 (many_0 : Int) (b_1 : List TV) (b_2 : Int) (b_3 : Int) (b_4 : List TV) (v_5 : Int) : Nd := .head [1, 0, 1, 2] (EH112_0 many_0 b_1 b_2 b_3 b_4 v_5)
noncomputable abbrev B112_0 (many_0 : Int) (b_1 : List TV) (b_2 : Int) (b_3 : Int) (b_4 : List TV) (v_5 : Int) : Nd := .back [1, 0, 1, 2] (EH112_0 many_0 b_1 b_2 b_3 b_4 v_5)
noncomputable def EH112_1 (many_0 : Int) (b_1 : List TV) (b_2 : Int) (b_3 : Int) (b_4 : List TV) (v_5 : Int) : Env := [.un, w6 many_0, .val [] (.pt false () (.st [sl true ⟨6, false⟩ b_1, i64 b_2, i64 b_3, sl true ⟨1, false⟩ b_4]))] ++ uns 19 ++ [w3 b_4, w8 b_4, w6 v_5] ++ uns 81
noncomputable abbrev H112_1 (many_0 : Int) (b_1 : List TV) (b_2 : Int) (b_3 : Int) (b_4 : List TV) (v_5 : Int) : Nd := .head [1, 1, 0, 1, 2] (EH112_1 many_0 b_1 b_2 b_3 b_4 v_5)
noncomputable abbrev B112_1 (many_0 : Int) (b_1 : List TV) (b_2 : Int) (b_3 : Int) (b_4 : List TV) (v_5 : Int) : Nd := .back [1, 1, 0, 1, 2] (EH112_1 many_0 b_1 b_2 b_3 b_4 v_5)
noncomputable def N112 (b_0 : List TV) (b_1 : Int) (b_2 : Int) (b_3 : List TV) (many_4 : Int) : Nd :=
  H112_0 many_4 b_0 b_1 b_2 b_3 0
theorem e112 {b_0 : List TV} {b_1 : Int} {b_2 : Int} {b_3 : List TV} {many_4 : Int} {r : Res} (h : S cx 112 (N112 b_0 b_1 b_2 b_3 many_4) = some r) : tw cx 112 [.st [sl true ⟨6, false⟩ b_0, i64 b_1, i64 b_2, sl true ⟨1, false⟩ b_3], i64 many_4] = some r :=
  tw_of (fun call hd hb pt rg => by kernel_rfl) h
noncomputable def NH112_0 (many_0 : Int) (b_1 : List TV) (b_2 : Int) (b_3 : Int) (b_4 : List TV) (v_5 : Int) : Nd :=
  .bif (decide (v_5 < ((b_1.length : Nat) : Int)))
  (.ck (decide ((0 : Int) ≤ v_5) && decide (v_5 < ((b_1.length : Nat) : Int))) <|
    V6_1 (b_1.getD (0 + v_5.toNat) (.dead ())) fun op_8687 do_4265 dst_27ee a_051b b_f5b0 n_6b6c =>
    C130 op_8687 do_4265 dst_27ee a_051b b_f5b0 n_6b6c fun v_bb82 =>
    .bif ((!v_bb82))
    (.ret [tb false] [])
    (B112_0 many_0 b_1 b_2 b_3 b_4 (w64 (v_5 + 1))))
  (H112_1 many_0 b_1 b_2 b_3 b_4 0)
theorem eH112_0 {many_0 : Int} {b_1 : List TV} {b_2 : Int} {b_3 : Int} {b_4 : List TV} {v_5 : Int} {r : Res} (h : S cx 112 (NH112_0 many_0 b_1 b_2 b_3 b_4 v_5) = some r) : S cx 112 (H112_0 many_0 b_1 b_2 b_3 b_4 v_5) = some r :=
  hw_of (fun call hd hb pt rg => by kernel_rfl) h
noncomputable def NH112_1_s0 (b_1 : List TV) (b_3 : Int) : Nd :=
  C154 b_3 fun v_daa9 =>
  .bif (v_daa9)
  (.ret [tb (decide (((b_1.length : Nat) : Int) ≤ 60))] [])
  (.ret [tb false] [])
noncomputable def NH112_1 (many_0 : Int) (b_1 : List TV) (b_2 : Int) (b_3 : Int) (b_4 : List TV) (v_5 : Int) : Nd :=
  .bif (decide (v_5 < ((b_4.length : Nat) : Int)))
  (.ck (decide ((0 : Int) ≤ v_5) && decide (v_5 < ((b_4.length : Nat) : Int))) <|
    .int .i64 (b_4.getD (0 + v_5.toNat) (.dead ())) fun x_7bb9 =>
    .bif (decide (x_7bb9 < 0))
    (.ret [tb false] [])
    (.bif (decide (x_7bb9 ≥ many_0))
      (.ret [tb false] [])
      (B112_1 many_0 b_1 b_2 b_3 b_4 (w64 (v_5 + 1)))))
  (.bif ((b_2 == 1))
    (.bif ((((b_4.length : Nat) : Int) == 1))
      (.bif ((b_3 == 0))
        (.ret [tb (decide (((b_1.length : Nat) : Int) ≤ 60))] [])
        (.ret [tb false] []))
      (.ret [tb false] []))
    (.bif ((b_2 == 2))
      (.bif ((((b_4.length : Nat) : Int) == 2))
        (NH112_1_s0 b_1 b_3)
        (.ret [tb false] []))
      (.bif ((b_2 == 5))
        (C80 ((b_4.length : Nat) : Int) 2 6 fun v_5a8a =>
          .bif (v_5a8a)
          (NH112_1_s0 b_1 b_3)
          (.ret [tb false] []))
        (C80 b_2 3 4 fun v_3648 =>
          .bif (v_3648)
          (.bif ((((b_4.length : Nat) : Int) == 0))
            (.bif ((b_3 == 0))
              (.ret [tb (decide (((b_1.length : Nat) : Int) ≤ 60))] [])
              (.ret [tb false] []))
            (.ret [tb false] []))
          (.ret [tb false] [])))))
theorem eH112_1 {many_0 : Int} {b_1 : List TV} {b_2 : Int} {b_3 : Int} {b_4 : List TV} {v_5 : Int} {r : Res} (h : S cx 112 (NH112_1 many_0 b_1 b_2 b_3 b_4 v_5) = some r) : S cx 112 (H112_1 many_0 b_1 b_2 b_3 b_4 v_5) = some r :=
  hw_of (fun call hd hb pt rg => by kernel_rfl) h
noncomputable def EG114_0 (x_0 : List TV) (count_1 : Int) : Env := [w3 x_0, w6 count_1] ++ uns 48
noncomputable abbrev G114_0 (x_0 : List TV) (count_1 : Int) : Nd := .go [1, 1] (EG114_0 x_0 count_1)
noncomputable def EG114_1 (x_0 : List TV) (lo_1 : Int) : Env := [w3 x_0, .un, .un, .un, .un, .un, .val [] (.fl (.int .u64 lo_1))] ++ uns 43
noncomputable abbrev G114_1 (x_0 : List TV) (lo_1 : Int) : Nd := .go [1, 1, 1, 1] (EG114_1 x_0 lo_1)
noncomputable def EH114_2 (newslice_0 : List TV) (n_1 : Int) : Env := uns 7 ++ [w10 newslice_0, w6 n_1] ++ uns 41
noncomputable abbrev H114_2 (newslice_0 : List TV) (n_1 : Int) : Nd := .head [1, 1, 1, 1, 1, 1, 0, 2] (EH114_2 newslice_0 n_1)
noncomputable abbrev B114_2 (newslice_0 : List TV) (n_1 : Int) : Nd := .back [1, 1, 1, 1, 1, 1, 0, 2] (EH114_2 newslice_0 n_1)
noncomputable def N114 (x_0 : List TV) (count_1 : Int) : Nd :=
  .bif (decide (count_1 < 0))
  (.non)
  (G114_0 x_0 count_1)
theorem e114 {x_0 : List TV} {count_1 : Int} {r : Res} (h : S cx 114 (N114 x_0 count_1) = some r) : tw cx 114 [sl true ⟨1, false⟩ x_0, i64 count_1] = some r :=
  tw_of (fun call hd hb pt rg => by kernel_rfl) h
noncomputable def NG114_0 (x_0 : List TV) (count_1 : Int) : Nd :=
  C155 (IntKind.u64.wrap (((x_0.length : Nat) : Int))) (IntKind.u64.wrap (count_1)) fun v_6814 v_913d =>
  .bif (decide (v_6814 > 0))
  (.non)
  (.bif (decide (v_913d > 9223372036854775807))
    (.non)
    (G114_1 x_0 v_913d))
theorem eG114_0 {x_0 : List TV} {count_1 : Int} {r : Res} (h : S cx 114 (NG114_0 x_0 count_1) = some r) : S cx 114 (G114_0 x_0 count_1) = some r :=
  pw_of (fun call hd hb pt rg => by kernel_rfl) h
noncomputable def NG114_1 (x_0 : List TV) (lo_1 : Int) : Nd :=
  .ck (decide ((0 : Int) ≤ w64 (lo_1)) && decide (w64 (lo_1) ≤ w64 (lo_1)) && decide (w64 (lo_1) * 8 < (lim : Int)) && decide (w64 (lo_1) < 9223372036854775807) && true && true) <|
  H114_2 (cpyT (List.replicate ((w64 (lo_1)).toNat) (i64 0)) x_0) ((min x_0.length ((List.replicate ((w64 (lo_1)).toNat) (i64 0)).length) : Nat) : Int)
theorem eG114_1 {x_0 : List TV} {lo_1 : Int} {r : Res} (h : S cx 114 (NG114_1 x_0 lo_1) = some r) : S cx 114 (G114_1 x_0 lo_1) = some r :=
  pw_of (fun call hd hb pt rg => by kernel_rfl) h
noncomputable def NH114_2 (newslice_0 : List TV) (n_1 : Int) : Nd :=
  .bif (decide (n_1 < ((newslice_0.length : Nat) : Int)))
  (.ck (decide ((0 : Int) ≤ n_1) && decide (n_1 ≤ ((newslice_0.length : Nat) : Int)) && decide (((newslice_0.length : Nat) : Int) ≤ ((newslice_0.length : Nat) : Int))) <|
    .ck (decide ((0 : Int) ≤ n_1) && decide (n_1 ≤ ((newslice_0.length : Nat) : Int))) <|
    B114_2 (cpyS (some ((0 + n_1.toNat), (((newslice_0.length : Nat) : Int) - n_1).toNat)) newslice_0 ((newslice_0.drop 0).take ((n_1 - 0).toNat))) (w64 (n_1 + ((min (((newslice_0.drop 0).take ((n_1 - 0).toNat)).length) ((((newslice_0.length : Nat) : Int) - n_1).toNat) : Nat) : Int))))
  (.ret [sl false ⟨1, false⟩ newslice_0] [])
theorem eH114_2 {newslice_0 : List TV} {n_1 : Int} {r : Res} (h : S cx 114 (NH114_2 newslice_0 n_1) = some r) : S cx 114 (H114_2 newslice_0 n_1) = some r :=
  hw_of (fun call hd hb pt rg => by kernel_rfl) h
noncomputable def EH116_0 (n_0 : Int) (v_1 : List TV) (v_2 : Int) : Env := [.un, w6 n_0, .un, .un, .un, .un, .un, w3 v_1, w8 v_1, w6 v_2] ++ uns 9
noncomputable abbrev H116_0 (n_0 : Int) (v_1 : List TV) (v_2 : Int) : Nd := .head [1, 0, 1, 2] (EH116_0 n_0 v_1 v_2)
noncomputable abbrev B116_0 (n_0 : Int) (v_1 : List TV) (v_2 : Int) : Nd := .back [1, 0, 1, 2] (EH116_0 n_0 v_1 v_2)
noncomputable def N116 (l_0 : List TV) (n_1 : Int) : Nd :=
  H116_0 n_1 l_0 0
theorem e116 {l_0 : List TV} {n_1 : Int} {r : Res} (h : S cx 116 (N116 l_0 n_1) = some r) : tw cx 116 [sl true ⟨1, false⟩ l_0, i64 n_1] = some r :=
  tw_of (fun call hd hb pt rg => by kernel_rfl) h
noncomputable def NH116_0 (n_0 : Int) (v_1 : List TV) (v_2 : Int) : Nd :=
  .bif (decide (v_2 < ((v_1.length : Nat) : Int)))
  (.ck (decide ((0 : Int) ≤ v_2) && decide (v_2 < ((v_1.length : Nat) : Int))) <|
    .int .i64 (v_1.getD (0 + v_2.toNat) (.dead ())) fun x_e2fd =>
    .bif ((x_e2fd == n_0))
    (.ret [tb true] [])
    (B116_0 n_0 v_1 (w64 (v_2 + 1))))
  (.ret [tb false] [])
theorem eH116_0 {n_0 : Int} {v_1 : List TV} {v_2 : Int} {r : Res} (h : S cx 116 (NH116_0 n_0 v_1 v_2) = some r) : S cx 116 (H116_0 n_0 v_1 v_2) = some r :=
  hw_of (fun call hd hb pt rg => by kernel_rfl) h
noncomputable def N119 (s_0 : List TV) (v_1 : Int) : Nd :=
  C157 s_0 v_1 fun v_8e33 =>
  .ret [tb (decide (v_8e33 ≥ 0))] []
theorem e119 {s_0 : List TV} {v_1 : Int} {r : Res} (h : S cx 119 (N119 s_0 v_1) = some r) : tw cx 119 [sl true ⟨1, false⟩ s_0, i64 v_1] = some r :=
  tw_of (fun call hd hb pt rg => by kernel_rfl) h
noncomputable def EH120_0 (n_0 : Int) (k_2 : Int) (l_1 : List TV) : Env := [.ref 48 [] none 25 false, w6 n_0, .un, .un, .un, w6 k_2] ++ uns 42 ++ [w10 l_1, .un]
noncomputable abbrev H120_0 (n_0 : Int) (k_2 : Int) (l_1 : List TV) : Nd := .head [1, 1, 0, 2] (EH120_0 n_0 k_2 l_1)
noncomputable abbrev B120_0 (n_0 : Int) (k_2 : Int) (l_1 : List TV) : Nd := .back [1, 1, 0, 2] (EH120_0 n_0 k_2 l_1)
noncomputable def N120 (l_0 : List TV) (n_1 : Int) : Nd :=
  H120_0 n_1 0 l_0
theorem e120 {l_0 : List TV} {n_1 : Int} {r : Res} (h : S cx 120 (N120 l_0 n_1) = some r) : tw cx 120 [sl false ⟨1, false⟩ l_0, i64 n_1] = some r :=
  tw_of (fun call hd hb pt rg => by kernel_rfl) h
noncomputable def NH120_0_s0 (n_0 : Int) (k_2 : Int) (l_1 : List TV) : Nd :=
  .ck (decide ((0 : Int) ≤ k_2) && decide (k_2 ≤ ((l_1.length : Nat) : Int))) <|
  .ck (decide ((0 + ((l_1.drop 0).take ((k_2 - 0).toNat)).length) * 8 < lim)) <|
  .ck (decide (((([]) ++ ((l_1.drop 0).take ((k_2 - 0).toNat))).length + ([i64 n_0] : List TV).length) * 8 < lim)) <|
  .ck (decide ((0 : Int) ≤ k_2) && decide (k_2 ≤ ((l_1.length : Nat) : Int)) && decide (((l_1.length : Nat) : Int) ≤ ((l_1.length : Nat) : Int))) <|
  .ck (decide ((((([]) ++ ((l_1.drop 0).take ((k_2 - 0).toNat))) ++ ([i64 n_0])).length + ((l_1.drop (0 + k_2.toNat)).take ((((l_1.length : Nat) : Int) - k_2).toNat)).length) * 8 < lim)) <|
  .ret [sl false ⟨1, false⟩ (((([]) ++ ((l_1.drop 0).take ((k_2 - 0).toNat))) ++ ([i64 n_0])) ++ ((l_1.drop (0 + k_2.toNat)).take ((((l_1.length : Nat) : Int) - k_2).toNat)))] []
noncomputable def NH120_0 (n_0 : Int) (k_2 : Int) (l_1 : List TV) : Nd :=
  .bif (decide (k_2 < ((l_1.length : Nat) : Int)))
  (.ck (decide ((0 : Int) ≤ k_2) && decide (k_2 < ((l_1.length : Nat) : Int))) <|
    .int .i64 (l_1.getD (0 + k_2.toNat) (.dead ())) fun x_a5c5 =>
    .bif (decide (x_a5c5 < n_0))
    (B120_0 n_0 (w64 (k_2 + 1)) l_1)
    (.bif (decide (k_2 < ((l_1.length : Nat) : Int)))
      (.ck (decide ((0 : Int) ≤ k_2) && decide (k_2 < ((l_1.length : Nat) : Int))) <|
        .int .i64 (l_1.getD (0 + k_2.toNat) (.dead ())) fun x_a5c5_2 =>
        .bif ((x_a5c5_2 == n_0))
        (.ret [sl false ⟨1, false⟩ l_1] [])
        (NH120_0_s0 n_0 k_2 l_1))
      (NH120_0_s0 n_0 k_2 l_1)))
  (.bif (decide (k_2 < ((l_1.length : Nat) : Int)))
    (.ck (decide ((0 : Int) ≤ k_2) && decide (k_2 < ((l_1.length : Nat) : Int))) <|
      .int .i64 (l_1.getD (0 + k_2.toNat) (.dead ())) fun x_a5c5 =>
      .bif ((x_a5c5 == n_0))
      (.ret [sl false ⟨1, false⟩ l_1] [])
      (NH120_0_s0 n_0 k_2 l_1))
    (NH120_0_s0 n_0 k_2 l_1))
theorem eH120_0 {n_0 : Int} {k_2 : Int} {l_1 : List TV} {r : Res} (h : S cx 120 (NH120_0 n_0 k_2 l_1) = some r) : S cx 120 (H120_0 n_0 k_2 l_1) = some r :=
  hw_of (fun call hd hb pt rg => by kernel_rfl) h
noncomputable def N122 (s_0 : List TV) (f_1 : Int) : Nd :=
  C158 s_0 f_1 fun v_a56c =>
  .ret [tb (decide (v_a56c ≥ 0))] []
theorem e122 {s_0 : List TV} {f_1 : Int} {r : Res} (h : S cx 122 (N122 s_0 f_1) = some r) : tw cx 122 [sl true ⟨6, false⟩ s_0, .cl 123 [.pt true () (i64 f_1)]] = some r :=
  tw_of (fun call hd hb pt rg => by kernel_rfl) h
noncomputable def N123 (x_0 : Int) (x_1 : Int) (x_2 : Int) (x_3 : Int) (x_4 : Int) (x_5 : Int) (v_6 : Int) : Nd :=
  C124 x_0 x_1 x_2 x_3 x_4 x_5 v_6 fun v_d682 =>
  .ret [tb (!v_d682)] []
theorem e123 {x_0 : Int} {x_1 : Int} {x_2 : Int} {x_3 : Int} {x_4 : Int} {x_5 : Int} {v_6 : Int} {r : Res} (h : S cx 123 (N123 x_0 x_1 x_2 x_3 x_4 x_5 v_6) = some r) : tw cx 123 [.st [i64 x_0, i64 x_1, i64 x_2, i64 x_3, i64 x_4, i64 x_5], .pt true () (i64 v_6)] = some r :=
  tw_of (fun call hd hb pt rg => by kernel_rfl) h
noncomputable def N124_s0 (x_1 : Int) (do_79ba : Bool) : Nd :=
  .bif (do_79ba)
  (C161 x_1 fun v_1f07 =>
    .bif (v_1f07)
    (.ret [tb true] [])
    (.bif ((!do_79ba))
      (.ret [tb (x_1 == 0)] [])
      (.ret [tb false] [])))
  (.bif ((!do_79ba))
    (.ret [tb (x_1 == 0)] [])
    (.ret [tb false] []))
noncomputable def N124_s1 (x_1 : Int) (x_5 : Int) (n_d42a : Bool) (do_79ba : Bool) : Nd :=
  .bif ((!n_d42a))
  (.bif ((x_5 == 0))
    (N124_s0 x_1 do_79ba)
    (.ret [tb false] []))
  (.ret [tb false] [])
noncomputable def N124 (x_0 : Int) (x_1 : Int) (x_2 : Int) (x_3 : Int) (x_4 : Int) (x_5 : Int) (many_6 : Int) : Nd :=
  C159 x_0 fun dst_75de a_9723 b_6717 n_d42a do_79ba v_1857 =>
  .bif ((!v_1857))
  (.ret [tb false] [])
  (C160 dst_75de x_2 many_6 fun v_c68d =>
    .bif ((!v_c68d))
    (.ret [tb false] [])
    (C160 a_9723 x_3 many_6 fun v_b6ea =>
      .bif ((!v_b6ea))
      (.ret [tb false] [])
      (C160 b_6717 x_4 many_6 fun v_0443 =>
        .bif ((!v_0443))
        (.ret [tb false] [])
        (.bif (n_d42a)
          (C153 x_5 fun v_ca68 =>
            .bif (v_ca68)
            (N124_s0 x_1 do_79ba)
            (N124_s1 x_1 x_5 n_d42a do_79ba))
          (N124_s1 x_1 x_5 n_d42a do_79ba)))))
theorem e124 {x_0 : Int} {x_1 : Int} {x_2 : Int} {x_3 : Int} {x_4 : Int} {x_5 : Int} {many_6 : Int} {r : Res} (h : S cx 124 (N124 x_0 x_1 x_2 x_3 x_4 x_5 many_6) = some r) : tw cx 124 [.st [i64 x_0, i64 x_1, i64 x_2, i64 x_3, i64 x_4, i64 x_5], i64 many_6] = some r :=
  tw_of (fun call hd hb pt rg => by kernel_rfl) h
noncomputable def N125 (kind_0 : Int) : Nd :=
  .bif ((kind_0 == 2))
  (.ret [tb true] [])
  (.ret [tb (kind_0 == 5)] [])
theorem e125 {kind_0 : Int} {r : Res} (h : S cx 125 (N125 kind_0) = some r) : tw cx 125 [i64 kind_0] = some r :=
  tw_of (fun call hd hb pt rg => by kernel_rfl) h
noncomputable def N126 (s_0 : List TV) : Nd :=
  C162 s_0 fun v_daf9 =>
  .ret [tb (decide (v_daf9 ≥ 0))] []
theorem e126 {s_0 : List TV} {r : Res} (h : S cx 126 (N126 s_0) = some r) : tw cx 126 [sl true ⟨1, false⟩ s_0, .cl 152 []] = some r :=
  tw_of (fun call hd hb pt rg => by kernel_rfl) h
noncomputable def N126b (s_0 : List TV) (f_1 : Int) : Nd :=
  C162_1 s_0 f_1 fun v_a973 =>
  .ret [tb (decide (v_a973 ≥ 0))] []
theorem e126b {s_0 : List TV} {f_1 : Int} {r : Res} (h : S cx 126 (N126b s_0 f_1) = some r) : tw cx 126 [sl true ⟨1, false⟩ s_0, .cl 127 [.pt true () (i64 f_1)]] = some r :=
  tw_of (fun call hd hb pt rg => by kernel_rfl) h
noncomputable def N127 (k_0 : Int) (v_1 : Int) : Nd :=
  C57 k_0 0 (w64 (v_1 - 1)) fun v_d21a =>
  .ret [tb (!v_d21a)] []
theorem e127 {k_0 : Int} {v_1 : Int} {r : Res} (h : S cx 127 (N127 k_0 v_1) = some r) : tw cx 127 [i64 k_0, .pt true () (i64 v_1)] = some r :=
  tw_of (fun call hd hb pt rg => by kernel_rfl) h
noncomputable def N128 (a_0 : List TV) (left_1 : Int) : Nd :=
  .bif (decide (w64 (left_1 - ((a_0.length : Nat) : Int)) < 0))
  (.ret [i64 (-1)] [])
  (.ret [i64 (w64 (left_1 - ((a_0.length : Nat) : Int)))] [])
theorem e128 {a_0 : List TV} {left_1 : Int} {r : Res} (h : S cx 128 (N128 a_0 left_1) = some r) : tw cx 128 [sl true ⟨6, false⟩ a_0, i64 left_1] = some r :=
  tw_of (fun call hd hb pt rg => by kernel_rfl) h
noncomputable def EH129_0 (a_0 : List TV) (left_1 : Int) (i_2 : Int) : Env := [w26 a_0, w6 left_1, .un, .un, .un, w6 i_2] ++ uns 23
noncomputable abbrev H129_0 (a_0 : List TV) (left_1 : Int) (i_2 : Int) : Nd := .head [1, 1, 1, 0, 1, 2] (EH129_0 a_0 left_1 i_2)
noncomputable abbrev B129_0 (a_0 : List TV) (left_1 : Int) (i_2 : Int) : Nd := .back [1, 1, 1, 0, 1, 2] (EH129_0 a_0 left_1 i_2)
noncomputable def N129 (a_0 : List TV) (left_1 : Int) : Nd :=
  .bif (decide (w64 (left_1 - ((a_0.length : Nat) : Int)) < 0))
  (.ret [i64 (-1)] [])
  (H129_0 a_0 (w64 (left_1 - ((a_0.length : Nat) : Int))) 0)
theorem e129 {a_0 : List TV} {left_1 : Int} {r : Res} (h : S cx 129 (N129 a_0 left_1) = some r) : tw cx 129 [sl true ⟨1, true⟩ a_0, i64 left_1] = some r :=
  tw_of (fun call hd hb pt rg => by kernel_rfl) h
noncomputable def NH129_0 (a_0 : List TV) (left_1 : Int) (i_2 : Int) : Nd :=
  .bif (decide (i_2 < ((a_0.length : Nat) : Int)))
  (.ck (decide ((0 : Int) ≤ i_2) && decide (i_2 < ((a_0.length : Nat) : Int))) <|
    .slR ⟨1, false⟩ (a_0.getD (0 + i_2.toNat) (.dead ())) fun xs_c216 =>
    C42 xs_c216 left_1 fun v_ba79 =>
    .bif (decide (v_ba79 < 0))
    (.ret [i64 (-1)] [])
    (B129_0 a_0 v_ba79 (w64 (i_2 + 1))))
  (.ret [i64 left_1] [])
theorem eH129_0 {a_0 : List TV} {left_1 : Int} {i_2 : Int} {r : Res} (h : S cx 129 (NH129_0 a_0 left_1 i_2) = some r) : S cx 129 (H129_0 a_0 left_1 i_2) = some r :=
  hw_of (fun call hd hb pt rg => by kernel_rfl) h
noncomputable def EG130_0 (x_0 : Int) (x_1 : Int) (x_2 : Int) (x_3 : Int) (x_4 : Int) (x_5 : Int) (v_6 : Bool) : Env := [.un, w28 x_0 x_1 x_2 x_3 x_4 x_5] ++ uns 20 ++ [w6 x_0] ++ uns 20 ++ [.val [] (tb v_6)] ++ uns 69
noncomputable abbrev G130_0 (x_0 : Int) (x_1 : Int) (x_2 : Int) (x_3 : Int) (x_4 : Int) (x_5 : Int) (v_6 : Bool) : Nd := .go [1, 1, 0, 1, 2, 1, 4, 1] (EG130_0 x_0 x_1 x_2 x_3 x_4 x_5 v_6)
noncomputable def N130_s0 (x_0 : Int) (x_1 : Int) (x_2 : Int) (x_3 : Int) (x_4 : Int) (x_5 : Int) : Nd :=
  .bif ((x_0 == 1))
  (C154 x_2 fun v_dbbc =>
    .bif (v_dbbc)
    (.bif ((x_3 == 0))
      (.bif ((x_4 == 0))
        (C80 x_5 0 65535 fun v_90a3 =>
          .ret [tb v_90a3] [])
        (.ret [tb false] []))
      (.ret [tb false] []))
    (.ret [tb false] []))
  (.bif ((x_0 == 2))
    (G130_0 x_0 x_1 x_2 x_3 x_4 x_5 (x_0 == 2))
    (G130_0 x_0 x_1 x_2 x_3 x_4 x_5 (x_0 == 4)))
noncomputable def N130_s1 (x_0 : Int) (x_1 : Int) (x_2 : Int) (x_3 : Int) (x_4 : Int) (x_5 : Int) : Nd :=
  .bif ((x_0 != 1))
  (.bif ((x_5 != 0))
    (.ret [tb false] [])
    (N130_s0 x_0 x_1 x_2 x_3 x_4 x_5))
  (N130_s0 x_0 x_1 x_2 x_3 x_4 x_5)
noncomputable def N130 (x_0 : Int) (x_1 : Int) (x_2 : Int) (x_3 : Int) (x_4 : Int) (x_5 : Int) : Nd :=
  .bif ((x_0 != 3))
  (.bif ((x_1 != 0))
    (.ret [tb false] [])
    (N130_s1 x_0 x_1 x_2 x_3 x_4 x_5))
  (N130_s1 x_0 x_1 x_2 x_3 x_4 x_5)
theorem e130 {x_0 : Int} {x_1 : Int} {x_2 : Int} {x_3 : Int} {x_4 : Int} {x_5 : Int} {r : Res} (h : S cx 130 (N130 x_0 x_1 x_2 x_3 x_4 x_5) = some r) : tw cx 130 [.st [i64 x_0, i64 x_1, i64 x_2, i64 x_3, i64 x_4, i64 x_5]] = some r :=
  tw_of (fun call hd hb pt rg => by kernel_rfl) h
noncomputable def NG130_0_s0 (x_3 : Int) (x_4 : Int) : Nd :=
  C154 x_3 fun v_4a6c =>
  .bif (v_4a6c)
  (.ret [tb (x_4 == 0)] [])
  (.ret [tb false] [])
noncomputable def NG130_0 (x_0 : Int) (x_1 : Int) (x_2 : Int) (x_3 : Int) (x_4 : Int) (x_5 : Int) (v_6 : Bool) : Nd :=
  .bif (v_6)
  (C154 x_2 fun v_dbbc =>
    .bif (v_dbbc)
    (NG130_0_s0 x_3 x_4)
    (.ret [tb false] []))
  (.bif ((x_0 == 3))
    (C154 x_2 fun v_dbbc =>
      .bif (v_dbbc)
      (C154 x_3 fun v_4a6c =>
        .bif (v_4a6c)
        (C154 x_4 fun v_34c2 =>
          .bif (v_34c2)
          (C80 x_1 4 9 fun v_8e15 =>
            .ret [tb v_8e15] [])
          (.ret [tb false] []))
        (.ret [tb false] []))
      (.ret [tb false] []))
    (.bif ((x_0 == 5))
      (.bif ((x_2 == 0))
        (C154 x_3 fun v_4a6c =>
          .bif (v_4a6c)
          (C154 x_4 fun v_34c2 =>
            .ret [tb v_34c2] [])
          (.ret [tb false] []))
        (.ret [tb false] []))
      (.bif ((x_0 == 6))
        (.bif ((x_2 == 0))
          (NG130_0_s0 x_3 x_4)
          (.ret [tb false] []))
        (.ret [tb false] []))))
theorem eG130_0 {x_0 : Int} {x_1 : Int} {x_2 : Int} {x_3 : Int} {x_4 : Int} {x_5 : Int} {v_6 : Bool} {r : Res} (h : S cx 130 (NG130_0 x_0 x_1 x_2 x_3 x_4 x_5 v_6) = some r) : S cx 130 (G130_0 x_0 x_1 x_2 x_3 x_4 x_5 v_6) = some r :=
  pw_of (fun call hd hb pt rg => by kernel_rfl) h
noncomputable def EH131_0 (gone_0 : Int) (g_1 : List TV) (seen_3 : List TV) (i_2 : Int) : Env := [.un, w6 gone_0, w30 g_1, .un, .un, w10 seen_3, w6 i_2] ++ uns 41
noncomputable abbrev H131_0 (gone_0 : Int) (g_1 : List TV) (seen_3 : List TV) (i_2 : Int) : Nd := .head [1, 1, 1, 0, 1, 2] (EH131_0 gone_0 g_1 seen_3 i_2)
noncomputable abbrev B131_0 (gone_0 : Int) (g_1 : List TV) (seen_3 : List TV) (i_2 : Int) : Nd := .back [1, 1, 1, 0, 1, 2] (EH131_0 gone_0 g_1 seen_3 i_2)
noncomputable def EH131_1 (gone_0 : Int) (g_1 : List TV) (seen_3 : List TV) (i_5 : Int) (v_2 : List TV) (v_4 : Int) : Env := [.un, w6 gone_0, w30 g_1, .un, .un, w10 seen_3, w6 i_5] ++ uns 18 ++ [w3 v_2, w8 v_2, w6 v_4] ++ uns 20
noncomputable abbrev H131_1 (gone_0 : Int) (g_1 : List TV) (seen_3 : List TV) (i_5 : Int) (v_2 : List TV) (v_4 : Int) : Nd := .head [1, 1, 1, 0, 1, 2, 5, 1, 0, 2, 1, 2] (EH131_1 gone_0 g_1 seen_3 i_5 v_2 v_4)
noncomputable abbrev B131_1 (gone_0 : Int) (g_1 : List TV) (seen_3 : List TV) (i_5 : Int) (v_2 : List TV) (v_4 : Int) : Nd := .back [1, 1, 1, 0, 1, 2, 5, 1, 0, 2, 1, 2] (EH131_1 gone_0 g_1 seen_3 i_5 v_2 v_4)
noncomputable def N131 (g_0 : List TV) (gone_1 : Int) : Nd :=
  .bif ((gone_1 == 0))
  (.ret [sl false ⟨1, false⟩ ([])] [])
  (H131_0 gone_1 g_0 ([i64 0]) 0)
theorem e131 {g_0 : List TV} {gone_1 : Int} {r : Res} (h : S cx 131 (N131 g_0 gone_1) = some r) : tw cx 131 [.st [sl true ⟨1, true⟩ g_0], i64 gone_1] = some r :=
  tw_of (fun call hd hb pt rg => by kernel_rfl) h
noncomputable def NH131_0 (gone_0 : Int) (g_1 : List TV) (seen_3 : List TV) (i_2 : Int) : Nd :=
  .bif (decide (i_2 < ((seen_3.length : Nat) : Int)))
  (.ck (decide ((0 : Int) ≤ i_2) && decide (i_2 < ((seen_3.length : Nat) : Int))) <|
    .int .i64 (seen_3.getD (0 + i_2.toNat) (.dead ())) fun x_1201 =>
    .ck (decide ((0 : Int) ≤ x_1201) && decide (x_1201 < ((g_1.length : Nat) : Int))) <|
    .slR ⟨1, false⟩ (g_1.getD (0 + x_1201.toNat) (.dead ())) fun xs_0bc5 =>
    H131_1 gone_0 g_1 seen_3 i_2 xs_0bc5 0)
  (.ret [sl false ⟨1, false⟩ seen_3] [])
theorem eH131_0 {gone_0 : Int} {g_1 : List TV} {seen_3 : List TV} {i_2 : Int} {r : Res} (h : S cx 131 (NH131_0 gone_0 g_1 seen_3 i_2) = some r) : S cx 131 (H131_0 gone_0 g_1 seen_3 i_2) = some r :=
  hw_of (fun call hd hb pt rg => by kernel_rfl) h
noncomputable def NH131_1 (gone_0 : Int) (g_1 : List TV) (seen_3 : List TV) (i_5 : Int) (v_2 : List TV) (v_4 : Int) : Nd :=
  .bif (decide (v_4 < ((v_2.length : Nat) : Int)))
  (.ck (decide ((0 : Int) ≤ v_4) && decide (v_4 < ((v_2.length : Nat) : Int))) <|
    .int .i64 (v_2.getD (0 + v_4.toNat) (.dead ())) fun x_3136 =>
    .bif ((x_3136 != gone_0))
    (C116 seen_3 x_3136 fun v_b13d =>
      .bif ((!v_b13d))
      (.ck (decide ((seen_3.length + ([i64 x_3136] : List TV).length) * 8 < lim)) <|
        B131_1 gone_0 g_1 (seen_3 ++ ([i64 x_3136])) i_5 v_2 (w64 (v_4 + 1)))
      (B131_1 gone_0 g_1 seen_3 i_5 v_2 (w64 (v_4 + 1))))
    (B131_1 gone_0 g_1 seen_3 i_5 v_2 (w64 (v_4 + 1))))
  (B131_0 gone_0 g_1 seen_3 (w64 (i_5 + 1)))
theorem eH131_1 {gone_0 : Int} {g_1 : List TV} {seen_3 : List TV} {i_5 : Int} {v_2 : List TV} {v_4 : Int} {r : Res} (h : S cx 131 (NH131_1 gone_0 g_1 seen_3 i_5 v_2 v_4) = some r) : S cx 131 (H131_1 gone_0 g_1 seen_3 i_5 v_2 v_4) = some r :=
  hw_of (fun call hd hb pt rg => by kernel_rfl) h
noncomputable def N132 (op_0 : Int) (a_1 : Int) (b_2 : Int) : Nd :=
  .bif ((op_0 == 4))
  (.ret [i64 (w64 (((BitVec.ofInt 64 (w64 (a_1 + b_2)) &&& BitVec.ofInt 64 65535).toNat : Int))), tb true] [])
  (.bif ((op_0 == 5))
    (.ret [i64 (w64 (((BitVec.ofInt 64 (w64 (a_1 - b_2)) &&& BitVec.ofInt 64 65535).toNat : Int))), tb true] [])
    (.bif ((op_0 == 6))
      (.ret [i64 (w64 (((BitVec.ofInt 64 (w64 (a_1 * b_2)) &&& BitVec.ofInt 64 65535).toNat : Int))), tb true] [])
      (.bif ((op_0 == 7))
        (.bif ((b_2 == 0))
          (.ret [i64 0, tb false] [])
          (.ck ((!(decide (b_2 = 0)))) <|
            .ret [i64 (w64 (a_1.tdiv b_2)), tb true] []))
        (.bif ((op_0 == 8))
          (C133 (decide (a_1 < b_2)) fun v_db26 =>
            .ret [i64 v_db26, tb true] [])
          (C133 (a_1 == b_2) fun v_d771 =>
            .ret [i64 v_d771, tb true] [])))))
theorem e132 {op_0 : Int} {a_1 : Int} {b_2 : Int} {r : Res} (h : S cx 132 (N132 op_0 a_1 b_2) = some r) : tw cx 132 [i64 op_0, i64 a_1, i64 b_2] = some r :=
  tw_of (fun call hd hb pt rg => by kernel_rfl) h
noncomputable def N133 (b_0 : Bool) : Nd :=
  .bif (b_0)
  (.ret [i64 1] [])
  (.ret [i64 0] [])
theorem e133 {b_0 : Bool} {r : Res} (h : S cx 133 (N133 b_0) = some r) : tw cx 133 [tb b_0] = some r :=
  tw_of (fun call hd hb pt rg => by kernel_rfl) h
noncomputable def EH134_0 (a_0 : List TV) (out_1 : List TV) (i_2 : Int) : Env := [w25 a_0, .un, .un, .val [] (sl false ⟨6, false⟩ out_1), w6 i_2] ++ uns 19
noncomputable abbrev H134_0 (a_0 : List TV) (out_1 : List TV) (i_2 : Int) : Nd := .head [1, 1, 0, 1, 2] (EH134_0 a_0 out_1 i_2)
noncomputable abbrev B134_0 (a_0 : List TV) (out_1 : List TV) (i_2 : Int) : Nd := .back [1, 1, 0, 1, 2] (EH134_0 a_0 out_1 i_2)
noncomputable def N134 (a_0 : List TV) : Nd :=
  .ck (decide ((0 : Int) ≤ ((a_0.length : Nat) : Int)) && decide (((a_0.length : Nat) : Int) ≤ ((a_0.length : Nat) : Int)) && decide (((a_0.length : Nat) : Int) * 48 < (lim : Int)) && decide (((a_0.length : Nat) : Int) < 9223372036854775807) && true && true) <|
  H134_0 a_0 (List.replicate (((a_0.length : Nat) : Int).toNat) (.st [i64 0, i64 0, i64 0, i64 0, i64 0, i64 0])) 0
theorem e134 {a_0 : List TV} {r : Res} (h : S cx 134 (N134 a_0) = some r) : tw cx 134 [sl true ⟨6, false⟩ a_0] = some r :=
  tw_of (fun call hd hb pt rg => by kernel_rfl) h
noncomputable def NH134_0 (a_0 : List TV) (out_1 : List TV) (i_2 : Int) : Nd :=
  .bif (decide (i_2 < ((a_0.length : Nat) : Int)))
  (.ck (decide ((0 : Int) ≤ i_2) && decide (i_2 < ((a_0.length : Nat) : Int))) <|
    V6_1 (a_0.getD (0 + i_2.toNat) (.dead ())) fun op_e85d do_3fec dst_ffe3 a_68fc b_0250 n_1558 =>
    C163 op_e85d do_3fec dst_ffe3 a_68fc b_0250 n_1558 fun op_7b01 do_b247 dst_7e91 a_82ae b_3d61 n_9e0c =>
    .ck (decide ((0 : Int) ≤ i_2) && decide (i_2 < ((out_1.length : Nat) : Int))) <|
    B134_0 a_0 (out_1.set (0 + i_2.toNat) (.st [i64 op_7b01, i64 do_b247, i64 dst_7e91, i64 a_82ae, i64 b_3d61, i64 n_9e0c])) (w64 (i_2 + 1)))
  (.ret [sl false ⟨6, false⟩ out_1] [])
theorem eH134_0 {a_0 : List TV} {out_1 : List TV} {i_2 : Int} {r : Res} (h : S cx 134 (NH134_0 a_0 out_1 i_2) = some r) : S cx 134 (H134_0 a_0 out_1 i_2) = some r :=
  hw_of (fun call hd hb pt rg => by kernel_rfl) h
noncomputable def EH135_0 (a_0 : List TV) (out_1 : List TV) (i_2 : Int) : Env := [w26 a_0, .un, .un, w18 out_1, w6 i_2] ++ uns 19
noncomputable abbrev H135_0 (a_0 : List TV) (out_1 : List TV) (i_2 : Int) : Nd := .head [1, 1, 0, 1, 2] (EH135_0 a_0 out_1 i_2)
noncomputable abbrev B135_0 (a_0 : List TV) (out_1 : List TV) (i_2 : Int) : Nd := .back [1, 1, 0, 1, 2] (EH135_0 a_0 out_1 i_2)
noncomputable def N135 (a_0 : List TV) : Nd :=
  .ck (decide ((0 : Int) ≤ ((a_0.length : Nat) : Int)) && decide (((a_0.length : Nat) : Int) ≤ ((a_0.length : Nat) : Int)) && decide (((a_0.length : Nat) : Int) * 24 < (lim : Int)) && decide (((a_0.length : Nat) : Int) < 9223372036854775807) && true && true) <|
  H135_0 a_0 (List.replicate (((a_0.length : Nat) : Int).toNat) (sl false ⟨1, false⟩ ([]))) 0
theorem e135 {a_0 : List TV} {r : Res} (h : S cx 135 (N135 a_0) = some r) : tw cx 135 [sl true ⟨1, true⟩ a_0] = some r :=
  tw_of (fun call hd hb pt rg => by kernel_rfl) h
noncomputable def NH135_0 (a_0 : List TV) (out_1 : List TV) (i_2 : Int) : Nd :=
  .bif (decide (i_2 < ((a_0.length : Nat) : Int)))
  (.ck (decide ((0 : Int) ≤ i_2) && decide (i_2 < ((a_0.length : Nat) : Int))) <|
    .slR ⟨1, false⟩ (a_0.getD (0 + i_2.toNat) (.dead ())) fun xs_c216 =>
    C48 xs_c216 fun vs_f370 =>
    .ck (decide ((0 : Int) ≤ i_2) && decide (i_2 < ((out_1.length : Nat) : Int))) <|
    B135_0 a_0 (out_1.set (0 + i_2.toNat) (sl false ⟨1, false⟩ vs_f370)) (w64 (i_2 + 1)))
  (.ret [sl false ⟨1, true⟩ out_1] [])
theorem eH135_0 {a_0 : List TV} {out_1 : List TV} {i_2 : Int} {r : Res} (h : S cx 135 (NH135_0 a_0 out_1 i_2) = some r) : S cx 135 (H135_0 a_0 out_1 i_2) = some r :=
  hw_of (fun call hd hb pt rg => by kernel_rfl) h
noncomputable def EH136_0 (out_1 : List TV) (v_0 : List TV) (v_2 : Int) : Env := [.un, .un, .un, w18 out_1] ++ uns 7 ++ [w24 v_0, w8 v_0, w6 v_2] ++ uns 12
noncomputable abbrev H136_0 (out_1 : List TV) (v_0 : List TV) (v_2 : Int) : Nd := .head [1, 1, 0, 1, 2] (EH136_0 out_1 v_0 v_2)
noncomputable abbrev B136_0 (out_1 : List TV) (v_0 : List TV) (v_2 : Int) : Nd := .back [1, 1, 0, 1, 2] (EH136_0 out_1 v_0 v_2)
noncomputable def N136 (s_0 : List TV) (s_1 : Int) : Nd :=
  .ck (decide ((0 : Int) ≤ ((s_0.length : Nat) : Int)) && decide (((s_0.length : Nat) : Int) ≤ ((s_0.length : Nat) : Int)) && decide (((s_0.length : Nat) : Int) * 24 < (lim : Int)) && decide (((s_0.length : Nat) : Int) < 9223372036854775807) && true && true) <|
  H136_0 (List.replicate (((s_0.length : Nat) : Int).toNat) (sl false ⟨1, false⟩ ([]))) s_0 0
theorem e136 {s_0 : List TV} {s_1 : Int} {r : Res} (h : S cx 136 (N136 s_0 s_1) = some r) : tw cx 136 [.st [sl true ⟨6, true⟩ s_0, i64 s_1]] = some r :=
  tw_of (fun call hd hb pt rg => by kernel_rfl) h
noncomputable def NH136_0 (out_1 : List TV) (v_0 : List TV) (v_2 : Int) : Nd :=
  .bif (decide (v_2 < ((v_0.length : Nat) : Int)))
  (.ck (decide ((0 : Int) ≤ v_2) && decide (v_2 < ((v_0.length : Nat) : Int))) <|
    V6 (v_0.getD (0 + v_2.toNat) (.dead ())) fun paramss_a138 codes_b636 go_b5f0 test_b543 nexts_0a51 argss_5544 =>
    .ck (decide ((0 : Int) ≤ v_2) && decide (v_2 < ((out_1.length : Nat) : Int))) <|
    B136_0 (out_1.set (0 + v_2.toNat) (sl true ⟨1, false⟩ nexts_0a51)) v_0 (w64 (v_2 + 1)))
  (.ret [sl false ⟨1, true⟩ out_1] [])
theorem eH136_0 {out_1 : List TV} {v_0 : List TV} {v_2 : Int} {r : Res} (h : S cx 136 (NH136_0 out_1 v_0 v_2) = some r) : S cx 136 (H136_0 out_1 v_0 v_2) = some r :=
  hw_of (fun call hd hb pt rg => by kernel_rfl) h
noncomputable def EH137_0 (k_0 : Int) (v_1 : List TV) (v_2 : List TV) (v_9 : Int) (v_8 : List TV) (v_3 : Int) (v_4 : List TV) (v_5 : List TV) (v_6 : List TV) (v_7 : List TV) : Env := [.ref 115 [] none 135 false, w6 k_0, .un, .un, .un, .adr 14 [.i 119 (0 + k_0.toNat)]] ++ uns 8 ++ [w24 v_1] ++ uns 56 ++ [w3 v_2, w8 v_2, w6 v_9] ++ uns 41 ++ [w23 v_8 v_3 v_4 v_5 v_6 v_7, .un]
noncomputable abbrev H137_0 (k_0 : Int) (v_1 : List TV) (v_2 : List TV) (v_9 : Int) (v_8 : List TV) (v_3 : Int) (v_4 : List TV) (v_5 : List TV) (v_6 : List TV) (v_7 : List TV) : Nd := .head [1, 1, 1, 0, 1, 2] (EH137_0 k_0 v_1 v_2 v_9 v_8 v_3 v_4 v_5 v_6 v_7)
noncomputable abbrev B137_0 (k_0 : Int) (v_1 : List TV) (v_2 : List TV) (v_9 : Int) (v_8 : List TV) (v_3 : Int) (v_4 : List TV) (v_5 : List TV) (v_6 : List TV) (v_7 : List TV) : Nd := .back [1, 1, 1, 0, 1, 2] (EH137_0 k_0 v_1 v_2 v_9 v_8 v_3 v_4 v_5 v_6 v_7)
noncomputable def EH137_1 (k_0 : Int) (v_1 : List TV) (v_2 : List TV) (v_9 : Int) (v_8 : List TV) (v_3 : Int) (v_4 : List TV) (v_5 : List TV) (v_6 : List TV) (v_7 : List TV) : Env := [.ref 115 [] none 135 false, w6 k_0, .un, .un, .un, .adr 14 [.i 119 (0 + k_0.toNat)]] ++ uns 8 ++ [w24 v_1] ++ uns 71 ++ [w25 v_2, w8 v_2, w6 v_9] ++ uns 26 ++ [w23 v_8 v_3 v_4 v_5 v_6 v_7, .un]
noncomputable abbrev H137_1 (k_0 : Int) (v_1 : List TV) (v_2 : List TV) (v_9 : Int) (v_8 : List TV) (v_3 : Int) (v_4 : List TV) (v_5 : List TV) (v_6 : List TV) (v_7 : List TV) : Nd := .head [1, 1, 1, 1, 0, 1, 2] (EH137_1 k_0 v_1 v_2 v_9 v_8 v_3 v_4 v_5 v_6 v_7)
noncomputable abbrev B137_1 (k_0 : Int) (v_1 : List TV) (v_2 : List TV) (v_9 : Int) (v_8 : List TV) (v_3 : Int) (v_4 : List TV) (v_5 : List TV) (v_6 : List TV) (v_7 : List TV) : Nd := .back [1, 1, 1, 1, 0, 1, 2] (EH137_1 k_0 v_1 v_2 v_9 v_8 v_3 v_4 v_5 v_6 v_7)
noncomputable def N137 (v_0 : List TV) (v_1 : Int) (v_2 : List TV) (v_3 : List TV) (v_4 : List TV) (v_5 : List TV) (k_6 : Int) : Nd :=
  .ck (decide ((0 : Int) ≤ k_6) && decide (k_6 < ((v_0.length : Nat) : Int))) <|
  V6 (v_0.getD (0 + k_6.toNat) (.dead ())) fun paramss_35fd codes_26bd go_77e9 test_4fa7 nexts_7332 argss_8a82 =>
  C77 codes_26bd v_1 fun v_f044 =>
  .bif ((!v_f044))
  (.ret [tb false] [.pt false () (.st [.st [sl true ⟨6, true⟩ v_0, i64 v_1], sl false ⟨1, true⟩ v_2, sl false ⟨1, true⟩ v_3, sl false ⟨1, false⟩ v_4, sl false ⟨1, false⟩ v_5])])
  (V6 (v_0.getD (0 + k_6.toNat) (.dead ())) fun paramss_d69a codes_c5bf go_abe9 test_d89f nexts_5faa argss_1e85 =>
    V6 (v_0.getD (0 + k_6.toNat) (.dead ())) fun paramss_f127 codes_969e go_ad59 test_88ea nexts_e062 argss_7ecb =>
    V6 (v_0.getD (0 + k_6.toNat) (.dead ())) fun paramss_c638 codes_cd3a go_dd5e test_4808 nexts_7835 argss_4696 =>
    C78 go_abe9 test_88ea nexts_7835 v_1 ((v_0.length : Nat) : Int) fun v_1ab8 =>
    .bif ((!v_1ab8))
    (.ret [tb false] [.pt false () (.st [.st [sl true ⟨6, true⟩ v_0, i64 v_1], sl false ⟨1, true⟩ v_2, sl false ⟨1, true⟩ v_3, sl false ⟨1, false⟩ v_4, sl false ⟨1, false⟩ v_5])])
    (V6 (v_0.getD (0 + k_6.toNat) (.dead ())) fun paramss_c53a codes_209a go_0ba7 test_362f nexts_5b07 argss_ef6f =>
      C119 nexts_5b07 0 fun v_2d41 =>
      .bif (v_2d41)
      (.ret [tb false] [.pt false () (.st [.st [sl true ⟨6, true⟩ v_0, i64 v_1], sl false ⟨1, true⟩ v_2, sl false ⟨1, true⟩ v_3, sl false ⟨1, false⟩ v_4, sl false ⟨1, false⟩ v_5])])
      (V6 (v_0.getD (0 + k_6.toNat) (.dead ())) fun paramss_680c codes_2b02 go_dc4a test_00be nexts_828d argss_3504 =>
        C164 v_0 v_1 v_2 v_3 v_4 v_5 paramss_680c codes_2b02 go_dc4a test_00be nexts_828d argss_3504 fun v_6879 =>
        .bif ((!v_6879))
        (.ret [tb false] [.pt false () (.st [.st [sl true ⟨6, true⟩ v_0, i64 v_1], sl false ⟨1, true⟩ v_2, sl false ⟨1, true⟩ v_3, sl false ⟨1, false⟩ v_4, sl false ⟨1, false⟩ v_5])])
        (V6 (v_0.getD (0 + k_6.toNat) (.dead ())) fun paramss_717f codes_4916 go_b239 test_7544 nexts_422d argss_4088 =>
          H137_0 k_6 v_0 paramss_717f 0 v_0 v_1 v_2 v_3 v_4 v_5))))
theorem e137 {v_0 : List TV} {v_1 : Int} {v_2 : List TV} {v_3 : List TV} {v_4 : List TV} {v_5 : List TV} {k_6 : Int} {r : Res} (h : S cx 137 (N137 v_0 v_1 v_2 v_3 v_4 v_5 k_6) = some r) : tw cx 137 [.pt false () (.st [.st [sl true ⟨6, true⟩ v_0, i64 v_1], sl false ⟨1, true⟩ v_2, sl false ⟨1, true⟩ v_3, sl false ⟨1, false⟩ v_4, sl false ⟨1, false⟩ v_5]), i64 k_6] = some r :=
  tw_of (fun call hd hb pt rg => by kernel_rfl) h
noncomputable def NH137_0 (k_0 : Int) (v_1 : List TV) (v_2 : List TV) (v_9 : Int) (v_8 : List TV) (v_3 : Int) (v_4 : List TV) (v_5 : List TV) (v_6 : List TV) (v_7 : List TV) : Nd :=
  .bif (decide (v_9 < ((v_2.length : Nat) : Int)))
  (.ck (decide ((0 : Int) ≤ v_9) && decide (v_9 < ((v_2.length : Nat) : Int))) <|
    .int .i64 (v_2.getD (0 + v_9.toNat) (.dead ())) fun x_aed6 =>
    C165 v_8 v_3 v_4 v_5 v_6 v_7 x_aed6 k_0 (-1) fun v_8e34 partss_0afc values_b919 nexts_b87f doms_0813 defs_0690 ats_4ddf =>
    .bif ((!v_8e34))
    (.ret [tb false] [.pt false () (.st [.st [sl true ⟨6, true⟩ partss_0afc, i64 values_b919], sl false ⟨1, true⟩ nexts_b87f, sl false ⟨1, true⟩ doms_0813, sl false ⟨1, false⟩ defs_0690, sl false ⟨1, false⟩ ats_4ddf])])
    (B137_0 k_0 v_1 v_2 (w64 (v_9 + 1)) partss_0afc values_b919 nexts_b87f doms_0813 defs_0690 ats_4ddf))
  (V6 (v_1.getD (0 + k_0.toNat) (.dead ())) fun paramss_7e1d codes_7b29 go_8775 test_9357 nexts_b676 argss_3c76 =>
    H137_1 k_0 v_1 codes_7b29 0 v_8 v_3 v_4 v_5 v_6 v_7)
theorem eH137_0 {k_0 : Int} {v_1 : List TV} {v_2 : List TV} {v_9 : Int} {v_8 : List TV} {v_3 : Int} {v_4 : List TV} {v_5 : List TV} {v_6 : List TV} {v_7 : List TV} {r : Res} (h : S cx 137 (NH137_0 k_0 v_1 v_2 v_9 v_8 v_3 v_4 v_5 v_6 v_7) = some r) : S cx 137 (H137_0 k_0 v_1 v_2 v_9 v_8 v_3 v_4 v_5 v_6 v_7) = some r :=
  hw_of (fun call hd hb pt rg => by kernel_rfl) h
noncomputable def NH137_1 (k_0 : Int) (v_1 : List TV) (v_2 : List TV) (v_9 : Int) (v_8 : List TV) (v_3 : Int) (v_4 : List TV) (v_5 : List TV) (v_6 : List TV) (v_7 : List TV) : Nd :=
  .bif (decide (v_9 < ((v_2.length : Nat) : Int)))
  (.ck (decide ((0 : Int) ≤ v_9) && decide (v_9 < ((v_2.length : Nat) : Int))) <|
    V6_1 (v_2.getD (0 + v_9.toNat) (.dead ())) fun op_8e0e do_8f73 dst_d3a5 a_872d b_0217 n_042f =>
    C166 op_8e0e do_8f73 dst_d3a5 a_872d b_0217 n_042f fun v_50ff =>
    .bif (v_50ff)
    (C165 v_8 v_3 v_4 v_5 v_6 v_7 dst_d3a5 k_0 v_9 fun v_3124 partss_84b2 values_41d7 nexts_2df4 doms_27b3 defs_9887 ats_383a =>
      .bif ((!v_3124))
      (.ret [tb false] [.pt false () (.st [.st [sl true ⟨6, true⟩ partss_84b2, i64 values_41d7], sl false ⟨1, true⟩ nexts_2df4, sl false ⟨1, true⟩ doms_27b3, sl false ⟨1, false⟩ defs_9887, sl false ⟨1, false⟩ ats_383a])])
      (B137_1 k_0 v_1 v_2 (w64 (v_9 + 1)) partss_84b2 values_41d7 nexts_2df4 doms_27b3 defs_9887 ats_383a))
    (B137_1 k_0 v_1 v_2 (w64 (v_9 + 1)) v_8 v_3 v_4 v_5 v_6 v_7))
  (.bif (decide (k_0 > 0))
    (.ret [tb true] [.pt false () (.st [.st [sl true ⟨6, true⟩ v_8, i64 v_3], sl false ⟨1, true⟩ v_4, sl false ⟨1, true⟩ v_5, sl false ⟨1, false⟩ v_6, sl false ⟨1, false⟩ v_7])])
    (V6 (v_1.getD (0 + k_0.toNat) (.dead ())) fun paramss_7e1d codes_7b29 go_8775 test_9357 nexts_b676 argss_3c76 =>
      .ret [tb (((paramss_7e1d.length : Nat) : Int) == 0)] [.pt false () (.st [.st [sl true ⟨6, true⟩ v_8, i64 v_3], sl false ⟨1, true⟩ v_4, sl false ⟨1, true⟩ v_5, sl false ⟨1, false⟩ v_6, sl false ⟨1, false⟩ v_7])]))
theorem eH137_1 {k_0 : Int} {v_1 : List TV} {v_2 : List TV} {v_9 : Int} {v_8 : List TV} {v_3 : Int} {v_4 : List TV} {v_5 : List TV} {v_6 : List TV} {v_7 : List TV} {r : Res} (h : S cx 137 (NH137_1 k_0 v_1 v_2 v_9 v_8 v_3 v_4 v_5 v_6 v_7) = some r) : S cx 137 (H137_1 k_0 v_1 v_2 v_9 v_8 v_3 v_4 v_5 v_6 v_7) = some r :=
  hw_of (fun call hd hb pt rg => by kernel_rfl) h
noncomputable def EG138_0 (next_0 : List TV) (all_1 : List TV) : Env := [w26 next_0, .un, .un, .val [] (sl false ⟨1, true⟩ (List.replicate (((next_0.length : Nat) : Int).toNat) (sl false ⟨1, false⟩ ([])))), w10 all_1] ++ uns 61
noncomputable abbrev G138_0 (next_0 : List TV) (all_1 : List TV) : Nd := .go [1, 1] (EG138_0 next_0 all_1)
noncomputable def EH138_1 (next_0 : List TV) (out_2 : List TV) (all_1 : List TV) (v_3 : Int) : Env := [w26 next_0, .un, .un, w18 out_2, w10 all_1] ++ uns 11 ++ [.val [] (i64 (((List.replicate (((next_0.length : Nat) : Int).toNat) (sl false ⟨1, false⟩ ([]))).length : Nat) : Int)), w6 v_3] ++ uns 48
noncomputable abbrev H138_1 (next_0 : List TV) (out_2 : List TV) (all_1 : List TV) (v_3 : Int) : Nd := .head [1, 1, 0, 1, 2] (EH138_1 next_0 out_2 all_1 v_3)
noncomputable abbrev B138_1 (next_0 : List TV) (out_2 : List TV) (all_1 : List TV) (v_3 : Int) : Nd := .back [1, 1, 0, 1, 2] (EH138_1 next_0 out_2 all_1 v_3)
noncomputable def EH138_2 (next_0 : List TV) (out_3 : List TV) (all_1 : List TV) (v_2 : Int) : Env := [w26 next_0, .un, .un, w18 out_3, w10 all_1] ++ uns 22 ++ [.ref 4 [] none 104 false, w8 all_1, w6 v_2] ++ uns 36
noncomputable abbrev H138_2 (next_0 : List TV) (out_3 : List TV) (all_1 : List TV) (v_2 : Int) : Nd := .head [1, 1, 1, 0, 1, 2] (EH138_2 next_0 out_3 all_1 v_2)
noncomputable abbrev B138_2 (next_0 : List TV) (out_3 : List TV) (all_1 : List TV) (v_2 : Int) : Nd := .back [1, 1, 1, 0, 1, 2] (EH138_2 next_0 out_3 all_1 v_2)
noncomputable def EH138_3 (next_0 : List TV) (out_3 : List TV) (all_1 : List TV) (k_5 : Int) (left_2 : List TV) (v_6 : Int) (v_7 : Int) (v_4 : Int) : Env := [w26 next_0, .un, .un, w18 out_3, w10 all_1, .un, w6 k_5, .un, w10 left_2] ++ uns 18 ++ [.ref 4 [] none 104 false, w8 all_1, w6 v_6] ++ uns 11 ++ [w6 v_7, w6 v_4] ++ uns 23
noncomputable abbrev H138_3 (next_0 : List TV) (out_3 : List TV) (all_1 : List TV) (k_5 : Int) (left_2 : List TV) (v_6 : Int) (v_7 : Int) (v_4 : Int) : Nd := .head [1, 1, 1, 0, 1, 2, 5, 1, 1, 0, 2, 1, 1, 1, 1, 2] (EH138_3 next_0 out_3 all_1 k_5 left_2 v_6 v_7 v_4)
noncomputable abbrev B138_3 (next_0 : List TV) (out_3 : List TV) (all_1 : List TV) (k_5 : Int) (left_2 : List TV) (v_6 : Int) (v_7 : Int) (v_4 : Int) : Nd := .back [1, 1, 1, 0, 1, 2, 5, 1, 1, 0, 2, 1, 1, 1, 1, 2] (EH138_3 next_0 out_3 all_1 k_5 left_2 v_6 v_7 v_4)
noncomputable def N138 (next_0 : List TV) : Nd :=
  .amb2 
  (.ck (decide ((0 : Int) ≤ ((next_0.length : Nat) : Int)) && decide (((next_0.length : Nat) : Int) ≤ ((next_0.length : Nat) : Int)) && decide (((next_0.length : Nat) : Int) * 24 < (lim : Int)) && decide (((next_0.length : Nat) : Int) < 9223372036854775807) && true && true) <|
    C69 next_0 0 ([]) fun vs_70a8 =>
    G138_0 next_0 vs_70a8) 
  (C69 next_0 0 ([]) fun vs_70a8 =>
    .ck (decide ((0 : Int) ≤ ((next_0.length : Nat) : Int)) && decide (((next_0.length : Nat) : Int) ≤ ((next_0.length : Nat) : Int)) && decide (((next_0.length : Nat) : Int) * 24 < (lim : Int)) && decide (((next_0.length : Nat) : Int) < 9223372036854775807) && true && true) <|
    G138_0 next_0 vs_70a8)
theorem e138 {next_0 : List TV} {r : Res} (h : S cx 138 (N138 next_0) = some r) : tw cx 138 [sl true ⟨1, true⟩ next_0] = some r :=
  tw_of (fun call hd hb pt rg => by kernel_rfl) h
noncomputable def NG138_0 (next_0 : List TV) (all_1 : List TV) : Nd :=
  H138_1 next_0 (List.replicate (((next_0.length : Nat) : Int).toNat) (sl false ⟨1, false⟩ ([]))) all_1 0
theorem eG138_0 {next_0 : List TV} {all_1 : List TV} {r : Res} (h : S cx 138 (NG138_0 next_0 all_1) = some r) : S cx 138 (G138_0 next_0 all_1) = some r :=
  pw_of (fun call hd hb pt rg => by kernel_rfl) h
noncomputable def NH138_1 (next_0 : List TV) (out_2 : List TV) (all_1 : List TV) (v_3 : Int) : Nd :=
  .bif (decide (v_3 < (((List.replicate (((next_0.length : Nat) : Int).toNat) (sl false ⟨1, false⟩ ([]))).length : Nat) : Int)))
  (.ck (decide ((0 : Int) ≤ ((next_0.length : Nat) : Int)) && decide (((next_0.length : Nat) : Int) ≤ ((next_0.length : Nat) : Int)) && decide (((next_0.length : Nat) : Int) * 1 < (lim : Int)) && decide (((next_0.length : Nat) : Int) < 9223372036854775807) && true && true) <|
    .ck (decide ((0 : Int) ≤ v_3) && decide (v_3 < ((out_2.length : Nat) : Int))) <|
    B138_1 next_0 (out_2.set (0 + v_3.toNat) (sl false ⟨1, false⟩ (List.replicate (((next_0.length : Nat) : Int).toNat) (tb false)))) all_1 (w64 (v_3 + 1)))
  (H138_2 next_0 out_2 all_1 0)
theorem eH138_1 {next_0 : List TV} {out_2 : List TV} {all_1 : List TV} {v_3 : Int} {r : Res} (h : S cx 138 (NH138_1 next_0 out_2 all_1 v_3) = some r) : S cx 138 (H138_1 next_0 out_2 all_1 v_3) = some r :=
  hw_of (fun call hd hb pt rg => by kernel_rfl) h
noncomputable def NH138_2 (next_0 : List TV) (out_3 : List TV) (all_1 : List TV) (v_2 : Int) : Nd :=
  .bif (decide (v_2 < ((all_1.length : Nat) : Int)))
  (.ck (decide ((0 : Int) ≤ v_2) && decide (v_2 < ((all_1.length : Nat) : Int))) <|
    .bool (all_1.getD (0 + v_2.toNat) (.dead ())) fun x_834a =>
    .bif ((!x_834a))
    (B138_2 next_0 out_3 all_1 (w64 (v_2 + 1)))
    (C69 next_0 0 ([i64 v_2]) fun vs_bcaa =>
      H138_3 next_0 out_3 all_1 v_2 vs_bcaa v_2 ((out_3.length : Nat) : Int) 0))
  (.ret [sl false ⟨1, true⟩ out_3] [])
theorem eH138_2 {next_0 : List TV} {out_3 : List TV} {all_1 : List TV} {v_2 : Int} {r : Res} (h : S cx 138 (NH138_2 next_0 out_3 all_1 v_2) = some r) : S cx 138 (H138_2 next_0 out_3 all_1 v_2) = some r :=
  hw_of (fun call hd hb pt rg => by kernel_rfl) h
noncomputable def NH138_3_s0 (next_0 : List TV) (out_3 : List TV) (all_1 : List TV) (k_5 : Int) (left_2 : List TV) (v_6 : Int) (v_7 : Int) (v_4 : Int) (x_d611 : Bool) (xs_20b3 : List TV) : Nd :=
  .ck (decide ((0 : Int) ≤ k_5) && decide (k_5 < ((xs_20b3.length : Nat) : Int))) <|
  .slB ⟨1, false⟩ (out_3.getD (0 + v_4.toNat) (.dead ())) fun r xs_20b3_2 => bif r then 
  (.non)
  else (B138_3 next_0 (out_3.set (0 + v_4.toNat) (sl false ⟨1, false⟩ (xs_20b3_2.set (0 + k_5.toNat) (tb (!x_d611))))) all_1 k_5 left_2 v_6 v_7 (w64 (v_4 + 1)))
noncomputable def NH138_3_s1 (next_0 : List TV) (out_3 : List TV) (all_1 : List TV) (k_5 : Int) (left_2 : List TV) (v_6 : Int) (v_7 : Int) (v_4 : Int) (xs_20b3 : List TV) : Nd :=
  .ck (decide ((0 : Int) ≤ k_5) && decide (k_5 < ((xs_20b3.length : Nat) : Int))) <|
  .slB ⟨1, false⟩ (out_3.getD (0 + v_4.toNat) (.dead ())) fun r xs_20b3_2 => bif r then 
  (.non)
  else (B138_3 next_0 (out_3.set (0 + v_4.toNat) (sl false ⟨1, false⟩ (xs_20b3_2.set (0 + k_5.toNat) (tb false)))) all_1 k_5 left_2 v_6 v_7 (w64 (v_4 + 1)))
noncomputable def NH138_3 (next_0 : List TV) (out_3 : List TV) (all_1 : List TV) (k_5 : Int) (left_2 : List TV) (v_6 : Int) (v_7 : Int) (v_4 : Int) : Nd :=
  .bif (decide (v_4 < v_7))
  (.ck (decide ((0 : Int) ≤ v_4) && decide (v_4 < ((out_3.length : Nat) : Int))) <|
    .ck (decide ((0 : Int) ≤ v_4) && decide (v_4 < ((all_1.length : Nat) : Int))) <|
    .bool (all_1.getD (0 + v_4.toNat) (.dead ())) fun x_fcdb =>
    .bif (x_fcdb)
    (.ck (decide ((0 : Int) ≤ v_4) && decide (v_4 < ((left_2.length : Nat) : Int))) <|
      .bool (left_2.getD (0 + v_4.toNat) (.dead ())) fun x_d611 =>
      .slO ⟨1, false⟩ (out_3.getD (0 + v_4.toNat) (.dead ())) fun vs_8636 =>
      .slB ⟨1, false⟩ (out_3.getD (0 + v_4.toNat) (.dead ())) fun r xs_20b3 => bif r then 
      (NH138_3_s0 next_0 out_3 all_1 k_5 left_2 v_6 v_7 v_4 x_d611 xs_20b3)
      else (NH138_3_s0 next_0 out_3 all_1 k_5 left_2 v_6 v_7 v_4 x_d611 xs_20b3))
    (.slO ⟨1, false⟩ (out_3.getD (0 + v_4.toNat) (.dead ())) fun vs_8636 =>
      .slB ⟨1, false⟩ (out_3.getD (0 + v_4.toNat) (.dead ())) fun r xs_20b3 => bif r then 
      (NH138_3_s1 next_0 out_3 all_1 k_5 left_2 v_6 v_7 v_4 xs_20b3)
      else (NH138_3_s1 next_0 out_3 all_1 k_5 left_2 v_6 v_7 v_4 xs_20b3)))
  (B138_2 next_0 out_3 all_1 (w64 (v_6 + 1)))
theorem eH138_3 {next_0 : List TV} {out_3 : List TV} {all_1 : List TV} {k_5 : Int} {left_2 : List TV} {v_6 : Int} {v_7 : Int} {v_4 : Int} {r : Res} (h : S cx 138 (NH138_3 next_0 out_3 all_1 k_5 left_2 v_6 v_7 v_4) = some r) : S cx 138 (H138_3 next_0 out_3 all_1 k_5 left_2 v_6 v_7 v_4) = some r :=
  hw_of (fun call hd hb pt rg => by kernel_rfl) h
noncomputable def N139 (s_0 : List TV) (v_1 : Bool) : Nd :=
  C167 s_0 v_1 fun v_8b44 =>
  .ret [tb (decide (v_8b44 ≥ 0))] []
theorem e139 {s_0 : List TV} {v_1 : Bool} {r : Res} (h : S cx 139 (N139 s_0 v_1) = some r) : tw cx 139 [sl true ⟨1, false⟩ s_0, tb v_1] = some r :=
  tw_of (fun call hd hb pt rg => by kernel_rfl) h
end Go.Tree.Q

/- Trees of values: program points of functions. -/
namespace Go.Tree.Q
open Go.Proofs
set_option linter.unusedVariables false
set_option maxRecDepth 20000
noncomputable def EH140_0 (v_0 : List TV) (v_1 : Int) (v_2 : List TV) (v_3 : List TV) (v_4 : List TV) (v_5 : List TV) (k_6 : Int) (v_7 : List TV) (v_8 : Int) : Env := [w13 v_0 v_1 v_2 v_3 v_4 v_5, w6 k_6, .un, .un, .un, .adr 16 [.i 119 (0 + k_6.toNat)]] ++ uns 10 ++ [w24 v_0, .un, .un, .un, .un, .un, w25 v_7, w8 v_7, w6 v_8] ++ uns 62
noncomputable abbrev H140_0 (v_0 : List TV) (v_1 : Int) (v_2 : List TV) (v_3 : List TV) (v_4 : List TV) (v_5 : List TV) (k_6 : Int) (v_7 : List TV) (v_8 : Int) : Nd := .head [1, 1, 0, 1, 2] (EH140_0 v_0 v_1 v_2 v_3 v_4 v_5 k_6 v_7 v_8)
noncomputable abbrev B140_0 (v_0 : List TV) (v_1 : Int) (v_2 : List TV) (v_3 : List TV) (v_4 : List TV) (v_5 : List TV) (k_6 : Int) (v_7 : List TV) (v_8 : Int) : Nd := .back [1, 1, 0, 1, 2] (EH140_0 v_0 v_1 v_2 v_3 v_4 v_5 k_6 v_7 v_8)
noncomputable def EH140_1 (v_0 : List TV) (v_1 : Int) (v_2 : List TV) (v_3 : List TV) (v_4 : List TV) (v_5 : List TV) (k_6 : Int) (i_10 : Int) (v_7 : List TV) (v_11 : Int) (v_8 : List TV) (v_9 : Int) : Env := [w13 v_0 v_1 v_2 v_3 v_4 v_5, w6 k_6, .un, .un, .un, .adr 16 [.i 119 (0 + k_6.toNat)], w6 i_10] ++ uns 9 ++ [w24 v_0, .un, .un, .un, .un, .un, w25 v_7, w8 v_7, w6 v_11, .un, .un, .un, .un, .un, w10 v_8, w8 v_8, w6 v_9] ++ uns 54
noncomputable abbrev H140_1 (v_0 : List TV) (v_1 : Int) (v_2 : List TV) (v_3 : List TV) (v_4 : List TV) (v_5 : List TV) (k_6 : Int) (i_10 : Int) (v_7 : List TV) (v_11 : Int) (v_8 : List TV) (v_9 : Int) : Nd := .head [1, 1, 0, 1, 2, 5, 1, 1, 0, 2, 1, 1, 2] (EH140_1 v_0 v_1 v_2 v_3 v_4 v_5 k_6 i_10 v_7 v_11 v_8 v_9)
noncomputable abbrev B140_1 (v_0 : List TV) (v_1 : Int) (v_2 : List TV) (v_3 : List TV) (v_4 : List TV) (v_5 : List TV) (k_6 : Int) (i_10 : Int) (v_7 : List TV) (v_11 : Int) (v_8 : List TV) (v_9 : Int) : Nd := .back [1, 1, 0, 1, 2, 5, 1, 1, 0, 2, 1, 1, 2] (EH140_1 v_0 v_1 v_2 v_3 v_4 v_5 k_6 i_10 v_7 v_11 v_8 v_9)
noncomputable def EH140_2 (v_0 : List TV) (v_1 : Int) (v_2 : List TV) (v_3 : List TV) (v_4 : List TV) (v_5 : List TV) (k_6 : Int) (v_7 : List TV) (v_8 : Int) : Env := [w13 v_0 v_1 v_2 v_3 v_4 v_5, w6 k_6, .un, .un, .un, .adr 16 [.i 119 (0 + k_6.toNat)]] ++ uns 10 ++ [w24 v_0] ++ uns 51 ++ [w10 v_7, w8 v_7, w6 v_8] ++ uns 16
noncomputable abbrev H140_2 (v_0 : List TV) (v_1 : Int) (v_2 : List TV) (v_3 : List TV) (v_4 : List TV) (v_5 : List TV) (k_6 : Int) (v_7 : List TV) (v_8 : Int) : Nd := .head [1, 1, 1, 1, 0, 1, 2] (EH140_2 v_0 v_1 v_2 v_3 v_4 v_5 k_6 v_7 v_8)
noncomputable abbrev B140_2 (v_0 : List TV) (v_1 : Int) (v_2 : List TV) (v_3 : List TV) (v_4 : List TV) (v_5 : List TV) (k_6 : Int) (v_7 : List TV) (v_8 : Int) : Nd := .back [1, 1, 1, 1, 0, 1, 2] (EH140_2 v_0 v_1 v_2 v_3 v_4 v_5 k_6 v_7 v_8)
noncomputable def N140 (v_0 : List TV) (v_1 : Int) (v_2 : List TV) (v_3 : List TV) (v_4 : List TV) (v_5 : List TV) (k_6 : Int) : Nd :=
  .ck (decide ((0 : Int) ≤ k_6) && decide (k_6 < ((v_0.length : Nat) : Int))) <|
  V6 (v_0.getD (0 + k_6.toNat) (.dead ())) fun paramss_35fd codes_26bd go_77e9 test_4fa7 nexts_7332 argss_8a82 =>
  H140_0 v_0 v_1 v_2 v_3 v_4 v_5 k_6 codes_26bd 0
theorem e140 {v_0 : List TV} {v_1 : Int} {v_2 : List TV} {v_3 : List TV} {v_4 : List TV} {v_5 : List TV} {k_6 : Int} {r : Res} (h : S cx 140 (N140 v_0 v_1 v_2 v_3 v_4 v_5 k_6) = some r) : tw cx 140 [.pt true () (.st [.st [sl true ⟨6, true⟩ v_0, i64 v_1], sl false ⟨1, true⟩ v_2, sl false ⟨1, true⟩ v_3, sl false ⟨1, false⟩ v_4, sl false ⟨1, false⟩ v_5]), i64 k_6] = some r :=
  tw_of (fun call hd hb pt rg => by kernel_rfl) h
noncomputable def NH140_0 (v_0 : List TV) (v_1 : Int) (v_2 : List TV) (v_3 : List TV) (v_4 : List TV) (v_5 : List TV) (k_6 : Int) (v_7 : List TV) (v_8 : Int) : Nd :=
  .bif (decide (v_8 < ((v_7.length : Nat) : Int)))
  (.ck (decide ((0 : Int) ≤ v_8) && decide (v_8 < ((v_7.length : Nat) : Int))) <|
    V6_1 (v_7.getD (0 + v_8.toNat) (.dead ())) fun op_ed73 do_7602 dst_ebc0 a_c549 b_0240 n_eb73 =>
    C168 op_ed73 do_7602 dst_ebc0 a_c549 b_0240 n_eb73 fun vs_73ae =>
    H140_1 v_0 v_1 v_2 v_3 v_4 v_5 k_6 v_8 v_7 v_8 vs_73ae 0)
  (V6 (v_0.getD (0 + k_6.toNat) (.dead ())) fun paramss_35fd codes_26bd go_77e9 test_4fa7 nexts_7332 argss_8a82 =>
    C125 go_77e9 fun v_3a69 =>
    .bif (v_3a69)
    (V6 (v_0.getD (0 + k_6.toNat) (.dead ())) fun paramss_d69a codes_c5bf go_abe9 test_d89f nexts_5faa argss_1e85 =>
      V6 (v_0.getD (0 + k_6.toNat) (.dead ())) fun paramss_f127 codes_969e go_ad59 test_88ea nexts_e062 argss_7ecb =>
      C169 v_0 v_1 v_2 v_3 v_4 v_5 test_d89f k_6 ((codes_969e.length : Nat) : Int) fun v_4996 =>
      .bif ((!v_4996))
      (.ret [tb false] [])
      (V6 (v_0.getD (0 + k_6.toNat) (.dead ())) fun paramss_c638 codes_cd3a go_dd5e test_4808 nexts_7835 argss_4696 =>
        C170 argss_4696 fun vs_3972 =>
        H140_2 v_0 v_1 v_2 v_3 v_4 v_5 k_6 vs_3972 0))
    (V6 (v_0.getD (0 + k_6.toNat) (.dead ())) fun paramss_d69a codes_c5bf go_abe9 test_d89f nexts_5faa argss_1e85 =>
      C170 argss_1e85 fun vs_e9be =>
      H140_2 v_0 v_1 v_2 v_3 v_4 v_5 k_6 vs_e9be 0))
theorem eH140_0 {v_0 : List TV} {v_1 : Int} {v_2 : List TV} {v_3 : List TV} {v_4 : List TV} {v_5 : List TV} {k_6 : Int} {v_7 : List TV} {v_8 : Int} {r : Res} (h : S cx 140 (NH140_0 v_0 v_1 v_2 v_3 v_4 v_5 k_6 v_7 v_8) = some r) : S cx 140 (H140_0 v_0 v_1 v_2 v_3 v_4 v_5 k_6 v_7 v_8) = some r :=
  hw_of (fun call hd hb pt rg => by kernel_rfl) h
noncomputable def NH140_1 (v_0 : List TV) (v_1 : Int) (v_2 : List TV) (v_3 : List TV) (v_4 : List TV) (v_5 : List TV) (k_6 : Int) (i_10 : Int) (v_7 : List TV) (v_11 : Int) (v_8 : List TV) (v_9 : Int) : Nd :=
  .bif (decide (v_9 < ((v_8.length : Nat) : Int)))
  (.ck (decide ((0 : Int) ≤ v_9) && decide (v_9 < ((v_8.length : Nat) : Int))) <|
    .int .i64 (v_8.getD (0 + v_9.toNat) (.dead ())) fun x_f50e =>
    C169 v_0 v_1 v_2 v_3 v_4 v_5 x_f50e k_6 i_10 fun v_31a3 =>
    .bif ((!v_31a3))
    (.ret [tb false] [])
    (B140_1 v_0 v_1 v_2 v_3 v_4 v_5 k_6 i_10 v_7 v_11 v_8 (w64 (v_9 + 1))))
  (B140_0 v_0 v_1 v_2 v_3 v_4 v_5 k_6 v_7 (w64 (v_11 + 1)))
theorem eH140_1 {v_0 : List TV} {v_1 : Int} {v_2 : List TV} {v_3 : List TV} {v_4 : List TV} {v_5 : List TV} {k_6 : Int} {i_10 : Int} {v_7 : List TV} {v_11 : Int} {v_8 : List TV} {v_9 : Int} {r : Res} (h : S cx 140 (NH140_1 v_0 v_1 v_2 v_3 v_4 v_5 k_6 i_10 v_7 v_11 v_8 v_9) = some r) : S cx 140 (H140_1 v_0 v_1 v_2 v_3 v_4 v_5 k_6 i_10 v_7 v_11 v_8 v_9) = some r :=
  hw_of (fun call hd hb pt rg => by kernel_rfl) h
noncomputable def NH140_2 (v_0 : List TV) (v_1 : Int) (v_2 : List TV) (v_3 : List TV) (v_4 : List TV) (v_5 : List TV) (k_6 : Int) (v_7 : List TV) (v_8 : Int) : Nd :=
  .bif (decide (v_8 < ((v_7.length : Nat) : Int)))
  (.ck (decide ((0 : Int) ≤ v_8) && decide (v_8 < ((v_7.length : Nat) : Int))) <|
    .int .i64 (v_7.getD (0 + v_8.toNat) (.dead ())) fun x_1fed =>
    V6 (v_0.getD (0 + k_6.toNat) (.dead ())) fun paramss_35fd codes_26bd go_77e9 test_4fa7 nexts_7332 argss_8a82 =>
    C169 v_0 v_1 v_2 v_3 v_4 v_5 x_1fed k_6 ((codes_26bd.length : Nat) : Int) fun v_25f4 =>
    .bif ((!v_25f4))
    (.ret [tb false] [])
    (B140_2 v_0 v_1 v_2 v_3 v_4 v_5 k_6 v_7 (w64 (v_8 + 1))))
  (.ret [tb true] [])
theorem eH140_2 {v_0 : List TV} {v_1 : Int} {v_2 : List TV} {v_3 : List TV} {v_4 : List TV} {v_5 : List TV} {k_6 : Int} {v_7 : List TV} {v_8 : Int} {r : Res} (h : S cx 140 (NH140_2 v_0 v_1 v_2 v_3 v_4 v_5 k_6 v_7 v_8) = some r) : S cx 140 (H140_2 v_0 v_1 v_2 v_3 v_4 v_5 k_6 v_7 v_8) = some r :=
  hw_of (fun call hd hb pt rg => by kernel_rfl) h
noncomputable def EH141_0 (v_0 : List TV) (v_9 : Int) (r_1 : List TV) (r_2 : List TV) (r_3 : List TV) (r_4 : List TV) (r_5 : Int) (r_6 : Int) (r_7 : Int) (r_8 : Int) : Env := [.ref 37 [] none 76 false] ++ uns 9 ++ [w25 v_0, w8 v_0, w6 v_9] ++ uns 24 ++ [w22 r_1 r_2 r_3 r_4 r_5 r_6 r_7 r_8, .un]
noncomputable abbrev H141_0 (v_0 : List TV) (v_9 : Int) (r_1 : List TV) (r_2 : List TV) (r_3 : List TV) (r_4 : List TV) (r_5 : Int) (r_6 : Int) (r_7 : Int) (r_8 : Int) : Nd := .head [1, 0, 1, 2] (EH141_0 v_0 v_9 r_1 r_2 r_3 r_4 r_5 r_6 r_7 r_8)
noncomputable abbrev B141_0 (v_0 : List TV) (v_9 : Int) (r_1 : List TV) (r_2 : List TV) (r_3 : List TV) (r_4 : List TV) (r_5 : Int) (r_6 : Int) (r_7 : Int) (r_8 : Int) : Nd := .back [1, 0, 1, 2] (EH141_0 v_0 v_9 r_1 r_2 r_3 r_4 r_5 r_6 r_7 r_8)
noncomputable def EG141_1 (x_0 : Int) (x_1 : Int) (x_2 : Int) (x_3 : Int) (x_4 : Int) (x_5 : Int) (v_6 : List TV) (v_15 : Int) (r_7 : List TV) (r_8 : List TV) (r_9 : List TV) (r_10 : List TV) (r_11 : Int) (r_12 : Int) (r_13 : Int) (r_14 : Int) : Env := [.ref 37 [] none 76 false, .un, .un, .un, .un, .un, w28 x_0 x_1 x_2 x_3 x_4 x_5, .un, .un, .un, w25 v_6, w8 v_6, w6 v_15] ++ uns 24 ++ [w22 r_7 r_8 r_9 r_10 r_11 r_12 r_13 r_14, .un]
noncomputable abbrev G141_1 (x_0 : Int) (x_1 : Int) (x_2 : Int) (x_3 : Int) (x_4 : Int) (x_5 : Int) (v_6 : List TV) (v_15 : Int) (r_7 : List TV) (r_8 : List TV) (r_9 : List TV) (r_10 : List TV) (r_11 : Int) (r_12 : Int) (r_13 : Int) (r_14 : Int) : Nd := .go [1, 0, 1, 2, 5, 1, 1, 0, 2, 1, 1] (EG141_1 x_0 x_1 x_2 x_3 x_4 x_5 v_6 v_15 r_7 r_8 r_9 r_10 r_11 r_12 r_13 r_14)
noncomputable def N141 (r_0 : List TV) (r_1 : List TV) (r_2 : List TV) (r_3 : List TV) (r_4 : Int) (r_5 : Int) (r_6 : Int) (r_7 : Int) (p_8 : List TV) (p_9 : List TV) (p_10 : Int) (p_11 : Int) (p_12 : List TV) (p_13 : List TV) : Nd :=
  H141_0 p_9 0 r_0 r_1 r_2 r_3 r_4 r_5 r_6 r_7
theorem e141 {r_0 : List TV} {r_1 : List TV} {r_2 : List TV} {r_3 : List TV} {r_4 : Int} {r_5 : Int} {r_6 : Int} {r_7 : Int} {p_8 : List TV} {p_9 : List TV} {p_10 : Int} {p_11 : Int} {p_12 : List TV} {p_13 : List TV} {r : Res} (h : S cx 141 (N141 r_0 r_1 r_2 r_3 r_4 r_5 r_6 r_7 p_8 p_9 p_10 p_11 p_12 p_13) = some r) : tw cx 141 [.pt false () (.st [.st [sl false ⟨1, false⟩ r_0, sl false ⟨1, false⟩ r_1, sl false ⟨1, false⟩ r_2], sl false ⟨1, false⟩ r_3, i64 r_4, i64 r_5, i64 r_6, i64 r_7]), .pt true () (.st [sl true ⟨1, false⟩ p_8, sl true ⟨6, false⟩ p_9, i64 p_10, i64 p_11, sl true ⟨1, false⟩ p_12, sl true ⟨1, true⟩ p_13])] = some r :=
  tw_of (fun call hd hb pt rg => by kernel_rfl) h
noncomputable def NH141_0 (v_0 : List TV) (v_9 : Int) (r_1 : List TV) (r_2 : List TV) (r_3 : List TV) (r_4 : List TV) (r_5 : Int) (r_6 : Int) (r_7 : Int) (r_8 : Int) : Nd :=
  .bif (decide (v_9 < ((v_0.length : Nat) : Int)))
  (.ck (decide ((0 : Int) ≤ v_9) && decide (v_9 < ((v_0.length : Nat) : Int))) <|
    V6_1 (v_0.getD (0 + v_9.toNat) (.dead ())) fun op_1591 do_60bc dst_e93f a_7a69 b_9b39 n_2283 =>
    .bif ((op_1591 == 3))
    (G141_1 op_1591 do_60bc dst_e93f a_7a69 b_9b39 n_2283 v_0 v_9 r_1 r_2 r_3 r_4 r_5 r_6 r_7 (w64 (r_8 + 1)))
    (G141_1 op_1591 do_60bc dst_e93f a_7a69 b_9b39 n_2283 v_0 v_9 r_1 r_2 r_3 r_4 r_5 r_6 r_7 r_8))
  (.ret [tb true] [.pt false () (.st [.st [sl false ⟨1, false⟩ r_1, sl false ⟨1, false⟩ r_2, sl false ⟨1, false⟩ r_3], sl false ⟨1, false⟩ r_4, i64 r_5, i64 r_6, i64 r_7, i64 r_8])])
theorem eH141_0 {v_0 : List TV} {v_9 : Int} {r_1 : List TV} {r_2 : List TV} {r_3 : List TV} {r_4 : List TV} {r_5 : Int} {r_6 : Int} {r_7 : Int} {r_8 : Int} {r : Res} (h : S cx 141 (NH141_0 v_0 v_9 r_1 r_2 r_3 r_4 r_5 r_6 r_7 r_8) = some r) : S cx 141 (H141_0 v_0 v_9 r_1 r_2 r_3 r_4 r_5 r_6 r_7 r_8) = some r :=
  hw_of (fun call hd hb pt rg => by kernel_rfl) h
noncomputable def NG141_1 (x_0 : Int) (x_1 : Int) (x_2 : Int) (x_3 : Int) (x_4 : Int) (x_5 : Int) (v_6 : List TV) (v_15 : Int) (r_7 : List TV) (r_8 : List TV) (r_9 : List TV) (r_10 : List TV) (r_11 : Int) (r_12 : Int) (r_13 : Int) (r_14 : Int) : Nd :=
  .bif ((x_0 == 1))
  (.ck (decide ((0 : Int) ≤ x_2) && decide (x_2 < ((r_10.length : Nat) : Int))) <|
    B141_0 v_6 (w64 (v_15 + 1)) r_7 r_8 r_9 (r_10.set (0 + x_2.toNat) (i64 x_5)) r_11 r_12 r_13 r_14)
  (.bif ((x_0 == 2))
    (.ck (decide ((0 : Int) ≤ x_3) && decide (x_3 < ((r_10.length : Nat) : Int))) <|
      .int .i64 (r_10.getD (0 + x_3.toNat) (.dead ())) fun x_8f37 =>
      .ck (decide ((0 : Int) ≤ x_2) && decide (x_2 < ((r_10.length : Nat) : Int))) <|
      B141_0 v_6 (w64 (v_15 + 1)) r_7 r_8 r_9 (r_10.set (0 + x_2.toNat) (i64 x_8f37)) r_11 r_12 r_13 r_14)
    (.bif ((x_0 == 3))
      (.ck (decide ((0 : Int) ≤ x_3) && decide (x_3 < ((r_10.length : Nat) : Int))) <|
        .int .i64 (r_10.getD (0 + x_3.toNat) (.dead ())) fun x_8f37 =>
        .ck (decide ((0 : Int) ≤ x_4) && decide (x_4 < ((r_10.length : Nat) : Int))) <|
        .int .i64 (r_10.getD (0 + x_4.toNat) (.dead ())) fun x_a1e8 =>
        C107 x_1 x_8f37 x_a1e8 fun v_e064 v_b14c =>
        .bif (v_b14c)
        (.ck (decide ((0 : Int) ≤ x_2) && decide (x_2 < ((r_10.length : Nat) : Int))) <|
          .bif ((!v_b14c))
          (.ret [tb false] [.pt false () (.st [.st [sl false ⟨1, false⟩ r_7, sl false ⟨1, false⟩ r_8, sl false ⟨1, false⟩ r_9], sl false ⟨1, false⟩ (r_10.set (0 + x_2.toNat) (i64 v_e064)), i64 r_11, i64 r_12, i64 r_13, i64 r_14])])
          (B141_0 v_6 (w64 (v_15 + 1)) r_7 r_8 r_9 (r_10.set (0 + x_2.toNat) (i64 v_e064)) r_11 r_12 r_13 r_14))
        (.bif ((!v_b14c))
          (.ret [tb false] [.pt false () (.st [.st [sl false ⟨1, false⟩ r_7, sl false ⟨1, false⟩ r_8, sl false ⟨1, false⟩ r_9], sl false ⟨1, false⟩ r_10, i64 r_11, i64 r_12, i64 r_13, i64 r_14])])
          (B141_0 v_6 (w64 (v_15 + 1)) r_7 r_8 r_9 r_10 r_11 r_12 r_13 r_14)))
      (.bif ((x_0 == 4))
        (.ck (decide ((0 : Int) ≤ x_3) && decide (x_3 < ((r_10.length : Nat) : Int))) <|
          .int .i64 (r_10.getD (0 + x_3.toNat) (.dead ())) fun x_8f37 =>
          C108 r_7 r_8 r_9 x_8f37 fun v_87b1 v_a99b =>
          .bif (v_a99b)
          (.ck (decide ((0 : Int) ≤ x_2) && decide (x_2 < ((r_10.length : Nat) : Int))) <|
            .bif ((!v_a99b))
            (.ret [tb false] [.pt false () (.st [.st [sl false ⟨1, false⟩ r_7, sl false ⟨1, false⟩ r_8, sl false ⟨1, false⟩ r_9], sl false ⟨1, false⟩ (r_10.set (0 + x_2.toNat) (i64 v_87b1)), i64 r_11, i64 r_12, i64 r_13, i64 r_14])])
            (B141_0 v_6 (w64 (v_15 + 1)) r_7 r_8 r_9 (r_10.set (0 + x_2.toNat) (i64 v_87b1)) r_11 r_12 r_13 r_14))
          (.bif ((!v_a99b))
            (.ret [tb false] [.pt false () (.st [.st [sl false ⟨1, false⟩ r_7, sl false ⟨1, false⟩ r_8, sl false ⟨1, false⟩ r_9], sl false ⟨1, false⟩ r_10, i64 r_11, i64 r_12, i64 r_13, i64 r_14])])
            (B141_0 v_6 (w64 (v_15 + 1)) r_7 r_8 r_9 r_10 r_11 r_12 r_13 r_14)))
        (.bif ((x_0 == 5))
          (.ck (decide ((0 : Int) ≤ x_3) && decide (x_3 < ((r_10.length : Nat) : Int))) <|
            .int .i64 (r_10.getD (0 + x_3.toNat) (.dead ())) fun x_8f37 =>
            .ck (decide ((0 : Int) ≤ x_4) && decide (x_4 < ((r_10.length : Nat) : Int))) <|
            .int .i64 (r_10.getD (0 + x_4.toNat) (.dead ())) fun x_a1e8 =>
            .bif (decide (x_8f37 ≥ 16))
            (.ret [tb false] [.pt false () (.st [.st [sl false ⟨1, false⟩ r_7, sl false ⟨1, false⟩ r_8, sl false ⟨1, false⟩ r_9], sl false ⟨1, false⟩ r_10, i64 r_11, i64 r_12, i64 r_13, i64 r_14])])
            (.ck (decide ((0 : Int) ≤ x_8f37) && decide (x_8f37 < ((r_8.length : Nat) : Int))) <|
              B141_0 v_6 (w64 (v_15 + 1)) r_7 (r_8.set (0 + x_8f37.toNat) (i64 x_a1e8)) r_9 r_10 r_11 r_12 r_13 r_14))
          (.ck (decide ((0 : Int) ≤ x_3) && decide (x_3 < ((r_10.length : Nat) : Int))) <|
            .int .i64 (r_10.getD (0 + x_3.toNat) (.dead ())) fun x_8f37 =>
            .bif ((((r_9.length : Nat) : Int) == 100))
            (.ret [tb false] [.pt false () (.st [.st [sl false ⟨1, false⟩ r_7, sl false ⟨1, false⟩ r_8, sl false ⟨1, false⟩ r_9], sl false ⟨1, false⟩ r_10, i64 r_11, i64 r_12, i64 r_13, i64 r_14])])
            (.ck (decide ((r_9.length + ([i64 x_8f37] : List TV).length) * 8 < lim)) <|
              B141_0 v_6 (w64 (v_15 + 1)) r_7 r_8 (r_9 ++ ([i64 x_8f37])) r_10 r_11 r_12 r_13 r_14))))))
theorem eG141_1 {x_0 : Int} {x_1 : Int} {x_2 : Int} {x_3 : Int} {x_4 : Int} {x_5 : Int} {v_6 : List TV} {v_15 : Int} {r_7 : List TV} {r_8 : List TV} {r_9 : List TV} {r_10 : List TV} {r_11 : Int} {r_12 : Int} {r_13 : Int} {r_14 : Int} {r : Res} (h : S cx 141 (NG141_1 x_0 x_1 x_2 x_3 x_4 x_5 v_6 v_15 r_7 r_8 r_9 r_10 r_11 r_12 r_13 r_14) = some r) : S cx 141 (G141_1 x_0 x_1 x_2 x_3 x_4 x_5 v_6 v_15 r_7 r_8 r_9 r_10 r_11 r_12 r_13 r_14) = some r :=
  pw_of (fun call hd hb pt rg => by kernel_rfl) h
noncomputable def N142_s0 (r_0 : List TV) (r_1 : List TV) (r_2 : List TV) (r_3 : List TV) (r_5 : Int) (r_6 : Int) (r_7 : Int) (xs_dd10 : List TV) : Nd :=
  C171 r_0 r_1 r_2 r_3 1 r_5 r_6 r_7 xs_dd10 fun vs_336d =>
  .ret [i64 0, sl false ⟨1, false⟩ ([])] [.pt false () (.st [.st [sl false ⟨1, false⟩ (cpyT r_0 vs_336d), sl false ⟨1, false⟩ r_1, sl false ⟨1, false⟩ r_2], sl false ⟨1, false⟩ r_3, i64 1, i64 r_5, i64 r_6, i64 r_7])]
noncomputable def N142 (r_0 : List TV) (r_1 : List TV) (r_2 : List TV) (r_3 : List TV) (r_4 : Int) (r_5 : Int) (r_6 : Int) (r_7 : Int) (p_8 : List TV) (p_9 : List TV) (p_10 : Int) (p_11 : Int) (p_12 : List TV) (p_13 : List TV) : Nd :=
  .bif ((p_10 == 3))
  (.ck (decide ((0 : Int) < ((p_13.length : Nat) : Int))) <|
    .slR ⟨1, false⟩ (p_13.getD 0 (.dead ())) fun xs_dd10 =>
    .amb2 
    (N142_s0 r_0 r_1 r_2 r_3 r_5 r_6 r_7 xs_dd10) 
    (N142_s0 r_0 r_1 r_2 r_3 r_5 r_6 r_7 xs_dd10))
  (.bif ((p_10 == 4))
    (.ret [i64 0, sl false ⟨1, false⟩ ([])] [.pt false () (.st [.st [sl false ⟨1, false⟩ r_0, sl false ⟨1, false⟩ r_1, sl false ⟨1, false⟩ r_2], sl false ⟨1, false⟩ r_3, i64 2, i64 r_5, i64 r_6, i64 r_7])])
    (.ck (decide ((0 : Int) ≤ p_11) && decide (p_11 < ((r_3.length : Nat) : Int))) <|
      .int .i64 (r_3.getD (0 + p_11.toNat) (.dead ())) fun x_60e4 =>
      C60 p_10 x_60e4 ((p_12.length : Nat) : Int) fun v_5dbc =>
      .ck (decide ((0 : Int) ≤ v_5dbc) && decide (v_5dbc < ((p_13.length : Nat) : Int))) <|
      .slR ⟨1, false⟩ (p_13.getD (0 + v_5dbc.toNat) (.dead ())) fun xs_0549 =>
      .amb2 
      (.ck (decide ((0 : Int) ≤ v_5dbc) && decide (v_5dbc < ((p_12.length : Nat) : Int))) <|
        .amb2 
        (.int .i64 (p_12.getD (0 + v_5dbc.toNat) (.dead ())) fun x_e7d5 =>
          C171 r_0 r_1 r_2 r_3 r_4 r_5 r_6 r_7 xs_0549 fun vs_b0f3 =>
          .ret [i64 x_e7d5, sl false ⟨1, false⟩ vs_b0f3] [.pt false () (.st [.st [sl false ⟨1, false⟩ r_0, sl false ⟨1, false⟩ r_1, sl false ⟨1, false⟩ r_2], sl false ⟨1, false⟩ r_3, i64 r_4, i64 r_5, i64 r_6, i64 r_7])]) 
        (C171 r_0 r_1 r_2 r_3 r_4 r_5 r_6 r_7 xs_0549 fun vs_b0f3 =>
          .int .i64 (p_12.getD (0 + v_5dbc.toNat) (.dead ())) fun x_e7d5 =>
          .ret [i64 x_e7d5, sl false ⟨1, false⟩ vs_b0f3] [.pt false () (.st [.st [sl false ⟨1, false⟩ r_0, sl false ⟨1, false⟩ r_1, sl false ⟨1, false⟩ r_2], sl false ⟨1, false⟩ r_3, i64 r_4, i64 r_5, i64 r_6, i64 r_7])])) 
      (C171 r_0 r_1 r_2 r_3 r_4 r_5 r_6 r_7 xs_0549 fun vs_b0f3 =>
        .ck (decide ((0 : Int) ≤ v_5dbc) && decide (v_5dbc < ((p_12.length : Nat) : Int))) <|
        .int .i64 (p_12.getD (0 + v_5dbc.toNat) (.dead ())) fun x_e7d5 =>
        .ret [i64 x_e7d5, sl false ⟨1, false⟩ vs_b0f3] [.pt false () (.st [.st [sl false ⟨1, false⟩ r_0, sl false ⟨1, false⟩ r_1, sl false ⟨1, false⟩ r_2], sl false ⟨1, false⟩ r_3, i64 r_4, i64 r_5, i64 r_6, i64 r_7])])))
theorem e142 {r_0 : List TV} {r_1 : List TV} {r_2 : List TV} {r_3 : List TV} {r_4 : Int} {r_5 : Int} {r_6 : Int} {r_7 : Int} {p_8 : List TV} {p_9 : List TV} {p_10 : Int} {p_11 : Int} {p_12 : List TV} {p_13 : List TV} {r : Res} (h : S cx 142 (N142 r_0 r_1 r_2 r_3 r_4 r_5 r_6 r_7 p_8 p_9 p_10 p_11 p_12 p_13) = some r) : tw cx 142 [.pt false () (.st [.st [sl false ⟨1, false⟩ r_0, sl false ⟨1, false⟩ r_1, sl false ⟨1, false⟩ r_2], sl false ⟨1, false⟩ r_3, i64 r_4, i64 r_5, i64 r_6, i64 r_7]), .pt true () (.st [sl true ⟨1, false⟩ p_8, sl true ⟨6, false⟩ p_9, i64 p_10, i64 p_11, sl true ⟨1, false⟩ p_12, sl true ⟨1, true⟩ p_13])] = some r :=
  tw_of (fun call hd hb pt rg => by kernel_rfl) h
noncomputable def EH143_0 (a_0 : List TV) (b_1 : List TV) (i_2 : Int) : Env := [w25 a_0, w25 b_1, .un, .un, .un, w6 i_2] ++ uns 23
noncomputable abbrev H143_0 (a_0 : List TV) (b_1 : List TV) (i_2 : Int) : Nd := .head [1, 1, 0, 1, 2] (EH143_0 a_0 b_1 i_2)
noncomputable abbrev B143_0 (a_0 : List TV) (b_1 : List TV) (i_2 : Int) : Nd := .back [1, 1, 0, 1, 2] (EH143_0 a_0 b_1 i_2)
noncomputable def N143 (a_0 : List TV) (b_1 : List TV) : Nd :=
  .bif ((((a_0.length : Nat) : Int) != ((b_1.length : Nat) : Int)))
  (.ret [tb false] [])
  (H143_0 a_0 b_1 0)
theorem e143 {a_0 : List TV} {b_1 : List TV} {r : Res} (h : S cx 143 (N143 a_0 b_1) = some r) : tw cx 143 [sl true ⟨6, false⟩ a_0, sl true ⟨6, false⟩ b_1] = some r :=
  tw_of (fun call hd hb pt rg => by kernel_rfl) h
noncomputable def NH143_0 (a_0 : List TV) (b_1 : List TV) (i_2 : Int) : Nd :=
  .bif (decide (i_2 < ((a_0.length : Nat) : Int)))
  (.ck (decide ((0 : Int) ≤ i_2) && decide (i_2 < ((a_0.length : Nat) : Int))) <|
    V6_1 (a_0.getD (0 + i_2.toNat) (.dead ())) fun op_e85d do_3fec dst_ffe3 a_68fc b_0250 n_1558 =>
    .ck (decide ((0 : Int) ≤ i_2) && decide (i_2 < ((b_1.length : Nat) : Int))) <|
    V6_1 (b_1.getD (0 + i_2.toNat) (.dead ())) fun op_001b do_4771 dst_5278 a_3e66 b_9cad n_8b0d =>
    C172 op_e85d do_3fec dst_ffe3 a_68fc b_0250 n_1558 op_001b do_4771 dst_5278 a_3e66 b_9cad n_8b0d fun v_18c6 =>
    .bif ((!v_18c6))
    (.ret [tb false] [])
    (B143_0 a_0 b_1 (w64 (i_2 + 1))))
  (.ret [tb true] [])
theorem eH143_0 {a_0 : List TV} {b_1 : List TV} {i_2 : Int} {r : Res} (h : S cx 143 (NH143_0 a_0 b_1 i_2) = some r) : S cx 143 (H143_0 a_0 b_1 i_2) = some r :=
  hw_of (fun call hd hb pt rg => by kernel_rfl) h
noncomputable def EH144_0 (a_0 : List TV) (b_1 : List TV) (i_2 : Int) : Env := [w26 a_0, w26 b_1, .un, .un, .un, w6 i_2] ++ uns 23
noncomputable abbrev H144_0 (a_0 : List TV) (b_1 : List TV) (i_2 : Int) : Nd := .head [1, 1, 0, 1, 2] (EH144_0 a_0 b_1 i_2)
noncomputable abbrev B144_0 (a_0 : List TV) (b_1 : List TV) (i_2 : Int) : Nd := .back [1, 1, 0, 1, 2] (EH144_0 a_0 b_1 i_2)
noncomputable def N144 (a_0 : List TV) (b_1 : List TV) : Nd :=
  .bif ((((a_0.length : Nat) : Int) != ((b_1.length : Nat) : Int)))
  (.ret [tb false] [])
  (H144_0 a_0 b_1 0)
theorem e144 {a_0 : List TV} {b_1 : List TV} {r : Res} (h : S cx 144 (N144 a_0 b_1) = some r) : tw cx 144 [sl true ⟨1, true⟩ a_0, sl true ⟨1, true⟩ b_1] = some r :=
  tw_of (fun call hd hb pt rg => by kernel_rfl) h
noncomputable def NH144_0 (a_0 : List TV) (b_1 : List TV) (i_2 : Int) : Nd :=
  .bif (decide (i_2 < ((a_0.length : Nat) : Int)))
  (.ck (decide ((0 : Int) ≤ i_2) && decide (i_2 < ((a_0.length : Nat) : Int))) <|
    .slR ⟨1, false⟩ (a_0.getD (0 + i_2.toNat) (.dead ())) fun xs_c216 =>
    .ck (decide ((0 : Int) ≤ i_2) && decide (i_2 < ((b_1.length : Nat) : Int))) <|
    .slR ⟨1, false⟩ (b_1.getD (0 + i_2.toNat) (.dead ())) fun xs_0c92 =>
    C17 xs_c216 xs_0c92 fun v_5eb2 =>
    .bif ((!v_5eb2))
    (.ret [tb false] [])
    (B144_0 a_0 b_1 (w64 (i_2 + 1))))
  (.ret [tb true] [])
theorem eH144_0 {a_0 : List TV} {b_1 : List TV} {i_2 : Int} {r : Res} (h : S cx 144 (NH144_0 a_0 b_1 i_2) = some r) : S cx 144 (H144_0 a_0 b_1 i_2) = some r :=
  hw_of (fun call hd hb pt rg => by kernel_rfl) h
noncomputable def N152 (n_0 : Int) : Nd :=
  C153 n_0 fun v_1593 =>
  .ret [tb (!v_1593)] []
theorem e152 {n_0 : Int} {r : Res} (h : S cx 152 (N152 n_0) = some r) : tw cx 152 [i64 n_0] = some r :=
  tw_of (fun call hd hb pt rg => by kernel_rfl) h
noncomputable def N153 (n_0 : Int) : Nd :=
  C57 n_0 0 65535 fun v_078b =>
  .ret [tb v_078b] []
theorem e153 {n_0 : Int} {r : Res} (h : S cx 153 (N153 n_0) = some r) : tw cx 153 [i64 n_0] = some r :=
  tw_of (fun call hd hb pt rg => by kernel_rfl) h
noncomputable def N154 (n_0 : Int) : Nd :=
  C80 n_0 0 11 fun v_306a =>
  .ret [tb v_306a] []
theorem e154 {n_0 : Int} {r : Res} (h : S cx 154 (N154 n_0) = some r) : tw cx 154 [i64 n_0] = some r :=
  tw_of (fun call hd hb pt rg => by kernel_rfl) h
noncomputable def N155 (x_0 : Int) (y_1 : Int) : Nd :=
  C184 x_0 y_1 fun v_ec38 v_2a55 =>
  .ret [.fl (.int .u64 v_ec38), .fl (.int .u64 v_2a55)] []
theorem e155 {x_0 : Int} {y_1 : Int} {r : Res} (h : S cx 155 (N155 x_0 y_1) = some r) : tw cx 155 [.fl (.int .u64 x_0), .fl (.int .u64 y_1)] = some r :=
  tw_of (fun call hd hb pt rg => by kernel_rfl) h
noncomputable def EH157_0 (s_0 : List TV) (v_1 : Int) (v_2 : Int) : Env := [w3 s_0, w6 v_1, .un, .un, .un, .un, .un, w8 s_0, w6 v_2] ++ uns 12
noncomputable abbrev H157_0 (s_0 : List TV) (v_1 : Int) (v_2 : Int) : Nd := .head [1, 0, 1, 2] (EH157_0 s_0 v_1 v_2)
noncomputable abbrev B157_0 (s_0 : List TV) (v_1 : Int) (v_2 : Int) : Nd := .back [1, 0, 1, 2] (EH157_0 s_0 v_1 v_2)
noncomputable def N157 (s_0 : List TV) (v_1 : Int) : Nd :=
  H157_0 s_0 v_1 0
theorem e157 {s_0 : List TV} {v_1 : Int} {r : Res} (h : S cx 157 (N157 s_0 v_1) = some r) : tw cx 157 [sl true ⟨1, false⟩ s_0, i64 v_1] = some r :=
  tw_of (fun call hd hb pt rg => by kernel_rfl) h
noncomputable def NH157_0 (s_0 : List TV) (v_1 : Int) (v_2 : Int) : Nd :=
  .bif (decide (v_2 < ((s_0.length : Nat) : Int)))
  (.ck (decide ((0 : Int) ≤ v_2) && decide (v_2 < ((s_0.length : Nat) : Int))) <|
    .int .i64 (s_0.getD (0 + v_2.toNat) (.dead ())) fun x_5429 =>
    .bif ((v_1 == x_5429))
    (.ret [i64 v_2] [])
    (B157_0 s_0 v_1 (w64 (v_2 + 1))))
  (.ret [i64 (-1)] [])
theorem eH157_0 {s_0 : List TV} {v_1 : Int} {v_2 : Int} {r : Res} (h : S cx 157 (NH157_0 s_0 v_1 v_2) = some r) : S cx 157 (H157_0 s_0 v_1 v_2) = some r :=
  hw_of (fun call hd hb pt rg => by kernel_rfl) h
noncomputable def EH158_0 (s_0 : List TV) (f_1 : Int) (v_2 : Int) : Env := [w25 s_0, .val [] (.cl 123 [.pt true () (i64 f_1)]), .un, .un, .un, .un, .un, w8 s_0, w6 v_2] ++ uns 12
noncomputable abbrev H158_0 (s_0 : List TV) (f_1 : Int) (v_2 : Int) : Nd := .head [1, 0, 1, 2] (EH158_0 s_0 f_1 v_2)
noncomputable abbrev B158_0 (s_0 : List TV) (f_1 : Int) (v_2 : Int) : Nd := .back [1, 0, 1, 2] (EH158_0 s_0 f_1 v_2)
noncomputable def N158 (s_0 : List TV) (f_1 : Int) : Nd :=
  H158_0 s_0 f_1 0
theorem e158 {s_0 : List TV} {f_1 : Int} {r : Res} (h : S cx 158 (N158 s_0 f_1) = some r) : tw cx 158 [sl true ⟨6, false⟩ s_0, .cl 123 [.pt true () (i64 f_1)]] = some r :=
  tw_of (fun call hd hb pt rg => by kernel_rfl) h
noncomputable def NH158_0 (s_0 : List TV) (f_1 : Int) (v_2 : Int) : Nd :=
  .bif (decide (v_2 < ((s_0.length : Nat) : Int)))
  (.ck (decide ((0 : Int) ≤ v_2) && decide (v_2 < ((s_0.length : Nat) : Int))) <|
    V6_1 (s_0.getD (0 + v_2.toNat) (.dead ())) fun op_5762 do_2a6b dst_68ab a_50bf b_9d57 n_7666 =>
    C123 op_5762 do_2a6b dst_68ab a_50bf b_9d57 n_7666 f_1 fun v_658e =>
    .bif (v_658e)
    (.ret [i64 v_2] [])
    (B158_0 s_0 f_1 (w64 (v_2 + 1))))
  (.ret [i64 (-1)] [])
theorem eH158_0 {s_0 : List TV} {f_1 : Int} {v_2 : Int} {r : Res} (h : S cx 158 (NH158_0 s_0 f_1 v_2) = some r) : S cx 158 (H158_0 s_0 f_1 v_2) = some r :=
  hw_of (fun call hd hb pt rg => by kernel_rfl) h
noncomputable def EG159_0 (v_0 : Int) (v_1 : Bool) : Env := [.un, .un, .val [] (.pt false () (.st [tb false, tb false, tb false, tb false, tb false])), .un, w6 v_0, .un, .un, .un, .val [] (tb v_1)] ++ uns 14
noncomputable abbrev G159_0 (v_0 : Int) (v_1 : Bool) : Nd := .go [1, 0, 1, 2, 1, 4, 1] (EG159_0 v_0 v_1)
noncomputable def N159 (op_0 : Int) : Nd :=
  .bif ((op_0 == 1))
  (.ret [.st [tb true, tb false, tb false, tb true, tb false], tb true] [])
  (.bif ((op_0 == 2))
    (G159_0 op_0 (op_0 == 2))
    (G159_0 op_0 (op_0 == 4)))
theorem e159 {op_0 : Int} {r : Res} (h : S cx 159 (N159 op_0) = some r) : tw cx 159 [i64 op_0] = some r :=
  tw_of (fun call hd hb pt rg => by kernel_rfl) h
noncomputable def NG159_0 (v_0 : Int) (v_1 : Bool) : Nd :=
  .bif (v_1)
  (.ret [.st [tb true, tb true, tb false, tb false, tb false], tb true] [])
  (.bif ((v_0 == 3))
    (.ret [.st [tb true, tb true, tb true, tb false, tb true], tb true] [])
    (.bif ((v_0 == 5))
      (.ret [.st [tb false, tb true, tb true, tb false, tb false], tb true] [])
      (.bif ((v_0 == 6))
        (.ret [.st [tb false, tb true, tb false, tb false, tb false], tb true] [])
        (.ret [.st [tb false, tb false, tb false, tb false, tb false], tb false] []))))
theorem eG159_0 {v_0 : Int} {v_1 : Bool} {r : Res} (h : S cx 159 (NG159_0 v_0 v_1) = some r) : S cx 159 (G159_0 v_0 v_1) = some r :=
  pw_of (fun call hd hb pt rg => by kernel_rfl) h
noncomputable def N160_s0 (has_0 : Bool) (n_1 : Int) (v_2 : Int) : Nd :=
  .bif (has_0)
  (C57 n_1 0 (w64 (v_2 - 1)) fun v_8803 =>
    .ret [tb v_8803] [])
  (.ret [tb false] [])
noncomputable def N160 (has_0 : Bool) (n_1 : Int) (v_2 : Int) : Nd :=
  .bif ((!has_0))
  (.bif ((n_1 == 0))
    (.ret [tb true] [])
    (N160_s0 has_0 n_1 v_2))
  (N160_s0 has_0 n_1 v_2)
theorem e160 {has_0 : Bool} {n_1 : Int} {v_2 : Int} {r : Res} (h : S cx 160 (N160 has_0 n_1 v_2) = some r) : tw cx 160 [tb has_0, i64 n_1, .pt true () (i64 v_2)] = some r :=
  tw_of (fun call hd hb pt rg => by kernel_rfl) h
noncomputable def N161 (op_0 : Int) : Nd :=
  C57 op_0 4 9 fun v_6e2c =>
  .ret [tb v_6e2c] []
theorem e161 {op_0 : Int} {r : Res} (h : S cx 161 (N161 op_0) = some r) : tw cx 161 [i64 op_0] = some r :=
  tw_of (fun call hd hb pt rg => by kernel_rfl) h
noncomputable def EH162_0 (s_0 : List TV) (v_1 : Int) : Env := [w3 s_0, .val [] (.cl 152 []), .un, .un, .un, .un, .un, w8 s_0, w6 v_1] ++ uns 12
noncomputable abbrev H162_0 (s_0 : List TV) (v_1 : Int) : Nd := .head [1, 0, 1, 2] (EH162_0 s_0 v_1)
noncomputable abbrev B162_0 (s_0 : List TV) (v_1 : Int) : Nd := .back [1, 0, 1, 2] (EH162_0 s_0 v_1)
noncomputable def N162 (s_0 : List TV) : Nd :=
  H162_0 s_0 0
theorem e162 {s_0 : List TV} {r : Res} (h : S cx 162 (N162 s_0) = some r) : tw cx 162 [sl true ⟨1, false⟩ s_0, .cl 152 []] = some r :=
  tw_of (fun call hd hb pt rg => by kernel_rfl) h
noncomputable def NH162_0 (s_0 : List TV) (v_1 : Int) : Nd :=
  .bif (decide (v_1 < ((s_0.length : Nat) : Int)))
  (.ck (decide ((0 : Int) ≤ v_1) && decide (v_1 < ((s_0.length : Nat) : Int))) <|
    .int .i64 (s_0.getD (0 + v_1.toNat) (.dead ())) fun x_ad5c =>
    C152 x_ad5c fun v_95f4 =>
    .bif (v_95f4)
    (.ret [i64 v_1] [])
    (B162_0 s_0 (w64 (v_1 + 1))))
  (.ret [i64 (-1)] [])
theorem eH162_0 {s_0 : List TV} {v_1 : Int} {r : Res} (h : S cx 162 (NH162_0 s_0 v_1) = some r) : S cx 162 (H162_0 s_0 v_1) = some r :=
  hw_of (fun call hd hb pt rg => by kernel_rfl) h
noncomputable def EH162_b_0 (s_0 : List TV) (f_1 : Int) (v_2 : Int) : Env := [w3 s_0, .val [] (.cl 127 [.pt true () (i64 f_1)]), .un, .un, .un, .un, .un, w8 s_0, w6 v_2] ++ uns 12
noncomputable abbrev H162_b_0 (s_0 : List TV) (f_1 : Int) (v_2 : Int) : Nd := .head [1, 0, 1, 2] (EH162_b_0 s_0 f_1 v_2)
noncomputable abbrev B162_b_0 (s_0 : List TV) (f_1 : Int) (v_2 : Int) : Nd := .back [1, 0, 1, 2] (EH162_b_0 s_0 f_1 v_2)
noncomputable def N162b (s_0 : List TV) (f_1 : Int) : Nd :=
  H162_b_0 s_0 f_1 0
theorem e162b {s_0 : List TV} {f_1 : Int} {r : Res} (h : S cx 162 (N162b s_0 f_1) = some r) : tw cx 162 [sl true ⟨1, false⟩ s_0, .cl 127 [.pt true () (i64 f_1)]] = some r :=
  tw_of (fun call hd hb pt rg => by kernel_rfl) h
noncomputable def NH162_b_0 (s_0 : List TV) (f_1 : Int) (v_2 : Int) : Nd :=
  .bif (decide (v_2 < ((s_0.length : Nat) : Int)))
  (.ck (decide ((0 : Int) ≤ v_2) && decide (v_2 < ((s_0.length : Nat) : Int))) <|
    .int .i64 (s_0.getD (0 + v_2.toNat) (.dead ())) fun x_5429 =>
    C127 x_5429 f_1 fun v_1491 =>
    .bif (v_1491)
    (.ret [i64 v_2] [])
    (B162_b_0 s_0 f_1 (w64 (v_2 + 1))))
  (.ret [i64 (-1)] [])
theorem eH162_b_0 {s_0 : List TV} {f_1 : Int} {v_2 : Int} {r : Res} (h : S cx 162 (NH162_b_0 s_0 f_1 v_2) = some r) : S cx 162 (H162_b_0 s_0 f_1 v_2) = some r :=
  hw_of (fun call hd hb pt rg => by kernel_rfl) h
noncomputable def N163 (a_0 : Int) (a_1 : Int) (a_2 : Int) (a_3 : Int) (a_4 : Int) (a_5 : Int) : Nd :=
  .ret [.st [i64 a_0, i64 a_1, i64 a_2, i64 a_3, i64 a_4, i64 a_5]] []
theorem e163 {a_0 : Int} {a_1 : Int} {a_2 : Int} {a_3 : Int} {a_4 : Int} {a_5 : Int} {r : Res} (h : S cx 163 (N163 a_0 a_1 a_2 a_3 a_4 a_5) = some r) : tw cx 163 [.st [i64 a_0, i64 a_1, i64 a_2, i64 a_3, i64 a_4, i64 a_5]] = some r :=
  tw_of (fun call hd hb pt rg => by kernel_rfl) h
noncomputable def EH164_0 (v_0 : List TV) (v_1 : Int) (v_2 : List TV) (v_3 : List TV) (v_4 : List TV) (v_5 : List TV) (p_6 : List TV) (p_7 : List TV) (p_8 : Int) (p_9 : Int) (p_10 : List TV) (p_11 : List TV) (v_12 : Int) : Env := [w13 v_0 v_1 v_2 v_3 v_4 v_5, .val [] (.pt true () (.st [sl true ⟨1, false⟩ p_6, sl true ⟨6, false⟩ p_7, i64 p_8, i64 p_9, sl true ⟨1, false⟩ p_10, sl true ⟨1, true⟩ p_11]))] ++ uns 40 ++ [w3 p_10, w8 p_10, w6 v_12] ++ uns 26
noncomputable abbrev H164_0 (v_0 : List TV) (v_1 : Int) (v_2 : List TV) (v_3 : List TV) (v_4 : List TV) (v_5 : List TV) (p_6 : List TV) (p_7 : List TV) (p_8 : Int) (p_9 : Int) (p_10 : List TV) (p_11 : List TV) (v_12 : Int) : Nd := .head [1, 1, 1, 0, 1, 2] (EH164_0 v_0 v_1 v_2 v_3 v_4 v_5 p_6 p_7 p_8 p_9 p_10 p_11 v_12)
noncomputable abbrev B164_0 (v_0 : List TV) (v_1 : Int) (v_2 : List TV) (v_3 : List TV) (v_4 : List TV) (v_5 : List TV) (p_6 : List TV) (p_7 : List TV) (p_8 : Int) (p_9 : Int) (p_10 : List TV) (p_11 : List TV) (v_12 : Int) : Nd := .back [1, 1, 1, 0, 1, 2] (EH164_0 v_0 v_1 v_2 v_3 v_4 v_5 p_6 p_7 p_8 p_9 p_10 p_11 v_12)
noncomputable def N164 (v_0 : List TV) (v_1 : Int) (v_2 : List TV) (v_3 : List TV) (v_4 : List TV) (v_5 : List TV) (p_6 : List TV) (p_7 : List TV) (p_8 : Int) (p_9 : Int) (p_10 : List TV) (p_11 : List TV) : Nd :=
  .bif ((p_8 == 3))
  (.bif ((((p_11.length : Nat) : Int) == 1))
    (.ck (decide ((0 : Int) < ((p_11.length : Nat) : Int))) <|
      .slR ⟨1, false⟩ (p_11.getD 0 (.dead ())) fun xs_725c =>
      .ret [tb (((xs_725c.length : Nat) : Int) == 3)] [])
    (.ret [tb false] []))
  (.bif ((((p_11.length : Nat) : Int) != ((p_10.length : Nat) : Int)))
    (.ret [tb false] [])
    (H164_0 v_0 v_1 v_2 v_3 v_4 v_5 p_6 p_7 p_8 p_9 p_10 p_11 0))
theorem e164 {v_0 : List TV} {v_1 : Int} {v_2 : List TV} {v_3 : List TV} {v_4 : List TV} {v_5 : List TV} {p_6 : List TV} {p_7 : List TV} {p_8 : Int} {p_9 : Int} {p_10 : List TV} {p_11 : List TV} {r : Res} (h : S cx 164 (N164 v_0 v_1 v_2 v_3 v_4 v_5 p_6 p_7 p_8 p_9 p_10 p_11) = some r) : tw cx 164 [.pt true () (.st [.st [sl true ⟨6, true⟩ v_0, i64 v_1], sl false ⟨1, true⟩ v_2, sl false ⟨1, true⟩ v_3, sl false ⟨1, false⟩ v_4, sl false ⟨1, false⟩ v_5]), .pt true () (.st [sl true ⟨1, false⟩ p_6, sl true ⟨6, false⟩ p_7, i64 p_8, i64 p_9, sl true ⟨1, false⟩ p_10, sl true ⟨1, true⟩ p_11])] = some r :=
  tw_of (fun call hd hb pt rg => by kernel_rfl) h
noncomputable def NH164_0 (v_0 : List TV) (v_1 : Int) (v_2 : List TV) (v_3 : List TV) (v_4 : List TV) (v_5 : List TV) (p_6 : List TV) (p_7 : List TV) (p_8 : Int) (p_9 : Int) (p_10 : List TV) (p_11 : List TV) (v_12 : Int) : Nd :=
  .bif (decide (v_12 < ((p_10.length : Nat) : Int)))
  (.ck (decide ((0 : Int) ≤ v_12) && decide (v_12 < ((p_10.length : Nat) : Int))) <|
    .int .i64 (p_10.getD (0 + v_12.toNat) (.dead ())) fun x_a04f =>
    .ck (decide ((0 : Int) ≤ v_12) && decide (v_12 < ((p_11.length : Nat) : Int))) <|
    .slR ⟨1, false⟩ (p_11.getD (0 + v_12.toNat) (.dead ())) fun xs_81eb =>
    .ck (decide ((0 : Int) ≤ x_a04f) && decide (x_a04f < ((v_0.length : Nat) : Int))) <|
    V6 (v_0.getD (0 + x_a04f.toNat) (.dead ())) fun paramss_81d5 codes_8597 go_c8c7 test_b9fc nexts_98cc argss_1399 =>
    .bif ((((xs_81eb.length : Nat) : Int) != ((paramss_81d5.length : Nat) : Int)))
    (.ret [tb false] [])
    (B164_0 v_0 v_1 v_2 v_3 v_4 v_5 p_6 p_7 p_8 p_9 p_10 p_11 (w64 (v_12 + 1))))
  (.ret [tb true] [])
theorem eH164_0 {v_0 : List TV} {v_1 : Int} {v_2 : List TV} {v_3 : List TV} {v_4 : List TV} {v_5 : List TV} {p_6 : List TV} {p_7 : List TV} {p_8 : Int} {p_9 : Int} {p_10 : List TV} {p_11 : List TV} {v_12 : Int} {r : Res} (h : S cx 164 (NH164_0 v_0 v_1 v_2 v_3 v_4 v_5 p_6 p_7 p_8 p_9 p_10 p_11 v_12) = some r) : S cx 164 (H164_0 v_0 v_1 v_2 v_3 v_4 v_5 p_6 p_7 p_8 p_9 p_10 p_11 v_12) = some r :=
  hw_of (fun call hd hb pt rg => by kernel_rfl) h
noncomputable def N165 (v_0 : List TV) (v_1 : Int) (v_2 : List TV) (v_3 : List TV) (v_4 : List TV) (v_5 : List TV) (k_6 : Int) (part_7 : Int) (at_8 : Int) : Nd :=
  C57 k_6 12 (w64 (v_1 - 1)) fun v_7335 =>
  .bif ((!v_7335))
  (.ret [tb false] [.pt false () (.st [.st [sl true ⟨6, true⟩ v_0, i64 v_1], sl false ⟨1, true⟩ v_2, sl false ⟨1, true⟩ v_3, sl false ⟨1, false⟩ v_4, sl false ⟨1, false⟩ v_5])])
  (.ck (decide ((0 : Int) ≤ k_6) && decide (k_6 < ((v_4.length : Nat) : Int))) <|
    .int .i64 (v_4.getD (0 + k_6.toNat) (.dead ())) fun x_345e =>
    .bif (decide (x_345e ≥ 0))
    (.ret [tb false] [.pt false () (.st [.st [sl true ⟨6, true⟩ v_0, i64 v_1], sl false ⟨1, true⟩ v_2, sl false ⟨1, true⟩ v_3, sl false ⟨1, false⟩ v_4, sl false ⟨1, false⟩ v_5])])
    (.ck (decide ((0 : Int) ≤ k_6) && decide (k_6 < ((v_4.length : Nat) : Int))) <|
      .ck (decide ((0 : Int) ≤ k_6) && decide (k_6 < ((v_5.length : Nat) : Int))) <|
      .ret [tb true] [.pt false () (.st [.st [sl true ⟨6, true⟩ v_0, i64 v_1], sl false ⟨1, true⟩ v_2, sl false ⟨1, true⟩ v_3, sl false ⟨1, false⟩ (v_4.set (0 + k_6.toNat) (i64 part_7)), sl false ⟨1, false⟩ (v_5.set (0 + k_6.toNat) (i64 at_8))])]))
theorem e165 {v_0 : List TV} {v_1 : Int} {v_2 : List TV} {v_3 : List TV} {v_4 : List TV} {v_5 : List TV} {k_6 : Int} {part_7 : Int} {at_8 : Int} {r : Res} (h : S cx 165 (N165 v_0 v_1 v_2 v_3 v_4 v_5 k_6 part_7 at_8) = some r) : tw cx 165 [.pt false () (.st [.st [sl true ⟨6, true⟩ v_0, i64 v_1], sl false ⟨1, true⟩ v_2, sl false ⟨1, true⟩ v_3, sl false ⟨1, false⟩ v_4, sl false ⟨1, false⟩ v_5]), i64 k_6, i64 part_7, i64 at_8] = some r :=
  tw_of (fun call hd hb pt rg => by kernel_rfl) h
noncomputable def N166 (x_0 : Int) (x_1 : Int) (x_2 : Int) (x_3 : Int) (x_4 : Int) (x_5 : Int) : Nd :=
  C159 x_0 fun dst_75de a_9723 b_6717 n_d42a do_79ba v_1857 =>
  .ret [tb dst_75de] []
theorem e166 {x_0 : Int} {x_1 : Int} {x_2 : Int} {x_3 : Int} {x_4 : Int} {x_5 : Int} {r : Res} (h : S cx 166 (N166 x_0 x_1 x_2 x_3 x_4 x_5) = some r) : tw cx 166 [.st [i64 x_0, i64 x_1, i64 x_2, i64 x_3, i64 x_4, i64 x_5]] = some r :=
  tw_of (fun call hd hb pt rg => by kernel_rfl) h
noncomputable def EH167_0 (s_0 : List TV) (v_1 : Bool) (v_2 : Int) : Env := [w3 s_0, .val [] (tb v_1), .un, .un, .un, .un, .un, w8 s_0, w6 v_2] ++ uns 12
noncomputable abbrev H167_0 (s_0 : List TV) (v_1 : Bool) (v_2 : Int) : Nd := .head [1, 0, 1, 2] (EH167_0 s_0 v_1 v_2)
noncomputable abbrev B167_0 (s_0 : List TV) (v_1 : Bool) (v_2 : Int) : Nd := .back [1, 0, 1, 2] (EH167_0 s_0 v_1 v_2)
noncomputable def N167 (s_0 : List TV) (v_1 : Bool) : Nd :=
  H167_0 s_0 v_1 0
theorem e167 {s_0 : List TV} {v_1 : Bool} {r : Res} (h : S cx 167 (N167 s_0 v_1) = some r) : tw cx 167 [sl true ⟨1, false⟩ s_0, tb v_1] = some r :=
  tw_of (fun call hd hb pt rg => by kernel_rfl) h
noncomputable def NH167_0 (s_0 : List TV) (v_1 : Bool) (v_2 : Int) : Nd :=
  .bif (decide (v_2 < ((s_0.length : Nat) : Int)))
  (.ck (decide ((0 : Int) ≤ v_2) && decide (v_2 < ((s_0.length : Nat) : Int))) <|
    .bool (s_0.getD (0 + v_2.toNat) (.dead ())) fun x_5429 =>
    .bif ((v_1 == x_5429))
    (.ret [i64 v_2] [])
    (B167_0 s_0 v_1 (w64 (v_2 + 1))))
  (.ret [i64 (-1)] [])
theorem eH167_0 {s_0 : List TV} {v_1 : Bool} {v_2 : Int} {r : Res} (h : S cx 167 (NH167_0 s_0 v_1 v_2) = some r) : S cx 167 (H167_0 s_0 v_1 v_2) = some r :=
  hw_of (fun call hd hb pt rg => by kernel_rfl) h
noncomputable def EG168_0 (x_0 : Int) (x_1 : Int) (x_2 : Int) (x_3 : Int) (x_4 : Int) (x_5 : Int) (out_11 : List TV) (f_6 : Bool) (f_7 : Bool) (f_8 : Bool) (f_9 : Bool) (f_10 : Bool) : Env := [.un, w28 x_0 x_1 x_2 x_3 x_4 x_5, .un, w10 out_11, .val [] (.pt false () (.st [tb f_6, tb f_7, tb f_8, tb f_9, tb f_10]))] ++ uns 24
noncomputable abbrev G168_0 (x_0 : Int) (x_1 : Int) (x_2 : Int) (x_3 : Int) (x_4 : Int) (x_5 : Int) (out_11 : List TV) (f_6 : Bool) (f_7 : Bool) (f_8 : Bool) (f_9 : Bool) (f_10 : Bool) : Nd := .go [1, 1, 1, 1] (EG168_0 x_0 x_1 x_2 x_3 x_4 x_5 out_11 f_6 f_7 f_8 f_9 f_10)
noncomputable def EG168_1 (out_0 : List TV) : Env := [.un, .un, .un, w10 out_0] ++ uns 25
noncomputable abbrev G168_1 (out_0 : List TV) : Nd := .go [1, 1, 1, 1, 1] (EG168_1 out_0)
noncomputable def N168 (x_0 : Int) (x_1 : Int) (x_2 : Int) (x_3 : Int) (x_4 : Int) (x_5 : Int) : Nd :=
  C159 x_0 fun dst_75de a_9723 b_6717 n_d42a do_79ba v_1857 =>
  .bif (a_9723)
  (.ck (decide ((0 + ([i64 x_3] : List TV).length) * 8 < lim)) <|
    G168_0 x_0 x_1 x_2 x_3 x_4 x_5 (([]) ++ ([i64 x_3])) dst_75de a_9723 b_6717 n_d42a do_79ba)
  (G168_0 x_0 x_1 x_2 x_3 x_4 x_5 ([]) dst_75de a_9723 b_6717 n_d42a do_79ba)
theorem e168 {x_0 : Int} {x_1 : Int} {x_2 : Int} {x_3 : Int} {x_4 : Int} {x_5 : Int} {r : Res} (h : S cx 168 (N168 x_0 x_1 x_2 x_3 x_4 x_5) = some r) : tw cx 168 [.st [i64 x_0, i64 x_1, i64 x_2, i64 x_3, i64 x_4, i64 x_5]] = some r :=
  tw_of (fun call hd hb pt rg => by kernel_rfl) h
noncomputable def NG168_0 (x_0 : Int) (x_1 : Int) (x_2 : Int) (x_3 : Int) (x_4 : Int) (x_5 : Int) (out_11 : List TV) (f_6 : Bool) (f_7 : Bool) (f_8 : Bool) (f_9 : Bool) (f_10 : Bool) : Nd :=
  .bif (f_8)
  (.ck (decide ((out_11.length + ([i64 x_4] : List TV).length) * 8 < lim)) <|
    G168_1 (out_11 ++ ([i64 x_4])))
  (G168_1 out_11)
theorem eG168_0 {x_0 : Int} {x_1 : Int} {x_2 : Int} {x_3 : Int} {x_4 : Int} {x_5 : Int} {out_11 : List TV} {f_6 : Bool} {f_7 : Bool} {f_8 : Bool} {f_9 : Bool} {f_10 : Bool} {r : Res} (h : S cx 168 (NG168_0 x_0 x_1 x_2 x_3 x_4 x_5 out_11 f_6 f_7 f_8 f_9 f_10) = some r) : S cx 168 (G168_0 x_0 x_1 x_2 x_3 x_4 x_5 out_11 f_6 f_7 f_8 f_9 f_10) = some r :=
  pw_of (fun call hd hb pt rg => by kernel_rfl) h
noncomputable def NG168_1 (out_0 : List TV) : Nd :=
  .ret [sl false ⟨1, false⟩ out_0] []
theorem eG168_1 {out_0 : List TV} {r : Res} (h : S cx 168 (NG168_1 out_0) = some r) : S cx 168 (G168_1 out_0) = some r :=
  pw_of (fun call hd hb pt rg => by kernel_rfl) h
noncomputable def N169 (v_0 : List TV) (v_1 : Int) (v_2 : List TV) (v_3 : List TV) (v_4 : List TV) (v_5 : List TV) (k_6 : Int) (part_7 : Int) (at_8 : Int) : Nd :=
  C57 k_6 0 (w64 (v_1 - 1)) fun v_de03 =>
  .bif ((!v_de03))
  (.ret [tb false] [])
  (.bif (decide (k_6 < 12))
    (.ret [tb true] [])
    (.ck (decide ((0 : Int) ≤ k_6) && decide (k_6 < ((v_4.length : Nat) : Int))) <|
      .int .i64 (v_4.getD (0 + k_6.toNat) (.dead ())) fun x_345e =>
      .bif ((x_345e == part_7))
      (.ck (decide ((0 : Int) ≤ k_6) && decide (k_6 < ((v_5.length : Nat) : Int))) <|
        .int .i64 (v_5.getD (0 + k_6.toNat) (.dead ())) fun x_b34c =>
        .ret [tb (decide (x_b34c < at_8))] [])
      (.ck (decide ((0 : Int) ≤ k_6) && decide (k_6 < ((v_4.length : Nat) : Int))) <|
        .int .i64 (v_4.getD (0 + k_6.toNat) (.dead ())) fun x_345e_2 =>
        .bif (decide (x_345e_2 ≥ 0))
        (.ck (decide ((0 : Int) ≤ part_7) && decide (part_7 < ((v_3.length : Nat) : Int))) <|
          .slR ⟨1, false⟩ (v_3.getD (0 + part_7.toNat) (.dead ())) fun xs_381d =>
          .ck (decide ((0 : Int) ≤ k_6) && decide (k_6 < ((v_4.length : Nat) : Int))) <|
          .int .i64 (v_4.getD (0 + k_6.toNat) (.dead ())) fun x_345e_3 =>
          .ck (decide ((0 : Int) ≤ x_345e_3) && decide (x_345e_3 < ((xs_381d.length : Nat) : Int))) <|
          .bool (xs_381d.getD (0 + x_345e_3.toNat) (.dead ())) fun x_d45b =>
          .ret [tb x_d45b] [])
        (.ret [tb false] []))))
theorem e169 {v_0 : List TV} {v_1 : Int} {v_2 : List TV} {v_3 : List TV} {v_4 : List TV} {v_5 : List TV} {k_6 : Int} {part_7 : Int} {at_8 : Int} {r : Res} (h : S cx 169 (N169 v_0 v_1 v_2 v_3 v_4 v_5 k_6 part_7 at_8) = some r) : tw cx 169 [.pt true () (.st [.st [sl true ⟨6, true⟩ v_0, i64 v_1], sl false ⟨1, true⟩ v_2, sl false ⟨1, true⟩ v_3, sl false ⟨1, false⟩ v_4, sl false ⟨1, false⟩ v_5]), i64 k_6, i64 part_7, i64 at_8] = some r :=
  tw_of (fun call hd hb pt rg => by kernel_rfl) h
noncomputable def EH170_0 (slices_0 : List TV) (size_1 : Int) (v_2 : Int) : Env := [w26 slices_0, .un, .un, w6 size_1, .un, .un, .un, .un, .un, w26 slices_0, w8 slices_0, w6 v_2] ++ uns 25
noncomputable abbrev H170_0 (slices_0 : List TV) (size_1 : Int) (v_2 : Int) : Nd := .head [1, 1, 0, 1, 2] (EH170_0 slices_0 size_1 v_2)
noncomputable abbrev B170_0 (slices_0 : List TV) (size_1 : Int) (v_2 : Int) : Nd := .back [1, 1, 0, 1, 2] (EH170_0 slices_0 size_1 v_2)
noncomputable def EH170_1 (newslice_0 : List TV) (v_1 : List TV) (v_2 : Int) : Env := [.un, .un, .un, .un, .un, .un, w10 newslice_0] ++ uns 18 ++ [w26 v_1, w8 v_1, w6 v_2] ++ uns 9
noncomputable abbrev H170_1 (newslice_0 : List TV) (v_1 : List TV) (v_2 : Int) : Nd := .head [1, 1, 1, 1, 0, 1, 2] (EH170_1 newslice_0 v_1 v_2)
noncomputable abbrev B170_1 (newslice_0 : List TV) (v_1 : List TV) (v_2 : Int) : Nd := .back [1, 1, 1, 1, 0, 1, 2] (EH170_1 newslice_0 v_1 v_2)
noncomputable def N170 (slices_0 : List TV) : Nd :=
  H170_0 slices_0 0 0
theorem e170 {slices_0 : List TV} {r : Res} (h : S cx 170 (N170 slices_0) = some r) : tw cx 170 [sl true ⟨1, true⟩ slices_0] = some r :=
  tw_of (fun call hd hb pt rg => by kernel_rfl) h
noncomputable def NH170_0 (slices_0 : List TV) (size_1 : Int) (v_2 : Int) : Nd :=
  .bif (decide (v_2 < ((slices_0.length : Nat) : Int)))
  (.ck (decide ((0 : Int) ≤ v_2) && decide (v_2 < ((slices_0.length : Nat) : Int))) <|
    .slR ⟨1, false⟩ (slices_0.getD (0 + v_2.toNat) (.dead ())) fun xs_9478 =>
    .bif (decide (w64 (size_1 + ((xs_9478.length : Nat) : Int)) < 0))
    (.non)
    (B170_0 slices_0 (w64 (size_1 + ((xs_9478.length : Nat) : Int))) (w64 (v_2 + 1))))
  (C185 size_1 fun vs_503b =>
    .ck (deepL [sl false ⟨1, false⟩ vs_503b]) <|
    H170_1 vs_503b slices_0 0)
theorem eH170_0 {slices_0 : List TV} {size_1 : Int} {v_2 : Int} {r : Res} (h : S cx 170 (NH170_0 slices_0 size_1 v_2) = some r) : S cx 170 (H170_0 slices_0 size_1 v_2) = some r :=
  hw_of (fun call hd hb pt rg => by kernel_rfl) h
noncomputable def NH170_1 (newslice_0 : List TV) (v_1 : List TV) (v_2 : Int) : Nd :=
  .bif (decide (v_2 < ((v_1.length : Nat) : Int)))
  (.ck (decide ((0 : Int) ≤ v_2) && decide (v_2 < ((v_1.length : Nat) : Int))) <|
    .slR ⟨1, false⟩ (v_1.getD (0 + v_2.toNat) (.dead ())) fun xs_3a81 =>
    .ck (decide ((newslice_0.length + xs_3a81.length) * 8 < lim)) <|
    B170_1 (newslice_0 ++ xs_3a81) v_1 (w64 (v_2 + 1)))
  (.ret [sl false ⟨1, false⟩ newslice_0] [])
theorem eH170_1 {newslice_0 : List TV} {v_1 : List TV} {v_2 : Int} {r : Res} (h : S cx 170 (NH170_1 newslice_0 v_1 v_2) = some r) : S cx 170 (H170_1 newslice_0 v_1 v_2) = some r :=
  hw_of (fun call hd hb pt rg => by kernel_rfl) h
noncomputable def EH171_0 (r_0 : List TV) (r_1 : List TV) (r_2 : List TV) (r_3 : List TV) (r_4 : Int) (r_5 : Int) (r_6 : Int) (r_7 : Int) (out_9 : List TV) (v_8 : List TV) (v_10 : Int) : Env := [.val [] (.pt true () (.st [.st [sl false ⟨1, false⟩ r_0, sl false ⟨1, false⟩ r_1, sl false ⟨1, false⟩ r_2], sl false ⟨1, false⟩ r_3, i64 r_4, i64 r_5, i64 r_6, i64 r_7])), .un, .un, .un, .un, w10 out_9, .un, .un, .un, .un, .un, w3 v_8, w8 v_8, w6 v_10] ++ uns 18
noncomputable abbrev H171_0 (r_0 : List TV) (r_1 : List TV) (r_2 : List TV) (r_3 : List TV) (r_4 : Int) (r_5 : Int) (r_6 : Int) (r_7 : Int) (out_9 : List TV) (v_8 : List TV) (v_10 : Int) : Nd := .head [1, 1, 0, 1, 2] (EH171_0 r_0 r_1 r_2 r_3 r_4 r_5 r_6 r_7 out_9 v_8 v_10)
noncomputable abbrev B171_0 (r_0 : List TV) (r_1 : List TV) (r_2 : List TV) (r_3 : List TV) (r_4 : Int) (r_5 : Int) (r_6 : Int) (r_7 : Int) (out_9 : List TV) (v_8 : List TV) (v_10 : Int) : Nd := .back [1, 1, 0, 1, 2] (EH171_0 r_0 r_1 r_2 r_3 r_4 r_5 r_6 r_7 out_9 v_8 v_10)
noncomputable def N171 (r_0 : List TV) (r_1 : List TV) (r_2 : List TV) (r_3 : List TV) (r_4 : Int) (r_5 : Int) (r_6 : Int) (r_7 : Int) (l_8 : List TV) : Nd :=
  .ck (decide ((0 : Int) ≤ ((l_8.length : Nat) : Int)) && decide (((l_8.length : Nat) : Int) ≤ ((l_8.length : Nat) : Int)) && decide (((l_8.length : Nat) : Int) * 8 < (lim : Int)) && decide (((l_8.length : Nat) : Int) < 9223372036854775807) && true && true) <|
  H171_0 r_0 r_1 r_2 r_3 r_4 r_5 r_6 r_7 (List.replicate (((l_8.length : Nat) : Int).toNat) (i64 0)) l_8 0
theorem e171 {r_0 : List TV} {r_1 : List TV} {r_2 : List TV} {r_3 : List TV} {r_4 : Int} {r_5 : Int} {r_6 : Int} {r_7 : Int} {l_8 : List TV} {r : Res} (h : S cx 171 (N171 r_0 r_1 r_2 r_3 r_4 r_5 r_6 r_7 l_8) = some r) : tw cx 171 [.pt true () (.st [.st [sl false ⟨1, false⟩ r_0, sl false ⟨1, false⟩ r_1, sl false ⟨1, false⟩ r_2], sl false ⟨1, false⟩ r_3, i64 r_4, i64 r_5, i64 r_6, i64 r_7]), sl true ⟨1, false⟩ l_8] = some r :=
  tw_of (fun call hd hb pt rg => by kernel_rfl) h
noncomputable def NH171_0 (r_0 : List TV) (r_1 : List TV) (r_2 : List TV) (r_3 : List TV) (r_4 : Int) (r_5 : Int) (r_6 : Int) (r_7 : Int) (out_9 : List TV) (v_8 : List TV) (v_10 : Int) : Nd :=
  .bif (decide (v_10 < ((v_8.length : Nat) : Int)))
  (.ck (decide ((0 : Int) ≤ v_10) && decide (v_10 < ((v_8.length : Nat) : Int))) <|
    .int .i64 (v_8.getD (0 + v_10.toNat) (.dead ())) fun x_e668 =>
    .ck (decide ((0 : Int) ≤ x_e668) && decide (x_e668 < ((r_3.length : Nat) : Int))) <|
    .int .i64 (r_3.getD (0 + x_e668.toNat) (.dead ())) fun x_6f09 =>
    .ck (decide ((0 : Int) ≤ v_10) && decide (v_10 < ((out_9.length : Nat) : Int))) <|
    B171_0 r_0 r_1 r_2 r_3 r_4 r_5 r_6 r_7 (out_9.set (0 + v_10.toNat) (i64 x_6f09)) v_8 (w64 (v_10 + 1)))
  (.ret [sl false ⟨1, false⟩ out_9] [])
theorem eH171_0 {r_0 : List TV} {r_1 : List TV} {r_2 : List TV} {r_3 : List TV} {r_4 : Int} {r_5 : Int} {r_6 : Int} {r_7 : Int} {out_9 : List TV} {v_8 : List TV} {v_10 : Int} {r : Res} (h : S cx 171 (NH171_0 r_0 r_1 r_2 r_3 r_4 r_5 r_6 r_7 out_9 v_8 v_10) = some r) : S cx 171 (H171_0 r_0 r_1 r_2 r_3 r_4 r_5 r_6 r_7 out_9 v_8 v_10) = some r :=
  hw_of (fun call hd hb pt rg => by kernel_rfl) h
noncomputable def N172 (a_0 : Int) (a_1 : Int) (a_2 : Int) (a_3 : Int) (a_4 : Int) (a_5 : Int) (b_6 : Int) (b_7 : Int) (b_8 : Int) (b_9 : Int) (b_10 : Int) (b_11 : Int) : Nd :=
  .bif ((a_0 != b_6))
  (.ret [tb false] [])
  (.bif ((a_1 != b_7))
    (.ret [tb false] [])
    (.bif ((a_2 != b_8))
      (.ret [tb false] [])
      (.bif ((a_3 != b_9))
        (.ret [tb false] [])
        (.bif ((a_4 != b_10))
          (.ret [tb false] [])
          (.bif ((a_5 != b_11))
            (.ret [tb false] [])
            (.ret [tb true] []))))))
theorem e172 {a_0 : Int} {a_1 : Int} {a_2 : Int} {a_3 : Int} {a_4 : Int} {a_5 : Int} {b_6 : Int} {b_7 : Int} {b_8 : Int} {b_9 : Int} {b_10 : Int} {b_11 : Int} {r : Res} (h : S cx 172 (N172 a_0 a_1 a_2 a_3 a_4 a_5 b_6 b_7 b_8 b_9 b_10 b_11) = some r) : tw cx 172 [.st [i64 a_0, i64 a_1, i64 a_2, i64 a_3, i64 a_4, i64 a_5], .st [i64 b_6, i64 b_7, i64 b_8, i64 b_9, i64 b_10, i64 b_11]] = some r :=
  tw_of (fun call hd hb pt rg => by kernel_rfl) h
noncomputable def N184 (x_0 : Int) (y_1 : Int) : Nd :=
  .ret [.fl (.int .u64 (IntKind.u64.wrap ((IntKind.u64.wrap ((IntKind.u64.wrap ((x_0.fdiv (2 ^ (32))) * (y_1.fdiv (2 ^ (32))))) + ((IntKind.u64.wrap ((IntKind.u64.wrap ((x_0.fdiv (2 ^ (32))) * (IntKind.u64.wrap (((BitVec.ofInt 64 y_1 &&& BitVec.ofInt 64 4294967295).toNat : Int))))) + ((IntKind.u64.wrap ((IntKind.u64.wrap (((BitVec.ofInt 64 x_0 &&& BitVec.ofInt 64 4294967295).toNat : Int))) * (IntKind.u64.wrap (((BitVec.ofInt 64 y_1 &&& BitVec.ofInt 64 4294967295).toNat : Int))))).fdiv (2 ^ (32))))).fdiv (2 ^ (32))))) + ((IntKind.u64.wrap ((IntKind.u64.wrap (((BitVec.ofInt 64 (IntKind.u64.wrap ((IntKind.u64.wrap ((x_0.fdiv (2 ^ (32))) * (IntKind.u64.wrap (((BitVec.ofInt 64 y_1 &&& BitVec.ofInt 64 4294967295).toNat : Int))))) + ((IntKind.u64.wrap ((IntKind.u64.wrap (((BitVec.ofInt 64 x_0 &&& BitVec.ofInt 64 4294967295).toNat : Int))) * (IntKind.u64.wrap (((BitVec.ofInt 64 y_1 &&& BitVec.ofInt 64 4294967295).toNat : Int))))).fdiv (2 ^ (32))))) &&& BitVec.ofInt 64 4294967295).toNat : Int))) + (IntKind.u64.wrap ((IntKind.u64.wrap (((BitVec.ofInt 64 x_0 &&& BitVec.ofInt 64 4294967295).toNat : Int))) * (y_1.fdiv (2 ^ (32))))))).fdiv (2 ^ (32)))))), .fl (.int .u64 (IntKind.u64.wrap (x_0 * y_1)))] []
theorem e184 {x_0 : Int} {y_1 : Int} {r : Res} (h : S cx 184 (N184 x_0 y_1) = some r) : tw cx 184 [.fl (.int .u64 x_0), .fl (.int .u64 y_1)] = some r :=
  tw_of (fun call hd hb pt rg => by kernel_rfl) h
end Go.Tree.Q
