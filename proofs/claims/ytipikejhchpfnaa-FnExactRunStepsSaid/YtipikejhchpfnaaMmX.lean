/- The machine: points of the law alone. Conditions: none. -/
import Derived.Test.YtipikejhchpfnaaMm1
import Derived.Test.YtipikejhchpfnaaMm2
/- Points of the law alone. -/
namespace Go.Tree.M
open Go.Proofs
set_option linter.unusedVariables false
set_option maxRecDepth 20000
noncomputable def EG13_0 (aL_0 : List TV) (aFuel_1 : Int) (aS_2 aS_3 aS_4 w0_5 w0_6 w0_7 : List TV) (w1_8 w2_9 : Int) (w3_10 : Bool) : Env := [.val [] (sl true ⟨3, true⟩ aL_0), .un, .val [] (i64 aFuel_1), .un, .val [] (.pt false () (.st [sl true ⟨1, false⟩ aS_2, sl true ⟨1, false⟩ aS_3, sl true ⟨1, false⟩ aS_4])), .un, .un, .un, .val [] (.pt false () (.st [sl false ⟨1, false⟩ w0_5, sl false ⟨1, false⟩ w0_6, sl false ⟨1, false⟩ w0_7])), .val [] (i64 w1_8), .val [] (i64 w2_9), .val [] (tb w3_10)] ++ uns 157
noncomputable abbrev G13_0 (aL_0 : List TV) (aFuel_1 : Int) (aS_2 aS_3 aS_4 w0_5 w0_6 w0_7 : List TV) (w1_8 w2_9 : Int) (w3_10 : Bool) : Nd := .go [1, 1, 1, 1, 1, 1, 1] (EG13_0 aL_0 aFuel_1 aS_2 aS_3 aS_4 w0_5 w0_6 w0_7 w1_8 w2_9 w3_10)
noncomputable def EG13_1 (w0_0 w0_1 w0_2 : List TV) (w1_3 w2_4 : Int) (w3_5 : Bool) (g0_6 g0_7 g0_8 : List TV) (m_9 : Int) (h0_10 h0_11 h0_12 : List TV) (h1_13 h2_14 : Int) (h3_15 : Bool) : Env := uns 8 ++ [.val [] (.pt false () (.st [sl false ⟨1, false⟩ w0_0, sl false ⟨1, false⟩ w0_1, sl false ⟨1, false⟩ w0_2])), .val [] (i64 w1_3), .val [] (i64 w2_4), .val [] (tb w3_5), .un, .un, .val [] (.pt false () (.st [sl false ⟨1, false⟩ g0_6, sl false ⟨1, false⟩ g0_7, sl false ⟨1, false⟩ g0_8])), .un, .un, .un, .un, .val [] (i64 m_9), .un, .val [] (.pt false () (.st [sl false ⟨1, false⟩ h0_10, sl false ⟨1, false⟩ h0_11, sl false ⟨1, false⟩ h0_12])), .val [] (i64 h1_13), .val [] (i64 h2_14), .val [] (tb h3_15)] ++ uns 144
noncomputable abbrev G13_1 (w0_0 w0_1 w0_2 : List TV) (w1_3 w2_4 : Int) (w3_5 : Bool) (g0_6 g0_7 g0_8 : List TV) (m_9 : Int) (h0_10 h0_11 h0_12 : List TV) (h1_13 h2_14 : Int) (h3_15 : Bool) : Nd := .go [1, 1, 1, 1, 1, 1, 1, 1, 1, 1, 1, 1, 1, 1, 1, 1, 1, 1, 1, 1, 1, 1, 1, 1] (EG13_1 w0_0 w0_1 w0_2 w1_3 w2_4 w3_5 g0_6 g0_7 g0_8 m_9 h0_10 h0_11 h0_12 h1_13 h2_14 h3_15)
noncomputable def N13_s0 (aL_0 aS_1 aS_2 aS_3 : List TV) (aFuel_4 : Int) (vs_00e0 localss_fa98 mems_073e tolds_1364 : List TV) : Nd :=
 C57 vs_00e0 localss_fa98 mems_073e tolds_1364 aFuel_4 fun localss_7b2c mems_fad1 tolds_204f v_0d96 v_639f v_6dae =>
 G13_0 aL_0 aFuel_4 aS_1 aS_2 aS_3 localss_7b2c mems_fad1 tolds_204f v_0d96 v_639f v_6dae
noncomputable def N13_s1 (aL_0 aS_1 aS_2 aS_3 : List TV) (aFuel_4 : Int) (vs_00e0 : List TV) : Nd :=
 C38 aS_1 aS_2 aS_3 fun localss_fa98 mems_073e tolds_1364 =>
 N13_s0 aL_0 aS_1 aS_2 aS_3 aFuel_4 vs_00e0 localss_fa98 mems_073e tolds_1364
noncomputable def N13_s2 (aL_0 aS_1 aS_2 aS_3 : List TV) (aFuel_4 : Int) : Nd :=
 C51 aL_0 fun vs_00e0 =>
 .amb2 
 (C38 aS_1 aS_2 aS_3 fun localss_fa98 mems_073e tolds_1364 =>
 .amb2 
 (N13_s0 aL_0 aS_1 aS_2 aS_3 aFuel_4 vs_00e0 localss_fa98 mems_073e tolds_1364) 
 (N13_s0 aL_0 aS_1 aS_2 aS_3 aFuel_4 vs_00e0 localss_fa98 mems_073e tolds_1364)) 
 (N13_s1 aL_0 aS_1 aS_2 aS_3 aFuel_4 vs_00e0)
noncomputable def N13_s3 (aL_0 aS_1 aS_2 aS_3 : List TV) (aFuel_4 : Int) : Nd :=
 C51 aL_0 fun vs_00e0 =>
 N13_s1 aL_0 aS_1 aS_2 aS_3 aFuel_4 vs_00e0
noncomputable def N13 (aL_0 aS_1 aS_2 aS_3 : List TV) (aFuel_4 : Int) : Nd :=
 C49 aL_0 1048576 fun v_a0a5 =>
 .bif (decide (v_a0a5 < 0))
 (.ret [tb true] [])
 (C35 aS_1 aS_2 aS_3 v_a0a5 fun v_4b5c =>
 .bif (decide (v_4b5c < 0))
 (.ret [tb true] [])
 (.amb3 
 (N13_s2 aL_0 aS_1 aS_2 aS_3 aFuel_4) 
 (.amb2 
 (N13_s2 aL_0 aS_1 aS_2 aS_3 aFuel_4) 
 (N13_s3 aL_0 aS_1 aS_2 aS_3 aFuel_4)) 
 (.amb2 
 (N13_s3 aL_0 aS_1 aS_2 aS_3 aFuel_4) 
 (N13_s3 aL_0 aS_1 aS_2 aS_3 aFuel_4))))
theorem e13 {aL_0 aS_1 aS_2 aS_3 : List TV} {aFuel_4 : Int} {r : Res} (h : S cx 13 (N13 aL_0 aS_1 aS_2 aS_3 aFuel_4) = some r) : tw cx 13 [sl true ⟨3, true⟩ aL_0, .st [sl true ⟨1, false⟩ aS_1, sl true ⟨1, false⟩ aS_2, sl true ⟨1, false⟩ aS_3], i64 aFuel_4] = some r :=
 tw_of (fun call hd hb pt rg => by kernel_rfl) h
noncomputable def NG13_0_s0 (aFuel_1 : Int) (w0_5 w0_6 w0_7 : List TV) (w1_8 w2_9 : Int) (w3_10 : Bool) (v_c2c2 : Int) (localss_037d mems_596f tolds_5fcb vs_f2ac localss_b3da mems_9f94 tolds_75d8 : List TV) : Nd :=
 C58 vs_f2ac localss_b3da mems_9f94 tolds_75d8 aFuel_1 fun localss_2be6 mems_a8bf tolds_008e v_8804 v_0e27 v_3217 =>
 G13_1 w0_5 w0_6 w0_7 w1_8 w2_9 w3_10 localss_037d mems_596f tolds_5fcb v_c2c2 localss_2be6 mems_a8bf tolds_008e v_8804 v_0e27 v_3217
noncomputable def NG13_0_s1 (aFuel_1 : Int) (aS_2 aS_3 aS_4 w0_5 w0_6 w0_7 : List TV) (w1_8 w2_9 : Int) (w3_10 : Bool) (v_c2c2 : Int) (localss_037d mems_596f tolds_5fcb vs_f2ac : List TV) : Nd :=
 C38 aS_2 aS_3 aS_4 fun localss_b3da mems_9f94 tolds_75d8 =>
 NG13_0_s0 aFuel_1 w0_5 w0_6 w0_7 w1_8 w2_9 w3_10 v_c2c2 localss_037d mems_596f tolds_5fcb vs_f2ac localss_b3da mems_9f94 tolds_75d8
noncomputable def NG13_0_s2 (aL_0 : List TV) (aFuel_1 : Int) (aS_2 aS_3 aS_4 w0_5 w0_6 w0_7 : List TV) (w1_8 w2_9 : Int) (w3_10 : Bool) (v_c2c2 : Int) (localss_037d mems_596f tolds_5fcb : List TV) : Nd :=
 C51 aL_0 fun vs_f2ac =>
 .amb2 
 (C38 aS_2 aS_3 aS_4 fun localss_b3da mems_9f94 tolds_75d8 =>
 .amb2 
 (NG13_0_s0 aFuel_1 w0_5 w0_6 w0_7 w1_8 w2_9 w3_10 v_c2c2 localss_037d mems_596f tolds_5fcb vs_f2ac localss_b3da mems_9f94 tolds_75d8) 
 (NG13_0_s0 aFuel_1 w0_5 w0_6 w0_7 w1_8 w2_9 w3_10 v_c2c2 localss_037d mems_596f tolds_5fcb vs_f2ac localss_b3da mems_9f94 tolds_75d8)) 
 (NG13_0_s1 aFuel_1 aS_2 aS_3 aS_4 w0_5 w0_6 w0_7 w1_8 w2_9 w3_10 v_c2c2 localss_037d mems_596f tolds_5fcb vs_f2ac)
noncomputable def NG13_0_s3 (aL_0 : List TV) (aFuel_1 : Int) (aS_2 aS_3 aS_4 w0_5 w0_6 w0_7 : List TV) (w1_8 w2_9 : Int) (w3_10 : Bool) (v_c2c2 : Int) (localss_037d mems_596f tolds_5fcb : List TV) : Nd :=
 C51 aL_0 fun vs_f2ac =>
 NG13_0_s1 aFuel_1 aS_2 aS_3 aS_4 w0_5 w0_6 w0_7 w1_8 w2_9 w3_10 v_c2c2 localss_037d mems_596f tolds_5fcb vs_f2ac
noncomputable def NG13_0_s4 (aL_0 : List TV) (aFuel_1 : Int) (aS_2 aS_3 aS_4 w0_5 w0_6 w0_7 : List TV) (w1_8 w2_9 : Int) (w3_10 : Bool) (vs_00e0 localss_94f0 mems_d2f9 tolds_8d6b localss_2f70 mems_ac63 tolds_a4be : List TV) (v_a9ba v_8b36 : Int) (v_5865 : Bool) : Nd :=
 C38 aS_2 aS_3 aS_4 fun localss_7f41 mems_0b77 tolds_b952 =>
 C40 localss_94f0 mems_d2f9 tolds_8d6b localss_7f41 mems_0b77 tolds_b952 fun v_0ee5 =>
 .bif ((!v_0ee5))
 (.ret [tb false] [])
 (C29 vs_00e0 1 fun v_767e vs_db28 =>
 C43 localss_94f0 mems_d2f9 tolds_8d6b v_767e fun v_9642 localss_580a mems_b964 tolds_c8e5 =>
 .bif (decide (v_9642 < 0))
 (.ret [tb false] [])
 (C40 localss_2f70 mems_ac63 tolds_a4be w0_5 w0_6 w0_7 fun v_294d =>
 .bif ((!v_294d))
 (.ret [tb false] [])
 (.bif ((v_a9ba != w1_8))
 (.ret [tb false] [])
 (.bif ((v_8b36 != w2_9))
 (.ret [tb false] [])
 (.bif ((!(v_5865 == w3_10)))
 (.ret [tb false] [])
 (C43 localss_2f70 mems_ac63 tolds_a4be 1 fun v_c2c2 localss_037d mems_596f tolds_5fcb =>
 C44 localss_037d mems_596f tolds_5fcb 1 fun v_c51c =>
 .bif (decide (v_c51c < 0))
 (.ret [tb false] [])
 (.bif ((v_c51c != v_c2c2))
 (.ret [tb false] [])
 (.amb3 
 (NG13_0_s2 aL_0 aFuel_1 aS_2 aS_3 aS_4 w0_5 w0_6 w0_7 w1_8 w2_9 w3_10 v_c2c2 localss_037d mems_596f tolds_5fcb) 
 (.amb2 
 (NG13_0_s2 aL_0 aFuel_1 aS_2 aS_3 aS_4 w0_5 w0_6 w0_7 w1_8 w2_9 w3_10 v_c2c2 localss_037d mems_596f tolds_5fcb) 
 (NG13_0_s3 aL_0 aFuel_1 aS_2 aS_3 aS_4 w0_5 w0_6 w0_7 w1_8 w2_9 w3_10 v_c2c2 localss_037d mems_596f tolds_5fcb)) 
 (.amb2 
 (NG13_0_s3 aL_0 aFuel_1 aS_2 aS_3 aS_4 w0_5 w0_6 w0_7 w1_8 w2_9 w3_10 v_c2c2 localss_037d mems_596f tolds_5fcb) 
 (NG13_0_s3 aL_0 aFuel_1 aS_2 aS_3 aS_4 w0_5 w0_6 w0_7 w1_8 w2_9 w3_10 v_c2c2 localss_037d mems_596f tolds_5fcb))))))))))
noncomputable def NG13_0 (aL_0 : List TV) (aFuel_1 : Int) (aS_2 aS_3 aS_4 w0_5 w0_6 w0_7 : List TV) (w1_8 w2_9 : Int) (w3_10 : Bool) : Nd :=
 C51 aL_0 fun vs_00e0 =>
 C38 aS_2 aS_3 aS_4 fun localss_94f0 mems_d2f9 tolds_8d6b =>
 C58 vs_00e0 localss_94f0 mems_d2f9 tolds_8d6b aFuel_1 fun localss_2f70 mems_ac63 tolds_a4be v_a9ba v_8b36 v_5865 =>
 C40 localss_2f70 mems_ac63 tolds_a4be w0_5 w0_6 w0_7 fun v_f3a7 =>
 .bif ((!v_f3a7))
 (.ret [tb false] [])
 (.bif ((v_a9ba != w1_8))
 (.ret [tb false] [])
 (.bif ((v_8b36 != w2_9))
 (.ret [tb false] [])
 (.bif ((!(v_5865 == w3_10)))
 (.ret [tb false] [])
 (C51 aL_0 fun vs_bbb1 =>
 C28 vs_00e0 vs_bbb1 fun v_4cd5 =>
 .bif ((!v_4cd5))
 (.ret [tb false] [])
 (.amb2 
 (NG13_0_s4 aL_0 aFuel_1 aS_2 aS_3 aS_4 w0_5 w0_6 w0_7 w1_8 w2_9 w3_10 vs_00e0 localss_94f0 mems_d2f9 tolds_8d6b localss_2f70 mems_ac63 tolds_a4be v_a9ba v_8b36 v_5865) 
 (NG13_0_s4 aL_0 aFuel_1 aS_2 aS_3 aS_4 w0_5 w0_6 w0_7 w1_8 w2_9 w3_10 vs_00e0 localss_94f0 mems_d2f9 tolds_8d6b localss_2f70 mems_ac63 tolds_a4be v_a9ba v_8b36 v_5865))))))
theorem eG13_0 {aL_0 : List TV} {aFuel_1 : Int} {aS_2 aS_3 aS_4 w0_5 w0_6 w0_7 : List TV} {w1_8 w2_9 : Int} {w3_10 : Bool} {r : Res} (h : S cx 13 (NG13_0 aL_0 aFuel_1 aS_2 aS_3 aS_4 w0_5 w0_6 w0_7 w1_8 w2_9 w3_10) = some r) : S cx 13 (G13_0 aL_0 aFuel_1 aS_2 aS_3 aS_4 w0_5 w0_6 w0_7 w1_8 w2_9 w3_10) = some r :=
 pw_of (fun call hd hb pt rg => by kernel_rfl) h
noncomputable def NG13_1 (w0_0 w0_1 w0_2 : List TV) (w1_3 w2_4 : Int) (w3_5 : Bool) (g0_6 g0_7 g0_8 : List TV) (m_9 : Int) (h0_10 h0_11 h0_12 : List TV) (h1_13 h2_14 : Int) (h3_15 : Bool) : Nd :=
 C40 h0_10 h0_11 h0_12 w0_0 w0_1 w0_2 fun v_a250 =>
 .bif ((!v_a250))
 (.ret [tb false] [])
 (.bif ((h1_13 != w1_3))
 (.ret [tb false] [])
 (.bif ((h2_14 != w2_4))
 (.ret [tb false] [])
 (.bif ((!(h3_15 == w3_5)))
 (.ret [tb false] [])
 (C44 g0_6 g0_7 g0_8 1 fun v_2b40 =>
 .bif (decide (v_2b40 < 0))
 (.ret [tb false] [])
 (.bif ((v_2b40 != m_9))
 (.ret [tb false] [])
 (.ret [tb true] []))))))
theorem eG13_1 {w0_0 w0_1 w0_2 : List TV} {w1_3 w2_4 : Int} {w3_5 : Bool} {g0_6 g0_7 g0_8 : List TV} {m_9 : Int} {h0_10 h0_11 h0_12 : List TV} {h1_13 h2_14 : Int} {h3_15 : Bool} {r : Res} (h : S cx 13 (NG13_1 w0_0 w0_1 w0_2 w1_3 w2_4 w3_5 g0_6 g0_7 g0_8 m_9 h0_10 h0_11 h0_12 h1_13 h2_14 h3_15) = some r) : S cx 13 (G13_1 w0_0 w0_1 w0_2 w1_3 w2_4 w3_5 g0_6 g0_7 g0_8 m_9 h0_10 h0_11 h0_12 h1_13 h2_14 h3_15) = some r :=
 pw_of (fun call hd hb pt rg => by kernel_rfl) h
noncomputable def EH25_0 (a_0 : List TV) (k_1 i_2 : Int) : Env := [.val [] (sl true ⟨1, false⟩ a_0), .val [] (i64 k_1), .un, .un, .un, .val [] (i64 i_2)] ++ uns 17
noncomputable abbrev H25_0 (a_0 : List TV) (k_1 i_2 : Int) : Nd := .head [1, 0, 1, 2] (EH25_0 a_0 k_1 i_2)
noncomputable abbrev B25_0 (a_0 : List TV) (k_1 i_2 : Int) : Nd := .back [1, 0, 1, 2] (EH25_0 a_0 k_1 i_2)
noncomputable def N25 (a_0 : List TV) (k_1 : Int) : Nd :=
 H25_0 a_0 k_1 0
theorem e25 {a_0 : List TV} {k_1 : Int} {r : Res} (h : S cx 25 (N25 a_0 k_1) = some r) : tw cx 25 [sl true ⟨1, false⟩ a_0, i64 k_1] = some r :=
 tw_of (fun call hd hb pt rg => by kernel_rfl) h
noncomputable def NH25_0 (a_0 : List TV) (k_1 i_2 : Int) : Nd :=
 .bif (decide (i_2 < ((a_0.length : Nat) : Int)))
 (.ck (decide ((0 : Int) ≤ i_2) && decide (i_2 < ((a_0.length : Nat) : Int))) <|
 .int .i64 (a_0.getD (0 + i_2.toNat) (.dead ())) fun x_3db5 =>
 .bif ((x_3db5 != k_1))
 (.ret [i64 (-1)] [])
 (B25_0 a_0 (w64 (k_1 + 1)) (w64 (i_2 + 1))))
 (.ret [i64 k_1] [])
theorem eH25_0 {a_0 : List TV} {k_1 i_2 : Int} {r : Res} (h : S cx 25 (NH25_0 a_0 k_1 i_2) = some r) : S cx 25 (H25_0 a_0 k_1 i_2) = some r :=
 hw_of (fun call hd hb pt rg => by kernel_rfl) h
noncomputable def EH29_0 (k_0 i_2 : Int) (a_1 : List TV) : Env := [.ref 34 [] none 38 false, .val [] (i64 k_0), .un, .un, .un, .val [] (i64 i_2)] ++ uns 28 ++ [.val [] (sl false ⟨3, true⟩ a_1), .un]
noncomputable abbrev H29_0 (k_0 i_2 : Int) (a_1 : List TV) : Nd := .head [1, 0, 1, 2] (EH29_0 k_0 i_2 a_1)
noncomputable abbrev B29_0 (k_0 i_2 : Int) (a_1 : List TV) : Nd := .back [1, 0, 1, 2] (EH29_0 k_0 i_2 a_1)
noncomputable def N29 (a_0 : List TV) (k_1 : Int) : Nd :=
 H29_0 k_1 0 a_0
theorem e29 {a_0 : List TV} {k_1 : Int} {r : Res} (h : S cx 29 (N29 a_0 k_1) = some r) : tw cx 29 [sl false ⟨3, true⟩ a_0, i64 k_1] = some r :=
 tw_of (fun call hd hb pt rg => by kernel_rfl) h
noncomputable def NH29_0 (k_0 i_2 : Int) (a_1 : List TV) : Nd :=
 .bif (decide (i_2 < ((a_1.length : Nat) : Int)))
 (.ck (decide ((0 : Int) ≤ i_2) && decide (i_2 < ((a_1.length : Nat) : Int))) <|
 V3_1 (a_1.getD (0 + i_2.toNat) (.dead ())) fun op_acc8 n_f6c8 tables_83bc =>
 .ck (decide ((0 : Int) ≤ i_2) && decide (i_2 < (((a_1.set (0 + i_2.toNat) (.st [i64 k_0, i64 n_f6c8, sl false ⟨1, false⟩ tables_83bc])).length : Nat) : Int))) <|
 V3_1 ((a_1.set (0 + i_2.toNat) (.st [i64 k_0, i64 n_f6c8, sl false ⟨1, false⟩ tables_83bc])).getD (0 + i_2.toNat) (.dead ())) fun op_fa2a n_4651 tables_a107 =>
 .ck (decide ((0 : Int) ≤ i_2) && decide (i_2 < ((((a_1.set (0 + i_2.toNat) (.st [i64 k_0, i64 n_f6c8, sl false ⟨1, false⟩ tables_83bc])).set (0 + i_2.toNat) (.st [i64 op_fa2a, i64 (w64 (k_0 + 1)), sl false ⟨1, false⟩ tables_a107])).length : Nat) : Int))) <|
 V3_1 (((a_1.set (0 + i_2.toNat) (.st [i64 k_0, i64 n_f6c8, sl false ⟨1, false⟩ tables_83bc])).set (0 + i_2.toNat) (.st [i64 op_fa2a, i64 (w64 (k_0 + 1)), sl false ⟨1, false⟩ tables_a107])).getD (0 + i_2.toNat) (.dead ())) fun op_1442 n_0414 tables_0114 =>
 V3_1 (((a_1.set (0 + i_2.toNat) (.st [i64 k_0, i64 n_f6c8, sl false ⟨1, false⟩ tables_83bc])).set (0 + i_2.toNat) (.st [i64 op_fa2a, i64 (w64 (k_0 + 1)), sl false ⟨1, false⟩ tables_a107])).getD (0 + i_2.toNat) (.dead ())) fun op_7f0e n_49d4 tables_6099 =>
 V3_1 (((a_1.set (0 + i_2.toNat) (.st [i64 k_0, i64 n_f6c8, sl false ⟨1, false⟩ tables_83bc])).set (0 + i_2.toNat) (.st [i64 op_fa2a, i64 (w64 (k_0 + 1)), sl false ⟨1, false⟩ tables_a107])).getD (0 + i_2.toNat) (.dead ())) fun op_934d n_a6cc tables_28f4 =>
 .call 24 [sl false ⟨1, false⟩ tables_6099, i64 (w64 ((w64 (k_0 + 1)) + 1))] fun r_961f =>
 .cons r_961f.1 fun t_6c64 ts_b79e =>
 .int .i64 t_6c64 fun v_28fa =>
 .nil ts_b79e <|
 .cons r_961f.2 fun u_6f6a us_4040 =>
 .slO ⟨1, false⟩ u_6f6a fun vs_44de =>
 .st ((((a_1.set (0 + i_2.toNat) (.st [i64 k_0, i64 n_f6c8, sl false ⟨1, false⟩ tables_83bc])).set (0 + i_2.toNat) (.st [i64 op_fa2a, i64 (w64 (k_0 + 1)), sl false ⟨1, false⟩ tables_a107])).set (0 + i_2.toNat) (.st [i64 op_934d, i64 n_a6cc, .dead ()])).getD (0 + i_2.toNat) (.dead ())) fun fs_e126 =>
 .ck (fieldOk cx.P 95 2 fs_e126) <|
 .ck (csz (fs_e126.getD 2 (.dead ())) == csz (sl false ⟨1, false⟩ vs_44de)) <|
 .nil us_4040 <|
 B29_0 v_28fa (w64 (i_2 + 1)) ((((a_1.set (0 + i_2.toNat) (.st [i64 k_0, i64 n_f6c8, sl false ⟨1, false⟩ tables_83bc])).set (0 + i_2.toNat) (.st [i64 op_fa2a, i64 (w64 (k_0 + 1)), sl false ⟨1, false⟩ tables_a107])).set (0 + i_2.toNat) (.st [i64 op_934d, i64 n_a6cc, .dead ()])).set (0 + i_2.toNat) (.st (fs_e126.set 2 (sl false ⟨1, false⟩ vs_44de)))))
 (.ret [i64 k_0] [sl false ⟨3, true⟩ a_1])
theorem eH29_0 {k_0 i_2 : Int} {a_1 : List TV} {r : Res} (h : S cx 29 (NH29_0 k_0 i_2 a_1) = some r) : S cx 29 (H29_0 k_0 i_2 a_1) = some r :=
 hw_of (fun call hd hb pt rg => by kernel_rfl) h
noncomputable def N44 (a_0 a_1 a_2 : List TV) (k_3 : Int) : Nd :=
 C25 a_0 k_3 fun v_b8c9 =>
 .bif (decide (v_b8c9 < 0))
 (.ret [i64 (-1)] [])
 (C25 a_1 v_b8c9 fun v_3cda =>
 .bif (decide (v_3cda < 0))
 (.ret [i64 (-1)] [])
 (C25 a_2 v_3cda fun v_8a35 =>
 .bif (decide (v_8a35 < 0))
 (.ret [i64 (-1)] [])
 (.ret [i64 v_8a35] [])))
theorem e44 {a_0 a_1 a_2 : List TV} {k_3 : Int} {r : Res} (h : S cx 44 (N44 a_0 a_1 a_2 k_3) = some r) : tw cx 44 [.st [sl true ⟨1, false⟩ a_0, sl true ⟨1, false⟩ a_1, sl true ⟨1, false⟩ a_2], i64 k_3] = some r :=
 tw_of (fun call hd hb pt rg => by kernel_rfl) h
noncomputable def N57 (l_0 s_1 s_2 s_3 : List TV) (fuel_4 : Int) : Nd :=
 C102 l_0 fun heightss_2820 deads_bee2 code_6e97 at_ef62 v_7fab =>
 .bif ((!v_7fab))
 (.ret [.st [sl false ⟨1, false⟩ ([]), sl false ⟨1, false⟩ ([]), sl false ⟨1, false⟩ ([])], i64 0, i64 0, tb false] [])
 (C86 s_1 s_2 s_3 fun v_80b5 =>
 .bif ((!v_80b5))
 (.ret [.st [sl false ⟨1, false⟩ ([]), sl false ⟨1, false⟩ ([]), sl false ⟨1, false⟩ ([])], i64 0, i64 0, tb false] [])
 (C87 fuel_4 fun v_ea29 =>
 .bif ((!v_ea29))
 (.ret [.st [sl false ⟨1, false⟩ ([]), sl false ⟨1, false⟩ ([]), sl false ⟨1, false⟩ ([])], i64 0, i64 0, tb false] [])
 (C103 l_0 heightss_2820 deads_bee2 code_6e97 at_ef62 s_1 s_2 s_3 fuel_4 fun localss_d625 mems_314f tolds_39dc v_427d vs_8a82 =>
 C89 localss_d625 mems_314f tolds_39dc fun localss_98a5 mems_be28 tolds_543b =>
 .ret [.st [sl false ⟨1, false⟩ localss_98a5, sl false ⟨1, false⟩ mems_be28, sl false ⟨1, false⟩ tolds_543b], i64 v_427d, i64 ((vs_8a82.length : Nat) : Int), tb true] [])))
theorem e57 {l_0 s_1 s_2 s_3 : List TV} {fuel_4 : Int} {r : Res} (h : S cx 57 (N57 l_0 s_1 s_2 s_3 fuel_4) = some r) : tw cx 57 [sl true ⟨3, true⟩ l_0, .st [sl true ⟨1, false⟩ s_1, sl true ⟨1, false⟩ s_2, sl true ⟨1, false⟩ s_3], i64 fuel_4] = some r :=
 tw_of (fun call hd hb pt rg => by kernel_rfl) h
noncomputable def N58 (l_0 s_1 s_2 s_3 : List TV) (fuel_4 : Int) : Nd :=
 .call 105 [sl true ⟨3, true⟩ l_0, .st [sl true ⟨1, false⟩ s_1, sl true ⟨1, false⟩ s_2, sl true ⟨1, false⟩ s_3], i64 fuel_4] fun r_47ca =>
 .cons r_47ca.1 fun t_e987 ts_6868 =>
 .ptO t_e987 (.nil ts_6868 <|
 .nil r_47ca.2 <|
 .ret [.st [sl false ⟨1, false⟩ ([]), sl false ⟨1, false⟩ ([]), sl false ⟨1, false⟩ ([])], i64 0, i64 0, tb false] []) fun p_492c =>
 .st p_492c fun ts_a87c =>
 .cons ts_a87c fun t_eed6 ts_3844 =>
 .ptO t_eed6 (.non) fun p_2e42 =>
 .st p_2e42 fun ts_74d6 =>
 .cons ts_74d6 fun t_dce4 ts_fff3 =>
 .ptO t_dce4 (.non) fun p_38aa =>
 V4 p_38aa fun ls_f9a8 endss_93d8 others_dbca opens_94e6 =>
 .cons ts_fff3 fun t_520e ts_5130 =>
 .slO ⟨1, false⟩ t_520e fun heightss_1a76 =>
 .cons ts_5130 fun t_d4b8 ts_b3f8 =>
 .slO ⟨1, false⟩ t_d4b8 fun deads_8f63 =>
 .cons ts_b3f8 fun t_219f ts_480a =>
 .slO ⟨1, false⟩ t_219f fun basess_1a58 =>
 .cons ts_480a fun t_22c2 ts_ccc0 =>
 .int .i64 t_22c2 fun code_87ca =>
 .cons ts_ccc0 fun t_f1ba ts_c3b4 =>
 .int .i64 t_f1ba fun place_86d6 =>
 .nil ts_c3b4 <|
 .cons ts_3844 fun t_0d3b ts_8fc6 =>
 V3_2 t_0d3b fun localss_93e7 mems_43e2 tolds_f048 =>
 .cons ts_8fc6 fun t_ce37 ts_af08 =>
 .slO ⟨1, false⟩ t_ce37 fun stacks_12ef =>
 .cons ts_af08 fun t_f89c ts_1586 =>
 .int .i64 t_f89c fun at_4969 =>
 .nil ts_1586 <|
 .nil ts_6868 <|
 .nil r_47ca.2 <|
 C106 ls_f9a8 endss_93d8 others_dbca opens_94e6 heightss_1a76 deads_8f63 basess_1a58 code_87ca place_86d6 localss_93e7 mems_43e2 tolds_f048 stacks_12ef at_4969 fuel_4 fun v_cfd3 vs_320a ls_87a1 endss_5a58 others_d781 opens_fb50 heightss_b430 deads_6e08 basess_06b2 code_e1d1 place_5c51 localss_e914 mems_ef9c tolds_eb94 stacks_d7dd at_15f9 =>
 .ret [.st [sl false ⟨1, false⟩ localss_e914, sl false ⟨1, false⟩ mems_ef9c, sl false ⟨1, false⟩ tolds_eb94], i64 v_cfd3, i64 ((vs_320a.length : Nat) : Int), tb true] []
theorem e58 {l_0 s_1 s_2 s_3 : List TV} {fuel_4 : Int} {r : Res} (h : S cx 58 (N58 l_0 s_1 s_2 s_3 fuel_4) = some r) : tw cx 58 [sl true ⟨3, true⟩ l_0, .st [sl true ⟨1, false⟩ s_1, sl true ⟨1, false⟩ s_2, sl true ⟨1, false⟩ s_3], i64 fuel_4] = some r :=
 tw_of (fun call hd hb pt rg => by kernel_rfl) h
end Go.Tree.M
