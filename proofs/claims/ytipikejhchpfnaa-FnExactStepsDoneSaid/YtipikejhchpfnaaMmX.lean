/- The machine: points of the law alone. Conditions: none. -/
import Derived.Test.YtipikejhchpfnaaMm1
import Derived.Test.YtipikejhchpfnaaMm2
/- Points of the law alone. -/
namespace Go.Tree.M
open Go.Proofs
set_option linter.unusedVariables false
set_option maxRecDepth 20000
noncomputable def EG10_0 (aL_0 : List TV) (aFuel_1 : Int) (aS_2 aS_3 aS_4 w0_5 : List TV) (w1_6 : Bool) : Env := [.val [] (sl true ⟨3, true⟩ aL_0), .un, .val [] (i64 aFuel_1), .un, .val [] (.pt false () (.st [sl true ⟨1, false⟩ aS_2, sl true ⟨1, false⟩ aS_3, sl true ⟨1, false⟩ aS_4])), .un, .un, .un, .val [] (sl false ⟨1, false⟩ w0_5), .val [] (tb w1_6)] ++ uns 117
noncomputable abbrev G10_0 (aL_0 : List TV) (aFuel_1 : Int) (aS_2 aS_3 aS_4 w0_5 : List TV) (w1_6 : Bool) : Nd := .go [1, 1, 1, 1, 1, 1, 1] (EG10_0 aL_0 aFuel_1 aS_2 aS_3 aS_4 w0_5 w1_6)
noncomputable def EG10_1 (w0_0 : List TV) (w1_1 : Bool) (g0_2 : List TV) (m_3 : Int) (h0_4 : List TV) (h1_5 : Bool) : Env := uns 8 ++ [.val [] (sl false ⟨1, false⟩ w0_0), .val [] (tb w1_1), .un, .un, .val [] (sl false ⟨1, false⟩ g0_2), .un, .un, .val [] (i64 m_3), .un, .val [] (sl false ⟨1, false⟩ h0_4), .val [] (tb h1_5)] ++ uns 108
noncomputable abbrev G10_1 (w0_0 : List TV) (w1_1 : Bool) (g0_2 : List TV) (m_3 : Int) (h0_4 : List TV) (h1_5 : Bool) : Nd := .go [1, 1, 1, 1, 1, 1, 1, 1, 1, 1, 1, 1, 1, 1, 1, 1, 1, 1, 1, 1, 1, 1, 1, 1] (EG10_1 w0_0 w1_1 g0_2 m_3 h0_4 h1_5)
noncomputable def N10_s0 (aL_0 aS_1 aS_2 aS_3 : List TV) (aFuel_4 : Int) : Nd :=
 C51 aL_0 fun vs_00e0 =>
 C38 aS_1 aS_2 aS_3 fun localss_fa98 mems_073e tolds_1364 =>
 C50 vs_00e0 localss_fa98 mems_073e tolds_1364 aFuel_4 fun vs_4173 v_4834 =>
 G10_0 aL_0 aFuel_4 aS_1 aS_2 aS_3 vs_4173 v_4834
noncomputable def N10 (aL_0 aS_1 aS_2 aS_3 : List TV) (aFuel_4 : Int) : Nd :=
 C49 aL_0 1048576 fun v_a0a5 =>
 .bif (decide (v_a0a5 < 0))
 (.ret [tb true] [])
 (C35 aS_1 aS_2 aS_3 v_a0a5 fun v_4b5c =>
 .bif (decide (v_4b5c < 0))
 (.ret [tb true] [])
 (.amb2 
 (N10_s0 aL_0 aS_1 aS_2 aS_3 aFuel_4) 
 (N10_s0 aL_0 aS_1 aS_2 aS_3 aFuel_4)))
theorem e10 {aL_0 aS_1 aS_2 aS_3 : List TV} {aFuel_4 : Int} {r : Res} (h : S cx 10 (N10 aL_0 aS_1 aS_2 aS_3 aFuel_4) = some r) : tw cx 10 [sl true ⟨3, true⟩ aL_0, .st [sl true ⟨1, false⟩ aS_1, sl true ⟨1, false⟩ aS_2, sl true ⟨1, false⟩ aS_3], i64 aFuel_4] = some r :=
 tw_of (fun call hd hb pt rg => by kernel_rfl) h
noncomputable def NG10_0_s0 (aL_0 : List TV) (aFuel_1 : Int) (aS_2 aS_3 aS_4 w0_5 : List TV) (w1_6 : Bool) (v_aaea : Int) (vs_26c1 : List TV) : Nd :=
 C51 aL_0 fun vs_f2ac =>
 C38 aS_2 aS_3 aS_4 fun localss_b3da mems_9f94 tolds_75d8 =>
 C52 vs_f2ac localss_b3da mems_9f94 tolds_75d8 aFuel_1 fun vs_49f9 v_21af =>
 G10_1 w0_5 w1_6 vs_26c1 v_aaea vs_49f9 v_21af
noncomputable def NG10_0_s1 (aL_0 : List TV) (aFuel_1 : Int) (aS_2 aS_3 aS_4 w0_5 : List TV) (w1_6 : Bool) (vs_00e0 localss_94f0 mems_d2f9 tolds_8d6b vs_7a74 : List TV) (v_477e : Bool) : Nd :=
 C38 aS_2 aS_3 aS_4 fun localss_7f41 mems_0b77 tolds_b952 =>
 C40 localss_94f0 mems_d2f9 tolds_8d6b localss_7f41 mems_0b77 tolds_b952 fun v_0ee5 =>
 .bif ((!v_0ee5))
 (.ret [tb false] [])
 (C29 vs_00e0 1 fun v_767e vs_db28 =>
 C43 localss_94f0 mems_d2f9 tolds_8d6b v_767e fun v_9642 localss_580a mems_b964 tolds_c8e5 =>
 .bif (decide (v_9642 < 0))
 (.ret [tb false] [])
 (C20 vs_7a74 w0_5 fun v_195b =>
 .bif ((!v_195b))
 (.ret [tb false] [])
 (.bif ((!(v_477e == w1_6)))
 (.ret [tb false] [])
 (C24 vs_7a74 1 fun v_aaea vs_26c1 =>
 C25 vs_26c1 1 fun v_cc6e =>
 .bif (decide (v_cc6e < 0))
 (.ret [tb false] [])
 (.bif ((v_cc6e != v_aaea))
 (.ret [tb false] [])
 (.amb2 
 (NG10_0_s0 aL_0 aFuel_1 aS_2 aS_3 aS_4 w0_5 w1_6 v_aaea vs_26c1) 
 (NG10_0_s0 aL_0 aFuel_1 aS_2 aS_3 aS_4 w0_5 w1_6 v_aaea vs_26c1)))))))
noncomputable def NG10_0 (aL_0 : List TV) (aFuel_1 : Int) (aS_2 aS_3 aS_4 w0_5 : List TV) (w1_6 : Bool) : Nd :=
 C51 aL_0 fun vs_00e0 =>
 C38 aS_2 aS_3 aS_4 fun localss_94f0 mems_d2f9 tolds_8d6b =>
 C52 vs_00e0 localss_94f0 mems_d2f9 tolds_8d6b aFuel_1 fun vs_7a74 v_477e =>
 C20 vs_7a74 w0_5 fun v_f52d =>
 .bif ((!v_f52d))
 (.ret [tb false] [])
 (.bif ((!(v_477e == w1_6)))
 (.ret [tb false] [])
 (C51 aL_0 fun vs_bbb1 =>
 C28 vs_00e0 vs_bbb1 fun v_4cd5 =>
 .bif ((!v_4cd5))
 (.ret [tb false] [])
 (.amb2 
 (NG10_0_s1 aL_0 aFuel_1 aS_2 aS_3 aS_4 w0_5 w1_6 vs_00e0 localss_94f0 mems_d2f9 tolds_8d6b vs_7a74 v_477e) 
 (NG10_0_s1 aL_0 aFuel_1 aS_2 aS_3 aS_4 w0_5 w1_6 vs_00e0 localss_94f0 mems_d2f9 tolds_8d6b vs_7a74 v_477e))))
theorem eG10_0 {aL_0 : List TV} {aFuel_1 : Int} {aS_2 aS_3 aS_4 w0_5 : List TV} {w1_6 : Bool} {r : Res} (h : S cx 10 (NG10_0 aL_0 aFuel_1 aS_2 aS_3 aS_4 w0_5 w1_6) = some r) : S cx 10 (G10_0 aL_0 aFuel_1 aS_2 aS_3 aS_4 w0_5 w1_6) = some r :=
 pw_of (fun call hd hb pt rg => by kernel_rfl) h
noncomputable def NG10_1 (w0_0 : List TV) (w1_1 : Bool) (g0_2 : List TV) (m_3 : Int) (h0_4 : List TV) (h1_5 : Bool) : Nd :=
 C20 h0_4 w0_0 fun v_af26 =>
 .bif ((!v_af26))
 (.ret [tb false] [])
 (.bif ((!(h1_5 == w1_1)))
 (.ret [tb false] [])
 (C25 g0_2 1 fun v_0ea8 =>
 .bif (decide (v_0ea8 < 0))
 (.ret [tb false] [])
 (.bif ((v_0ea8 != m_3))
 (.ret [tb false] [])
 (.ret [tb true] []))))
theorem eG10_1 {w0_0 : List TV} {w1_1 : Bool} {g0_2 : List TV} {m_3 : Int} {h0_4 : List TV} {h1_5 : Bool} {r : Res} (h : S cx 10 (NG10_1 w0_0 w1_1 g0_2 m_3 h0_4 h1_5) = some r) : S cx 10 (G10_1 w0_0 w1_1 g0_2 m_3 h0_4 h1_5) = some r :=
 pw_of (fun call hd hb pt rg => by kernel_rfl) h
noncomputable def EH25_0 (a_0 : List TV) (k_1 i_2 : Int) : Env := [.val [] (sl true ⟨1, false⟩ a_0), .val [] (i64 k_1), .un, .un, .un, .val [] (i64 i_2)] ++ uns 17
noncomputable abbrev H25_0 (a_0 : List TV) (k_1 i_2 : Int) : Nd := .head [1, 0, 1, 2] (EH25_0 a_0 k_1 i_2)
noncomputable abbrev B25_0 (a_0 : List TV) (k_1 i_2 : Int) : Nd := .back [1, 0, 1, 2] (EH25_0 a_0 k_1 i_2)
noncomputable def N25 (a_0 : List TV) (k_1 : Int) : Nd :=
 H25_0 a_0 k_1 0
theorem e25 {a_0 : List TV} {k_1 : Int} {r : Res} (h : S cx 25 (N25 a_0 k_1) = some r) : tw cx 25 [sl true ⟨1, false⟩ a_0, i64 k_1] = some r :=
 tw_of (fun call hd hb pt rg => by kernel_rfl) h
noncomputable def NH25_0 (a_0 : List TV) (k_1 i_2 : Int) : Nd :=
 .bif (decide (i_2 < ((a_0.length : Nat) : Int)))
 (.ck (decide ((0 : Int) ≤ i_2) && decide (i_2 < ((a_0.length : Nat) : Int))) <|
 .int .i64 (a_0.getD (0 + i_2.toNat) (.dead ())) fun x_3db5 =>
 .bif ((x_3db5 != k_1))
 (.ret [i64 (-1)] [])
 (B25_0 a_0 (w64 (k_1 + 1)) (w64 (i_2 + 1))))
 (.ret [i64 k_1] [])
theorem eH25_0 {a_0 : List TV} {k_1 i_2 : Int} {r : Res} (h : S cx 25 (NH25_0 a_0 k_1 i_2) = some r) : S cx 25 (H25_0 a_0 k_1 i_2) = some r :=
 hw_of (fun call hd hb pt rg => by kernel_rfl) h
noncomputable def EH29_0 (k_0 i_2 : Int) (a_1 : List TV) : Env := [.ref 34 [] none 38 false, .val [] (i64 k_0), .un, .un, .un, .val [] (i64 i_2)] ++ uns 28 ++ [.val [] (sl false ⟨3, true⟩ a_1), .un]
noncomputable abbrev H29_0 (k_0 i_2 : Int) (a_1 : List TV) : Nd := .head [1, 0, 1, 2] (EH29_0 k_0 i_2 a_1)
noncomputable abbrev B29_0 (k_0 i_2 : Int) (a_1 : List TV) : Nd := .back [1, 0, 1, 2] (EH29_0 k_0 i_2 a_1)
noncomputable def N29 (a_0 : List TV) (k_1 : Int) : Nd :=
 H29_0 k_1 0 a_0
theorem e29 {a_0 : List TV} {k_1 : Int} {r : Res} (h : S cx 29 (N29 a_0 k_1) = some r) : tw cx 29 [sl false ⟨3, true⟩ a_0, i64 k_1] = some r :=
 tw_of (fun call hd hb pt rg => by kernel_rfl) h
noncomputable def NH29_0 (k_0 i_2 : Int) (a_1 : List TV) : Nd :=
 .bif (decide (i_2 < ((a_1.length : Nat) : Int)))
 (.ck (decide ((0 : Int) ≤ i_2) && decide (i_2 < ((a_1.length : Nat) : Int))) <|
 V3_1 (a_1.getD (0 + i_2.toNat) (.dead ())) fun op_acc8 n_f6c8 tables_83bc =>
 .ck (decide ((0 : Int) ≤ i_2) && decide (i_2 < (((a_1.set (0 + i_2.toNat) (.st [i64 k_0, i64 n_f6c8, sl false ⟨1, false⟩ tables_83bc])).length : Nat) : Int))) <|
 V3_1 ((a_1.set (0 + i_2.toNat) (.st [i64 k_0, i64 n_f6c8, sl false ⟨1, false⟩ tables_83bc])).getD (0 + i_2.toNat) (.dead ())) fun op_fa2a n_4651 tables_a107 =>
 .ck (decide ((0 : Int) ≤ i_2) && decide (i_2 < ((((a_1.set (0 + i_2.toNat) (.st [i64 k_0, i64 n_f6c8, sl false ⟨1, false⟩ tables_83bc])).set (0 + i_2.toNat) (.st [i64 op_fa2a, i64 (w64 (k_0 + 1)), sl false ⟨1, false⟩ tables_a107])).length : Nat) : Int))) <|
 V3_1 (((a_1.set (0 + i_2.toNat) (.st [i64 k_0, i64 n_f6c8, sl false ⟨1, false⟩ tables_83bc])).set (0 + i_2.toNat) (.st [i64 op_fa2a, i64 (w64 (k_0 + 1)), sl false ⟨1, false⟩ tables_a107])).getD (0 + i_2.toNat) (.dead ())) fun op_1442 n_0414 tables_0114 =>
 V3_1 (((a_1.set (0 + i_2.toNat) (.st [i64 k_0, i64 n_f6c8, sl false ⟨1, false⟩ tables_83bc])).set (0 + i_2.toNat) (.st [i64 op_fa2a, i64 (w64 (k_0 + 1)), sl false ⟨1, false⟩ tables_a107])).getD (0 + i_2.toNat) (.dead ())) fun op_7f0e n_49d4 tables_6099 =>
 V3_1 (((a_1.set (0 + i_2.toNat) (.st [i64 k_0, i64 n_f6c8, sl false ⟨1, false⟩ tables_83bc])).set (0 + i_2.toNat) (.st [i64 op_fa2a, i64 (w64 (k_0 + 1)), sl false ⟨1, false⟩ tables_a107])).getD (0 + i_2.toNat) (.dead ())) fun op_934d n_a6cc tables_28f4 =>
 .call 24 [sl false ⟨1, false⟩ tables_6099, i64 (w64 ((w64 (k_0 + 1)) + 1))] fun r_961f =>
 .cons r_961f.1 fun t_6c64 ts_b79e =>
 .int .i64 t_6c64 fun v_28fa =>
 .nil ts_b79e <|
 .cons r_961f.2 fun u_6f6a us_4040 =>
 .slO ⟨1, false⟩ u_6f6a fun vs_44de =>
 .st ((((a_1.set (0 + i_2.toNat) (.st [i64 k_0, i64 n_f6c8, sl false ⟨1, false⟩ tables_83bc])).set (0 + i_2.toNat) (.st [i64 op_fa2a, i64 (w64 (k_0 + 1)), sl false ⟨1, false⟩ tables_a107])).set (0 + i_2.toNat) (.st [i64 op_934d, i64 n_a6cc, .dead ()])).getD (0 + i_2.toNat) (.dead ())) fun fs_e126 =>
 .ck (fieldOk cx.P 95 2 fs_e126) <|
 .ck (csz (fs_e126.getD 2 (.dead ())) == csz (sl false ⟨1, false⟩ vs_44de)) <|
 .nil us_4040 <|
 B29_0 v_28fa (w64 (i_2 + 1)) ((((a_1.set (0 + i_2.toNat) (.st [i64 k_0, i64 n_f6c8, sl false ⟨1, false⟩ tables_83bc])).set (0 + i_2.toNat) (.st [i64 op_fa2a, i64 (w64 (k_0 + 1)), sl false ⟨1, false⟩ tables_a107])).set (0 + i_2.toNat) (.st [i64 op_934d, i64 n_a6cc, .dead ()])).set (0 + i_2.toNat) (.st (fs_e126.set 2 (sl false ⟨1, false⟩ vs_44de)))))
 (.ret [i64 k_0] [sl false ⟨3, true⟩ a_1])
theorem eH29_0 {k_0 i_2 : Int} {a_1 : List TV} {r : Res} (h : S cx 29 (NH29_0 k_0 i_2 a_1) = some r) : S cx 29 (H29_0 k_0 i_2 a_1) = some r :=
 hw_of (fun call hd hb pt rg => by kernel_rfl) h
noncomputable def N50 (l_0 s_1 s_2 s_3 : List TV) (fuel_4 : Int) : Nd :=
 C102 l_0 fun heightss_2820 deads_bee2 code_6e97 at_ef62 v_7fab =>
 .bif ((!v_7fab))
 (.ret [sl false ⟨1, false⟩ ([]), tb false] [])
 (C86 s_1 s_2 s_3 fun v_80b5 =>
 .bif ((!v_80b5))
 (.ret [sl false ⟨1, false⟩ ([]), tb false] [])
 (C87 fuel_4 fun v_ea29 =>
 .bif ((!v_ea29))
 (.ret [sl false ⟨1, false⟩ ([]), tb false] [])
 (C103 l_0 heightss_2820 deads_bee2 code_6e97 at_ef62 s_1 s_2 s_3 fuel_4 fun localss_d625 mems_314f tolds_39dc v_427d vs_8a82 =>
 .ret [sl false ⟨1, false⟩ vs_8a82, tb true] [])))
theorem e50 {l_0 s_1 s_2 s_3 : List TV} {fuel_4 : Int} {r : Res} (h : S cx 50 (N50 l_0 s_1 s_2 s_3 fuel_4) = some r) : tw cx 50 [sl true ⟨3, true⟩ l_0, .st [sl true ⟨1, false⟩ s_1, sl true ⟨1, false⟩ s_2, sl true ⟨1, false⟩ s_3], i64 fuel_4] = some r :=
 tw_of (fun call hd hb pt rg => by kernel_rfl) h
noncomputable def N52 (l_0 s_1 s_2 s_3 : List TV) (fuel_4 : Int) : Nd :=
 .call 105 [sl true ⟨3, true⟩ l_0, .st [sl true ⟨1, false⟩ s_1, sl true ⟨1, false⟩ s_2, sl true ⟨1, false⟩ s_3], i64 fuel_4] fun r_47ca =>
 .cons r_47ca.1 fun t_e987 ts_6868 =>
 .ptO t_e987 (.nil ts_6868 <|
 .nil r_47ca.2 <|
 .ret [sl false ⟨1, false⟩ ([]), tb false] []) fun p_492c =>
 .st p_492c fun ts_a87c =>
 .cons ts_a87c fun t_eed6 ts_3844 =>
 .ptO t_eed6 (.non) fun p_2e42 =>
 .st p_2e42 fun ts_74d6 =>
 .cons ts_74d6 fun t_dce4 ts_fff3 =>
 .ptO t_dce4 (.non) fun p_38aa =>
 V4 p_38aa fun ls_f9a8 endss_93d8 others_dbca opens_94e6 =>
 .cons ts_fff3 fun t_520e ts_5130 =>
 .slO ⟨1, false⟩ t_520e fun heightss_1a76 =>
 .cons ts_5130 fun t_d4b8 ts_b3f8 =>
 .slO ⟨1, false⟩ t_d4b8 fun deads_8f63 =>
 .cons ts_b3f8 fun t_219f ts_480a =>
 .slO ⟨1, false⟩ t_219f fun basess_1a58 =>
 .cons ts_480a fun t_22c2 ts_ccc0 =>
 .int .i64 t_22c2 fun code_87ca =>
 .cons ts_ccc0 fun t_f1ba ts_c3b4 =>
 .int .i64 t_f1ba fun place_86d6 =>
 .nil ts_c3b4 <|
 .cons ts_3844 fun t_0d3b ts_8fc6 =>
 V3_2 t_0d3b fun localss_93e7 mems_43e2 tolds_f048 =>
 .cons ts_8fc6 fun t_ce37 ts_af08 =>
 .slO ⟨1, false⟩ t_ce37 fun stacks_12ef =>
 .cons ts_af08 fun t_f89c ts_1586 =>
 .int .i64 t_f89c fun at_4969 =>
 .nil ts_1586 <|
 .nil ts_6868 <|
 .nil r_47ca.2 <|
 C106 ls_f9a8 endss_93d8 others_dbca opens_94e6 heightss_1a76 deads_8f63 basess_1a58 code_87ca place_86d6 localss_93e7 mems_43e2 tolds_f048 stacks_12ef at_4969 fuel_4 fun v_cfd3 vs_320a ls_87a1 endss_5a58 others_d781 opens_fb50 heightss_b430 deads_6e08 basess_06b2 code_e1d1 place_5c51 localss_e914 mems_ef9c tolds_eb94 stacks_d7dd at_15f9 =>
 .ret [sl false ⟨1, false⟩ vs_320a, tb true] []
theorem e52 {l_0 s_1 s_2 s_3 : List TV} {fuel_4 : Int} {r : Res} (h : S cx 52 (N52 l_0 s_1 s_2 s_3 fuel_4) = some r) : tw cx 52 [sl true ⟨3, true⟩ l_0, .st [sl true ⟨1, false⟩ s_1, sl true ⟨1, false⟩ s_2, sl true ⟨1, false⟩ s_3], i64 fuel_4] = some r :=
 tw_of (fun call hd hb pt rg => by kernel_rfl) h
end Go.Tree.M
