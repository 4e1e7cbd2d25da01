/- The machine: points of the law alone. Conditions: none. -/
import Derived.Test.YtipikejhchpfnaaMm1
import Derived.Test.YtipikejhchpfnaaMm2
/- Points of the law alone. -/
namespace Go.Tree.M
open Go.Proofs
set_option linter.unusedVariables false
set_option maxRecDepth 20000
noncomputable def EG12_0 (aA_0 aB_1 : List TV) (aFuel_2 : Int) (aS_3 aS_4 aS_5 : List TV) (w0_6 w1_7 : Bool) : Env := [.val [] (sl true ⟨3, true⟩ aA_0), .val [] (sl true ⟨3, true⟩ aB_1), .un, .val [] (i64 aFuel_2), .un, .un, .val [] (.pt false () (.st [sl true ⟨1, false⟩ aS_3, sl true ⟨1, false⟩ aS_4, sl true ⟨1, false⟩ aS_5])), .un, .un, .un, .val [] (tb w0_6), .val [] (tb w1_7)] ++ uns 72
noncomputable abbrev G12_0 (aA_0 aB_1 : List TV) (aFuel_2 : Int) (aS_3 aS_4 aS_5 : List TV) (w0_6 w1_7 : Bool) : Nd := .go [1, 1, 1, 1, 1, 1, 1, 1, 1] (EG12_0 aA_0 aB_1 aFuel_2 aS_3 aS_4 aS_5 w0_6 w1_7)
noncomputable def N12_s0 (aA_0 aB_1 aS_2 aS_3 aS_4 : List TV) (aFuel_5 : Int) (vs_fc5a : List TV) : Nd :=
 C51 aB_1 fun vs_0f79 =>
 C38 aS_2 aS_3 aS_4 fun localss_94f0 mems_d2f9 tolds_8d6b =>
 C55 vs_fc5a vs_0f79 localss_94f0 mems_d2f9 tolds_8d6b aFuel_5 fun v_50a4 v_8802 =>
 G12_0 aA_0 aB_1 aFuel_5 aS_2 aS_3 aS_4 v_50a4 v_8802
noncomputable def N12 (aA_0 aB_1 aS_2 aS_3 aS_4 : List TV) (aFuel_5 : Int) : Nd :=
 C49 aA_0 1048576 fun v_3ecf =>
 .bif (decide (v_3ecf < 0))
 (.ret [tb true] [])
 (C49 aB_1 v_3ecf fun v_9015 =>
 .bif (decide (v_9015 < 0))
 (.ret [tb true] [])
 (C35 aS_2 aS_3 aS_4 v_9015 fun v_35eb =>
 .bif (decide (v_35eb < 0))
 (.ret [tb true] [])
 (.amb2 
 (C51 aA_0 fun vs_fc5a =>
 .amb2 
 (N12_s0 aA_0 aB_1 aS_2 aS_3 aS_4 aFuel_5 vs_fc5a) 
 (N12_s0 aA_0 aB_1 aS_2 aS_3 aS_4 aFuel_5 vs_fc5a)) 
 (C51 aA_0 fun vs_fc5a =>
 N12_s0 aA_0 aB_1 aS_2 aS_3 aS_4 aFuel_5 vs_fc5a))))
theorem e12 {aA_0 aB_1 aS_2 aS_3 aS_4 : List TV} {aFuel_5 : Int} {r : Res} (h : S cx 12 (N12 aA_0 aB_1 aS_2 aS_3 aS_4 aFuel_5) = some r) : tw cx 12 [sl true ⟨3, true⟩ aA_0, sl true ⟨3, true⟩ aB_1, .st [sl true ⟨1, false⟩ aS_2, sl true ⟨1, false⟩ aS_3, sl true ⟨1, false⟩ aS_4], i64 aFuel_5] = some r :=
 tw_of (fun call hd hb pt rg => by kernel_rfl) h
noncomputable def NG12_0_s0 (aS_3 aS_4 aS_5 localss_be06 mems_d8ae tolds_8483 : List TV) : Nd :=
 C38 aS_3 aS_4 aS_5 fun localss_97ba mems_b3c1 tolds_a846 =>
 C40 localss_be06 mems_d8ae tolds_8483 localss_97ba mems_b3c1 tolds_a846 fun v_50e5 =>
 .bif ((!v_50e5))
 (.ret [tb false] [])
 (.ret [tb true] [])
noncomputable def NG12_0 (aA_0 aB_1 : List TV) (aFuel_2 : Int) (aS_3 aS_4 aS_5 : List TV) (w0_6 w1_7 : Bool) : Nd :=
 C51 aA_0 fun vs_fc5a =>
 C51 aB_1 fun vs_0f79 =>
 C38 aS_3 aS_4 aS_5 fun localss_be06 mems_d8ae tolds_8483 =>
 C56 vs_fc5a vs_0f79 localss_be06 mems_d8ae tolds_8483 aFuel_2 fun v_5345 v_4a37 =>
 .bif ((!(v_5345 == w0_6)))
 (.ret [tb false] [])
 (.bif ((!(v_4a37 == w1_7)))
 (.ret [tb false] [])
 (C51 aA_0 fun vs_d797 =>
 C28 vs_fc5a vs_d797 fun v_ef99 =>
 .bif ((!v_ef99))
 (.ret [tb false] [])
 (C51 aB_1 fun vs_4ec2 =>
 C28 vs_0f79 vs_4ec2 fun v_93a4 =>
 .bif ((!v_93a4))
 (.ret [tb false] [])
 (.amb2 
 (NG12_0_s0 aS_3 aS_4 aS_5 localss_be06 mems_d8ae tolds_8483) 
 (NG12_0_s0 aS_3 aS_4 aS_5 localss_be06 mems_d8ae tolds_8483)))))
theorem eG12_0 {aA_0 aB_1 : List TV} {aFuel_2 : Int} {aS_3 aS_4 aS_5 : List TV} {w0_6 w1_7 : Bool} {r : Res} (h : S cx 12 (NG12_0 aA_0 aB_1 aFuel_2 aS_3 aS_4 aS_5 w0_6 w1_7) = some r) : S cx 12 (G12_0 aA_0 aB_1 aFuel_2 aS_3 aS_4 aS_5 w0_6 w1_7) = some r :=
 pw_of (fun call hd hb pt rg => by kernel_rfl) h
noncomputable def N55 (a_0 b_1 s_2 s_3 s_4 : List TV) (fuel_5 : Int) : Nd :=
 C57 a_0 s_2 s_3 s_4 fuel_5 fun localss_c486 mems_840c tolds_5fb1 v_ccff v_9761 v_44be =>
 C57 b_1 s_2 s_3 s_4 fuel_5 fun localss_1703 mems_c848 tolds_e831 v_27a6 v_687a v_4060 =>
 .bif ((!v_44be))
 (.ret [tb false, tb false] [])
 (.bif ((!v_4060))
 (.ret [tb false, tb false] [])
 (.bif ((v_ccff == 3))
 (.ret [tb false, tb false] [])
 (.bif ((v_27a6 == 3))
 (.ret [tb false, tb false] [])
 (.bif ((v_ccff == v_27a6))
 (C109 localss_c486 mems_840c tolds_5fb1 localss_1703 mems_c848 tolds_e831 fun v_5e70 =>
 .ret [tb v_5e70, tb true] [])
 (.ret [tb false, tb true] [])))))
theorem e55 {a_0 b_1 s_2 s_3 s_4 : List TV} {fuel_5 : Int} {r : Res} (h : S cx 55 (N55 a_0 b_1 s_2 s_3 s_4 fuel_5) = some r) : tw cx 55 [sl true ⟨3, true⟩ a_0, sl true ⟨3, true⟩ b_1, .st [sl true ⟨1, false⟩ s_2, sl true ⟨1, false⟩ s_3, sl true ⟨1, false⟩ s_4], i64 fuel_5] = some r :=
 tw_of (fun call hd hb pt rg => by kernel_rfl) h
noncomputable def N56 (a_0 b_1 s_2 s_3 s_4 : List TV) (fuel_5 : Int) : Nd :=
 C58 a_0 s_2 s_3 s_4 fuel_5 fun localss_2e9b mems_8058 tolds_0cb6 v_450b v_e319 v_01de =>
 C58 b_1 s_2 s_3 s_4 fuel_5 fun localss_1c1d mems_c2a4 tolds_83e0 v_4c68 v_d51c v_6893 =>
 .bif ((!v_01de))
 (.ret [tb false, tb false] [])
 (.bif ((!v_6893))
 (.ret [tb false, tb false] [])
 (.bif ((v_450b == 3))
 (.ret [tb false, tb false] [])
 (.bif ((v_4c68 == 3))
 (.ret [tb false, tb false] [])
 (.bif ((v_450b == v_4c68))
 (C110 localss_2e9b mems_8058 tolds_0cb6 localss_1c1d mems_c2a4 tolds_83e0 fun v_14e0 =>
 .ret [tb v_14e0, tb true] [])
 (.ret [tb false, tb true] [])))))
theorem e56 {a_0 b_1 s_2 s_3 s_4 : List TV} {fuel_5 : Int} {r : Res} (h : S cx 56 (N56 a_0 b_1 s_2 s_3 s_4 fuel_5) = some r) : tw cx 56 [sl true ⟨3, true⟩ a_0, sl true ⟨3, true⟩ b_1, .st [sl true ⟨1, false⟩ s_2, sl true ⟨1, false⟩ s_3, sl true ⟨1, false⟩ s_4], i64 fuel_5] = some r :=
 tw_of (fun call hd hb pt rg => by kernel_rfl) h
noncomputable def N57 (l_0 s_1 s_2 s_3 : List TV) (fuel_4 : Int) : Nd :=
 C102 l_0 fun heightss_2820 deads_bee2 code_6e97 at_ef62 v_7fab =>
 .bif ((!v_7fab))
 (.ret [.st [sl false ⟨1, false⟩ ([]), sl false ⟨1, false⟩ ([]), sl false ⟨1, false⟩ ([])], i64 0, i64 0, tb false] [])
 (C86 s_1 s_2 s_3 fun v_80b5 =>
 .bif ((!v_80b5))
 (.ret [.st [sl false ⟨1, false⟩ ([]), sl false ⟨1, false⟩ ([]), sl false ⟨1, false⟩ ([])], i64 0, i64 0, tb false] [])
 (C87 fuel_4 fun v_ea29 =>
 .bif ((!v_ea29))
 (.ret [.st [sl false ⟨1, false⟩ ([]), sl false ⟨1, false⟩ ([]), sl false ⟨1, false⟩ ([])], i64 0, i64 0, tb false] [])
 (C103 l_0 heightss_2820 deads_bee2 code_6e97 at_ef62 s_1 s_2 s_3 fuel_4 fun localss_d625 mems_314f tolds_39dc v_427d vs_8a82 =>
 C89 localss_d625 mems_314f tolds_39dc fun localss_98a5 mems_be28 tolds_543b =>
 .ret [.st [sl false ⟨1, false⟩ localss_98a5, sl false ⟨1, false⟩ mems_be28, sl false ⟨1, false⟩ tolds_543b], i64 v_427d, i64 ((vs_8a82.length : Nat) : Int), tb true] [])))
theorem e57 {l_0 s_1 s_2 s_3 : List TV} {fuel_4 : Int} {r : Res} (h : S cx 57 (N57 l_0 s_1 s_2 s_3 fuel_4) = some r) : tw cx 57 [sl true ⟨3, true⟩ l_0, .st [sl true ⟨1, false⟩ s_1, sl true ⟨1, false⟩ s_2, sl true ⟨1, false⟩ s_3], i64 fuel_4] = some r :=
 tw_of (fun call hd hb pt rg => by kernel_rfl) h
noncomputable def N58 (l_0 s_1 s_2 s_3 : List TV) (fuel_4 : Int) : Nd :=
 .call 105 [sl true ⟨3, true⟩ l_0, .st [sl true ⟨1, false⟩ s_1, sl true ⟨1, false⟩ s_2, sl true ⟨1, false⟩ s_3], i64 fuel_4] fun r_47ca =>
 .cons r_47ca.1 fun t_e987 ts_6868 =>
 .ptO t_e987 (.nil ts_6868 <|
 .nil r_47ca.2 <|
 .ret [.st [sl false ⟨1, false⟩ ([]), sl false ⟨1, false⟩ ([]), sl false ⟨1, false⟩ ([])], i64 0, i64 0, tb false] []) fun p_492c =>
 .st p_492c fun ts_a87c =>
 .cons ts_a87c fun t_eed6 ts_3844 =>
 .ptO t_eed6 (.non) fun p_2e42 =>
 .st p_2e42 fun ts_74d6 =>
 .cons ts_74d6 fun t_dce4 ts_fff3 =>
 .ptO t_dce4 (.non) fun p_38aa =>
 V4 p_38aa fun ls_f9a8 endss_93d8 others_dbca opens_94e6 =>
 .cons ts_fff3 fun t_520e ts_5130 =>
 .slO ⟨1, false⟩ t_520e fun heightss_1a76 =>
 .cons ts_5130 fun t_d4b8 ts_b3f8 =>
 .slO ⟨1, false⟩ t_d4b8 fun deads_8f63 =>
 .cons ts_b3f8 fun t_219f ts_480a =>
 .slO ⟨1, false⟩ t_219f fun basess_1a58 =>
 .cons ts_480a fun t_22c2 ts_ccc0 =>
 .int .i64 t_22c2 fun code_87ca =>
 .cons ts_ccc0 fun t_f1ba ts_c3b4 =>
 .int .i64 t_f1ba fun place_86d6 =>
 .nil ts_c3b4 <|
 .cons ts_3844 fun t_0d3b ts_8fc6 =>
 V3_2 t_0d3b fun localss_93e7 mems_43e2 tolds_f048 =>
 .cons ts_8fc6 fun t_ce37 ts_af08 =>
 .slO ⟨1, false⟩ t_ce37 fun stacks_12ef =>
 .cons ts_af08 fun t_f89c ts_1586 =>
 .int .i64 t_f89c fun at_4969 =>
 .nil ts_1586 <|
 .nil ts_6868 <|
 .nil r_47ca.2 <|
 C106 ls_f9a8 endss_93d8 others_dbca opens_94e6 heightss_1a76 deads_8f63 basess_1a58 code_87ca place_86d6 localss_93e7 mems_43e2 tolds_f048 stacks_12ef at_4969 fuel_4 fun v_cfd3 vs_320a ls_87a1 endss_5a58 others_d781 opens_fb50 heightss_b430 deads_6e08 basess_06b2 code_e1d1 place_5c51 localss_e914 mems_ef9c tolds_eb94 stacks_d7dd at_15f9 =>
 .ret [.st [sl false ⟨1, false⟩ localss_e914, sl false ⟨1, false⟩ mems_ef9c, sl false ⟨1, false⟩ tolds_eb94], i64 v_cfd3, i64 ((vs_320a.length : Nat) : Int), tb true] []
theorem e58 {l_0 s_1 s_2 s_3 : List TV} {fuel_4 : Int} {r : Res} (h : S cx 58 (N58 l_0 s_1 s_2 s_3 fuel_4) = some r) : tw cx 58 [sl true ⟨3, true⟩ l_0, .st [sl true ⟨1, false⟩ s_1, sl true ⟨1, false⟩ s_2, sl true ⟨1, false⟩ s_3], i64 fuel_4] = some r :=
 tw_of (fun call hd hb pt rg => by kernel_rfl) h
noncomputable def EH107_0 (a_0 b_1 : List TV) (v_2 : Int) : Env := [.val [] (sl true ⟨1, false⟩ a_0), .val [] (sl true ⟨1, false⟩ b_1)] ++ uns 10 ++ [.val [] (i64 ((a_0.length : Nat) : Int)), .val [] (i64 v_2)] ++ uns 14
noncomputable abbrev H107_0 (a_0 b_1 : List TV) (v_2 : Int) : Nd := .head [1, 1, 0, 1, 2] (EH107_0 a_0 b_1 v_2)
noncomputable abbrev B107_0 (a_0 b_1 : List TV) (v_2 : Int) : Nd := .back [1, 1, 0, 1, 2] (EH107_0 a_0 b_1 v_2)
noncomputable def N107 (a_0 b_1 : List TV) : Nd :=
 .bif ((((a_0.length : Nat) : Int) != ((b_1.length : Nat) : Int)))
 (.ret [tb false] [])
 (H107_0 a_0 b_1 0)
theorem e107 {a_0 b_1 : List TV} {r : Res} (h : S cx 107 (N107 a_0 b_1) = some r) : tw cx 107 [sl true ⟨1, false⟩ a_0, sl true ⟨1, false⟩ b_1] = some r :=
 tw_of (fun call hd hb pt rg => by kernel_rfl) h
noncomputable def NH107_0 (a_0 b_1 : List TV) (v_2 : Int) : Nd :=
 .bif (decide (v_2 < ((a_0.length : Nat) : Int)))
 (.ck (decide ((0 : Int) ≤ v_2) && decide (v_2 < ((a_0.length : Nat) : Int))) <|
 .int .i64 (a_0.getD (0 + v_2.toNat) (.dead ())) fun x_e185 =>
 .ck (decide ((0 : Int) ≤ v_2) && decide (v_2 < ((b_1.length : Nat) : Int))) <|
 .int .i64 (b_1.getD (0 + v_2.toNat) (.dead ())) fun x_4e1c =>
 .bif ((x_e185 != x_4e1c))
 (.ret [tb false] [])
 (B107_0 a_0 b_1 (w64 (v_2 + 1))))
 (.ret [tb true] [])
theorem eH107_0 {a_0 b_1 : List TV} {v_2 : Int} {r : Res} (h : S cx 107 (NH107_0 a_0 b_1 v_2) = some r) : S cx 107 (H107_0 a_0 b_1 v_2) = some r :=
 hw_of (fun call hd hb pt rg => by kernel_rfl) h
noncomputable def EH108_0 (s1_0 s2_1 : List TV) (v_2 : Int) : Env := [.val [] (sl true ⟨1, false⟩ s1_0), .val [] (sl true ⟨1, false⟩ s2_1)] ++ uns 10 ++ [.val [] (i64 ((s1_0.length : Nat) : Int)), .val [] (i64 v_2)] ++ uns 14
noncomputable abbrev H108_0 (s1_0 s2_1 : List TV) (v_2 : Int) : Nd := .head [1, 1, 0, 1, 2] (EH108_0 s1_0 s2_1 v_2)
noncomputable abbrev B108_0 (s1_0 s2_1 : List TV) (v_2 : Int) : Nd := .back [1, 1, 0, 1, 2] (EH108_0 s1_0 s2_1 v_2)
noncomputable def N108 (s1_0 s2_1 : List TV) : Nd :=
 .bif ((((s1_0.length : Nat) : Int) != ((s2_1.length : Nat) : Int)))
 (.ret [tb false] [])
 (H108_0 s1_0 s2_1 0)
theorem e108 {s1_0 s2_1 : List TV} {r : Res} (h : S cx 108 (N108 s1_0 s2_1) = some r) : tw cx 108 [sl true ⟨1, false⟩ s1_0, sl true ⟨1, false⟩ s2_1] = some r :=
 tw_of (fun call hd hb pt rg => by kernel_rfl) h
noncomputable def NH108_0 (s1_0 s2_1 : List TV) (v_2 : Int) : Nd :=
 .bif (decide (v_2 < ((s1_0.length : Nat) : Int)))
 (.ck (decide ((0 : Int) ≤ v_2) && decide (v_2 < ((s1_0.length : Nat) : Int))) <|
 .int .i64 (s1_0.getD (0 + v_2.toNat) (.dead ())) fun x_ace8 =>
 .ck (decide ((0 : Int) ≤ v_2) && decide (v_2 < ((s2_1.length : Nat) : Int))) <|
 .int .i64 (s2_1.getD (0 + v_2.toNat) (.dead ())) fun x_53a9 =>
 .bif ((x_ace8 != x_53a9))
 (.ret [tb false] [])
 (B108_0 s1_0 s2_1 (w64 (v_2 + 1))))
 (.ret [tb true] [])
theorem eH108_0 {s1_0 s2_1 : List TV} {v_2 : Int} {r : Res} (h : S cx 108 (NH108_0 s1_0 s2_1 v_2) = some r) : S cx 108 (H108_0 s1_0 s2_1 v_2) = some r :=
 hw_of (fun call hd hb pt rg => by kernel_rfl) h
noncomputable def N109 (a_0 a_1 a_2 b_3 b_4 b_5 : List TV) : Nd :=
 C107 a_0 b_3 fun v_a9af =>
 .bif (v_a9af)
 (C107 a_1 b_4 fun v_f417 =>
 .bif (v_f417)
 (C107 a_2 b_5 fun v_a78f =>
 .ret [tb v_a78f] [])
 (.ret [tb false] []))
 (.ret [tb false] [])
theorem e109 {a_0 a_1 a_2 b_3 b_4 b_5 : List TV} {r : Res} (h : S cx 109 (N109 a_0 a_1 a_2 b_3 b_4 b_5) = some r) : tw cx 109 [.st [sl true ⟨1, false⟩ a_0, sl true ⟨1, false⟩ a_1, sl true ⟨1, false⟩ a_2], .st [sl true ⟨1, false⟩ b_3, sl true ⟨1, false⟩ b_4, sl true ⟨1, false⟩ b_5]] = some r :=
 tw_of (fun call hd hb pt rg => by kernel_rfl) h
noncomputable def N110 (a_0 a_1 a_2 b_3 b_4 b_5 : List TV) : Nd :=
 C108 a_0 b_3 fun v_3fae =>
 .bif (v_3fae)
 (C108 a_1 b_4 fun v_fc45 =>
 .bif (v_fc45)
 (C108 a_2 b_5 fun v_e3f6 =>
 .ret [tb v_e3f6] [])
 (.ret [tb false] []))
 (.ret [tb false] [])
theorem e110 {a_0 a_1 a_2 b_3 b_4 b_5 : List TV} {r : Res} (h : S cx 110 (N110 a_0 a_1 a_2 b_3 b_4 b_5) = some r) : tw cx 110 [.st [sl true ⟨1, false⟩ a_0, sl true ⟨1, false⟩ a_1, sl true ⟨1, false⟩ a_2], .st [sl true ⟨1, false⟩ b_3, sl true ⟨1, false⟩ b_4, sl true ⟨1, false⟩ b_5]] = some r :=
 tw_of (fun call hd hb pt rg => by kernel_rfl) h
end Go.Tree.M
