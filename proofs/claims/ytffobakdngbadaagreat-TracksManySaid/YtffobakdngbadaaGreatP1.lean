/-
  A part of the proof: laws for walks, and plain laws, over any program of the model. Each theorem holds under its own premises alone.
-/
import Derived.Test.YtffobakdngbadaaGreatKit
import Derived.Test.YtffobakdngbadaaGreatRows
import Derived.Test.YtffobakdngbadaaGreatKitY
import Derived.Laws.BitsAll
namespace Go.Proofs.YtffobakdngbadaaGreat
open Go.Lk
theorem u_0 : type_of% Tryz.underlying0 := Tryz.underlying0
theorem u_2 : type_of% Tryz.underlying2 := Tryz.underlying2
theorem u_3 : type_of% Tryz.underlying3 := Tryz.underlying3
theorem u_4 : type_of% Tryz.underlying4 := Tryz.underlying4
theorem u_5 : type_of% Tryz.underlying5 := Tryz.underlying5
theorem u_9 : type_of% Tryz.underlying9 := Tryz.underlying9
theorem u_22 : type_of% Tryz.underlying22 := Tryz.underlying22
theorem jbM : type_of% Tryz.underlying24 := Tryz.underlying24
theorem u_28 : type_of% Tryz.underlying28 := Tryz.underlying28
theorem jeA : type_of% Tryz.underlying36 := Tryz.underlying36
theorem u_38 : type_of% Tryz.underlying38 := Tryz.underlying38
theorem jqM : type_of% Tryz.underlying42 := Tryz.underlying42
theorem jnA : type_of% Tryz.underlying44 := Tryz.underlying44
theorem u_46 : type_of% Tryz.underlying46 := Tryz.underlying46
theorem jdE : type_of% Tryz.underlying48 := Tryz.underlying48
theorem u_49 : type_of% Tryz.underlying49 := Tryz.underlying49
theorem jcC : type_of% Tryz.underlying51 := Tryz.underlying51
theorem jbW : type_of% Tryz.underlying52 := Tryz.underlying52
theorem jkX : type_of% Tryz.underlying55 := Tryz.underlying55
theorem jpY : type_of% Tryz.underlying63 := Tryz.underlying63
theorem jfS : type_of% Tryz.underlying66 := Tryz.underlying66
theorem jhS : type_of% Tryz.underlying68 := Tryz.underlying68
theorem jeK : type_of% Tryz.underlying70 := Tryz.underlying70
theorem jpM : type_of% Tryz.underlying76 := Tryz.underlying76
theorem u_77 : type_of% Tryz.underlying77 := Tryz.underlying77
theorem u_81 : type_of% Tryz.underlying81 := Tryz.underlying81
theorem u_83 : type_of% Tryz.underlying83 := Tryz.underlying83
theorem jd4 : type_of% Tryz.underlying85 := Tryz.underlying85
theorem u_86 : type_of% Tryz.underlying86 := Tryz.underlying86
theorem jbK : type_of% Tryz.underlying88 := Tryz.underlying88
theorem u_92 : type_of% Tryz.underlying92 := Tryz.underlying92
theorem u_96 : type_of% Tryz.underlying96 := Tryz.underlying96
theorem u_99 : type_of% Tryz.underlying99 := Tryz.underlying99
theorem jc9 : type_of% Tryz.underlying103 := Tryz.underlying103
theorem u_108 : type_of% Tryz.underlying108 := Tryz.underlying108
theorem u_109 : type_of% Tryz.underlying109 := Tryz.underlying109
theorem jcW : type_of% Tryz.underlying123 := Tryz.underlying123
theorem u_129 : type_of% Tryz.underlying129 := Tryz.underlying129
theorem jbB : type_of% Tryz.underlying134 := Tryz.underlying134
theorem u_137 : type_of% Tryz.underlying137 := Tryz.underlying137
theorem jfC : type_of% Tryz.underlying139 := Tryz.underlying139
theorem u_151 : type_of% Tryz.underlying151 := Tryz.underlying151
theorem u_156 : type_of% Tryz.underlying156 := Tryz.underlying156
theorem u_157 : type_of% Tryz.underlying157 := Tryz.underlying157
theorem u_161 : type_of% Tryz.underlying161 := Tryz.underlying161
theorem u_164 : type_of% Tryz.underlying164 := Tryz.underlying164
theorem u_168 : type_of% Tryz.underlying168 := Tryz.underlying168
theorem u_172 : type_of% Tryz.underlying172 := Tryz.underlying172
theorem u_174 : type_of% Tryz.underlying174 := Tryz.underlying174
theorem u_175 : type_of% Tryz.underlying175 := Tryz.underlying175
theorem Tryz.mixed : Tryz.prog.follows .mixedOrders = true := by kernel_rfl
theorem i_2 : TI Tryz.prog 2 (.int .i64 0) 1 8 := TI.of (by kernel_rfl)
theorem o_2 : One Tryz.prog 2 := ⟨_, u_2, rfl⟩
theorem i_3 : TI Tryz.prog 3 (.int .i64 0) 1 8 := TI.of (by kernel_rfl)
theorem o_3 : One Tryz.prog 3 := ⟨_, u_3, rfl⟩
theorem i_4 : TI Tryz.prog 4 (.bool false) 1 1 := TI.of (by kernel_rfl)
theorem o_4 : One Tryz.prog 4 := ⟨_, u_4, rfl⟩
theorem jaS : TI Tryz.prog 22 (.float .f64 0) 1 8 := TI.of (by kernel_rfl)
theorem jb5 : One Tryz.prog 22 := ⟨_, u_22, rfl⟩
theorem jfP : TI Tryz.prog 24 (.agg #[(.float .f64 0), (.float .f64 0), (.float .f64 0), (.int .i64 0), (.int .i64 0), (.int .i64 0)]) 6 48 := TI.of (by kernel_rfl)
theorem a_24 : Agg Tryz.prog 24 := ⟨_, jbM, rfl⟩
theorem i_36 : TI Tryz.prog 36 (.slice none 0 0) 1 24 := TI.of (by kernel_rfl)
theorem o_36 : One Tryz.prog 36 := ⟨_, jeA, rfl⟩
theorem jg7 : TI Tryz.prog 42 (.agg #[(.float .f64 0), (.float .f64 0), (.float .f64 0), (.float .f64 0), (.float .f64 0)]) 5 40 := TI.of (by kernel_rfl)
theorem a_42 : Agg Tryz.prog 42 := ⟨_, jqM, rfl⟩
theorem jmS : TI Tryz.prog 46 (.int .i8 0) 1 1 := TI.of (by kernel_rfl)
theorem o_46 : One Tryz.prog 46 := ⟨_, u_46, rfl⟩
theorem jbP : TI Tryz.prog 48 (.agg #[(.float .f64 0), (.float .f64 0), (.float .f64 0), (.float .f64 0), (.float .f64 0)]) 5 40 := TI.of (by kernel_rfl)
theorem jfY : Agg Tryz.prog 48 := ⟨_, jdE, rfl⟩
theorem i_49 : TI Tryz.prog 49 (.int .u16 0) 1 2 := TI.of (by kernel_rfl)
theorem o_49 : One Tryz.prog 49 := ⟨_, u_49, rfl⟩
theorem jcE : TI Tryz.prog 51 (.agg #[(.int .i64 0), (.int .i8 0), (.float .f64 0), (.float .f64 0), (.float .f64 0), (.float .f64 0), (.float .f64 0), (.float .f64 0), (.float .f64 0), (.float .f64 0), (.float .f64 0), (.float .f64 0), (.int .u16 0), (.int .i64 0), (.float .f64 0)]) 15 120 := TI.of (by kernel_rfl)
theorem a_51 : Agg Tryz.prog 51 := ⟨_, jcC, rfl⟩
theorem jg2 : TI Tryz.prog 52 (.slice none 0 0) 1 24 := TI.of (by kernel_rfl)
theorem jgQ : One Tryz.prog 52 := ⟨_, jbW, rfl⟩
theorem jn1 : TI Tryz.prog 55 (.slice none 0 0) 1 24 := TI.of (by kernel_rfl)
theorem o_55 : One Tryz.prog 55 := ⟨_, jkX, rfl⟩
theorem i_63 : TI Tryz.prog 63 (.map none) 1 8 := TI.of (by kernel_rfl)
theorem o_63 : One Tryz.prog 63 := ⟨_, jpY, rfl⟩
theorem jq7 : TI Tryz.prog 68 (.slice none 0 0) 1 24 := TI.of (by kernel_rfl)
theorem o_68 : One Tryz.prog 68 := ⟨_, jhS, rfl⟩
theorem i_77 : TI Tryz.prog 77 (.pointer none) 1 8 := TI.of (by kernel_rfl)
theorem jmF : TI Tryz.prog 83 (.agg #[(.float .f64 0), (.float .f64 0)]) 2 16 := TI.of (by kernel_rfl)
theorem a_83 : Agg Tryz.prog 83 := ⟨_, u_83, rfl⟩
theorem i_85 : TI Tryz.prog 85 (.slice none 0 0) 1 24 := TI.of (by kernel_rfl)
theorem o_85 : One Tryz.prog 85 := ⟨_, jd4, rfl⟩
theorem i_86 : TI Tryz.prog 86 (.pointer none) 1 8 := TI.of (by kernel_rfl)
theorem o_86 : One Tryz.prog 86 := ⟨_, u_86, rfl⟩
theorem jd1 : TI Tryz.prog 88 (.slice none 0 0) 1 24 := TI.of (by kernel_rfl)
theorem jdR : One Tryz.prog 88 := ⟨_, jbK, rfl⟩
theorem je3 : TI Tryz.prog 103 (.agg #[(.int .i64 0), (.int .i8 0), (.float .f64 0), (.float .f64 0), (.float .f64 0), (.float .f64 0), (.float .f64 0), (.float .f64 0), (.float .f64 0), (.float .f64 0), (.float .f64 0), (.float .f64 0), (.int .u16 0), (.int .i64 0), (.float .f64 0), (.slice none 0 0), (.slice none 0 0)]) 17 168 := TI.of (by kernel_rfl)
theorem a_103 : Agg Tryz.prog 103 := ⟨_, jc9, rfl⟩
theorem i_129 : TI Tryz.prog 129 (.agg #[(.float .f64 0), (.float .f64 0)]) 2 16 := TI.of (by kernel_rfl)
theorem a_129 : Agg Tryz.prog 129 := ⟨_, u_129, rfl⟩
theorem i_151 : TI Tryz.prog 151 (.agg #[(.float .f64 0), (.float .f64 0), (.float .f64 0), (.float .f64 0), (.float .f64 0), (.float .f64 0), (.float .f64 0), (.float .f64 0), (.float .f64 0), (.float .f64 0), (.float .f64 0), (.float .f64 0), (.float .f64 0), (.float .f64 0), (.float .f64 0), (.float .f64 0), (.float .f64 0), (.float .f64 0), (.float .f64 0), (.float .f64 0), (.float .f64 0), (.float .f64 0), (.float .f64 0), (.float .f64 0)]) 24 192 := TI.of (by kernel_rfl)
theorem a_151 : Agg Tryz.prog 151 := ⟨_, u_151, rfl⟩
theorem Tryz.pl24 : Pl Tryz.prog 24 [(.float .f64 0), (.float .f64 0), (.float .f64 0), (.int .i64 0), (.int .i64 0), (.int .i64 0)] [(0, 1), (1, 1), (2, 1), (3, 1), (4, 1), (5, 1)] := Pl.of (by kernel_rfl) jbM (by kernel_rfl)
theorem Tryz.pl38 : Pl Tryz.prog 38 [(.int .i64 0), (.float .f64 0), (.slice none 0 0), (.int .i64 0)] [(0, 1), (1, 1), (2, 1), (3, 1)] := Pl.of (by kernel_rfl) u_38 (by kernel_rfl)
theorem Tryz.pl42 : Pl Tryz.prog 42 [(.float .f64 0), (.float .f64 0), (.float .f64 0), (.float .f64 0), (.float .f64 0)] [(0, 1), (1, 1), (2, 1), (3, 1), (4, 1)] := Pl.of (by kernel_rfl) jqM (by kernel_rfl)
theorem Tryz.pl48 : Pl Tryz.prog 48 [(.float .f64 0), (.float .f64 0), (.float .f64 0), (.float .f64 0), (.float .f64 0)] [(0, 1), (1, 1), (2, 1), (3, 1), (4, 1)] := Pl.of (by kernel_rfl) jdE (by kernel_rfl)
theorem Tryz.pl51 : Pl Tryz.prog 51 [(.int .i64 0), (.int .i8 0), (.float .f64 0), (.float .f64 0), (.float .f64 0), (.float .f64 0), (.float .f64 0), (.float .f64 0), (.float .f64 0), (.float .f64 0), (.float .f64 0), (.float .f64 0), (.int .u16 0), (.int .i64 0), (.float .f64 0)] [(0, 1), (1, 1), (2, 5), (7, 5), (12, 1), (13, 1), (14, 1)] := Pl.of (by kernel_rfl) jcC (by kernel_rfl)
theorem Tryz.pl66 : Pl Tryz.prog 66 [(.float .f64 0), (.float .f64 0), (.float .f64 0), (.int .i64 0), (.int .i64 0), (.int .i64 0), (.map none), (.int .i64 0), (.float .f64 0)] [(0, 6), (6, 1), (7, 1), (8, 1)] := Pl.of (by kernel_rfl) jfS (by kernel_rfl)
theorem Tryz.pl70 : Pl Tryz.prog 70 [(.float .f64 0), (.float .f64 0), (.float .f64 0), (.int .i64 0), (.int .i64 0), (.int .i64 0), (.slice none 0 0), (.float .f64 0), (.bool false), (.int .i64 0)] [(0, 6), (6, 1), (7, 1), (8, 1), (9, 1)] := Pl.of (by kernel_rfl) jeK (by kernel_rfl)
theorem Tryz.pl76 : Pl Tryz.prog 76 [(.int .i64 0), (.int .i8 0), (.float .f64 0), (.float .f64 0), (.float .f64 0), (.float .f64 0), (.float .f64 0), (.float .f64 0), (.float .f64 0), (.float .f64 0), (.float .f64 0), (.float .f64 0), (.int .u16 0), (.int .i64 0), (.float .f64 0), (.slice none 0 0), (.slice none 0 0)] [(0, 15), (15, 1), (16, 1)] := Pl.of (by kernel_rfl) jpM (by kernel_rfl)
theorem Tryz.pl83 : Pl Tryz.prog 83 [(.float .f64 0), (.float .f64 0)] [(0, 1), (1, 1)] := Pl.of (by kernel_rfl) u_83 (by kernel_rfl)
theorem Tryz.pl103 : Pl Tryz.prog 103 [(.int .i64 0), (.int .i8 0), (.float .f64 0), (.float .f64 0), (.float .f64 0), (.float .f64 0), (.float .f64 0), (.float .f64 0), (.float .f64 0), (.float .f64 0), (.float .f64 0), (.float .f64 0), (.int .u16 0), (.int .i64 0), (.float .f64 0), (.slice none 0 0), (.slice none 0 0)] [(0, 15), (15, 1), (16, 1)] := Pl.of (by kernel_rfl) jc9 (by kernel_rfl)
theorem Tryz.pl123 : Pl Tryz.prog 123 [(.int .i64 0), (.slice none 0 0), (.slice none 0 0), (.slice none 0 0), (.slice none 0 0), (.slice none 0 0)] [(0, 1), (1, 1), (2, 1), (3, 1), (4, 1), (5, 1)] := Pl.of (by kernel_rfl) jcW (by kernel_rfl)
theorem Tryz.pl129 : Pl Tryz.prog 129 [(.float .f64 0), (.float .f64 0)] [(0, 1), (1, 1)] := Pl.of (by kernel_rfl) u_129 (by kernel_rfl)
theorem Tryz.pl134 : Pl Tryz.prog 134 [(.int .i64 0), (.slice none 0 0), (.slice none 0 0), (.slice none 0 0), (.slice none 0 0), (.slice none 0 0)] [(0, 1), (1, 1), (2, 1), (3, 1), (4, 1), (5, 1)] := Pl.of (by kernel_rfl) jbB (by kernel_rfl)
theorem f_6 : Fun Tryz.prog 6 := ⟨_, _, Tryz.func6, rfl, by kernel_rfl⟩
theorem f_7 : Fun Tryz.prog 7 := ⟨_, _, Tryz.func7, rfl, by kernel_rfl⟩
theorem f_8 : Fun Tryz.prog 8 := ⟨_, _, Tryz.func8, rfl, by kernel_rfl⟩
theorem f_9 : Fun Tryz.prog 9 := ⟨_, _, Tryz.func9, rfl, by kernel_rfl⟩
theorem f_10 : Fun Tryz.prog 10 := ⟨_, _, Tryz.func10, rfl, by kernel_rfl⟩
theorem f_11 : Fun Tryz.prog 11 := ⟨_, _, Tryz.func11, rfl, by kernel_rfl⟩
theorem f_12 : Fun Tryz.prog 12 := ⟨_, _, Tryz.func12, rfl, by kernel_rfl⟩
theorem f_13 : Fun Tryz.prog 13 := ⟨_, _, Tryz.func13, rfl, by kernel_rfl⟩
theorem f_14 : Fun Tryz.prog 14 := ⟨_, _, Tryz.func14, rfl, by kernel_rfl⟩
theorem f_15 : Fun Tryz.prog 15 := ⟨_, _, Tryz.func15, rfl, by kernel_rfl⟩
theorem f_16 : Fun Tryz.prog 16 := ⟨_, _, Tryz.func16, rfl, by kernel_rfl⟩
theorem f_17 : Fun Tryz.prog 17 := ⟨_, _, Tryz.func17, rfl, by kernel_rfl⟩
theorem f_18 : Fun Tryz.prog 18 := ⟨_, _, Tryz.func18, rfl, by kernel_rfl⟩
theorem f_19 : Fun Tryz.prog 19 := ⟨_, _, Tryz.func19, rfl, by kernel_rfl⟩
theorem f_20 : Fun Tryz.prog 20 := ⟨_, _, Tryz.func20, rfl, by kernel_rfl⟩
theorem f_21 : Fun Tryz.prog 21 := ⟨_, _, Tryz.func21, rfl, by kernel_rfl⟩
theorem f_22 : Fun Tryz.prog 22 := ⟨_, _, Tryz.func22, rfl, by kernel_rfl⟩
theorem f_23 : Fun Tryz.prog 23 := ⟨_, _, Tryz.func23, rfl, by kernel_rfl⟩
theorem f_24 : Fun Tryz.prog 24 := ⟨_, _, Tryz.func24, rfl, by kernel_rfl⟩
theorem f_25 : Fun Tryz.prog 25 := ⟨_, _, Tryz.func25, rfl, by kernel_rfl⟩
theorem f_26 : Fun Tryz.prog 26 := ⟨_, _, Tryz.func26, rfl, by kernel_rfl⟩
theorem f_27 : Fun Tryz.prog 27 := ⟨_, _, Tryz.func27, rfl, by kernel_rfl⟩
theorem f_28 : Fun Tryz.prog 28 := ⟨_, _, Tryz.func28, rfl, by kernel_rfl⟩
theorem f_29 : Fun Tryz.prog 29 := ⟨_, _, Tryz.func29, rfl, by kernel_rfl⟩
theorem f_30 : Fun Tryz.prog 30 := ⟨_, _, Tryz.func30, rfl, by kernel_rfl⟩
theorem f_31 : Fun Tryz.prog 31 := ⟨_, _, Tryz.func31, rfl, by kernel_rfl⟩
theorem f_32 : Fun Tryz.prog 32 := ⟨_, _, Tryz.func32, rfl, by kernel_rfl⟩
theorem f_33 : Fun Tryz.prog 33 := ⟨_, _, Tryz.func33, rfl, by kernel_rfl⟩
theorem f_34 : Fun Tryz.prog 34 := ⟨_, _, Tryz.func34, rfl, by kernel_rfl⟩
theorem f_35 : Fun Tryz.prog 35 := ⟨_, _, Tryz.func35, rfl, by kernel_rfl⟩
theorem f_36 : Fun Tryz.prog 36 := ⟨_, _, Tryz.func36, rfl, by kernel_rfl⟩
theorem f_37 : Fun Tryz.prog 37 := ⟨_, _, Tryz.func37, rfl, by kernel_rfl⟩
theorem f_38 : Fun Tryz.prog 38 := ⟨_, _, Tryz.func38, rfl, by kernel_rfl⟩
theorem f_39 : Fun Tryz.prog 39 := ⟨_, _, Tryz.func39, rfl, by kernel_rfl⟩
theorem f_40 : Fun Tryz.prog 40 := ⟨_, _, Tryz.func40, rfl, by kernel_rfl⟩
theorem f_41 : Fun Tryz.prog 41 := ⟨_, _, Tryz.func41, rfl, by kernel_rfl⟩
theorem f_42 : Fun Tryz.prog 42 := ⟨_, _, Tryz.func42, rfl, by kernel_rfl⟩
theorem f_43 : Fun Tryz.prog 43 := ⟨_, _, Tryz.func43, rfl, by kernel_rfl⟩
theorem f_44 : Fun Tryz.prog 44 := ⟨_, _, Tryz.func44, rfl, by kernel_rfl⟩
theorem Tryz.ext45 : Ext Tryz.prog 45 Extern.MathFloatBits.float64frombits := ⟨_, Tryz.func45, by kernel_rfl, by kernel_rfl, by kernel_rfl, by kernel_rfl⟩
theorem f_46 : Fun Tryz.prog 46 := ⟨_, _, Tryz.func46, rfl, by kernel_rfl⟩
theorem f_47 : Fun Tryz.prog 47 := ⟨_, _, Tryz.func47, rfl, by kernel_rfl⟩
theorem f_48 : Fun Tryz.prog 48 := ⟨_, _, Tryz.func48, rfl, by kernel_rfl⟩
theorem f_49 : Fun Tryz.prog 49 := ⟨_, _, Tryz.func49, rfl, by kernel_rfl⟩
theorem f_50 : Fun Tryz.prog 50 := ⟨_, _, Tryz.func50, rfl, by kernel_rfl⟩
theorem f_51 : Fun Tryz.prog 51 := ⟨_, _, Tryz.func51, rfl, by kernel_rfl⟩
theorem f_52 : Fun Tryz.prog 52 := ⟨_, _, Tryz.func52, rfl, by kernel_rfl⟩
theorem f_53 : Fun Tryz.prog 53 := ⟨_, _, Tryz.func53, rfl, by kernel_rfl⟩
theorem f_54 : Fun Tryz.prog 54 := ⟨_, _, Tryz.func54, rfl, by kernel_rfl⟩
theorem f_55 : Fun Tryz.prog 55 := ⟨_, _, Tryz.func55, rfl, by kernel_rfl⟩
theorem f_56 : Fun Tryz.prog 56 := ⟨_, _, Tryz.func56, rfl, by kernel_rfl⟩
theorem f_57 : Fun Tryz.prog 57 := ⟨_, _, Tryz.func57, rfl, by kernel_rfl⟩
theorem f_58 : Fun Tryz.prog 58 := ⟨_, _, Tryz.func58, rfl, by kernel_rfl⟩
theorem f_59 : Fun Tryz.prog 59 := ⟨_, _, Tryz.func59, rfl, by kernel_rfl⟩
theorem f_60 : Fun Tryz.prog 60 := ⟨_, _, Tryz.func60, rfl, by kernel_rfl⟩
theorem f_61 : Fun Tryz.prog 61 := ⟨_, _, Tryz.func61, rfl, by kernel_rfl⟩
theorem f_62 : Fun Tryz.prog 62 := ⟨_, _, Tryz.func62, rfl, by kernel_rfl⟩
theorem f_63 : Fun Tryz.prog 63 := ⟨_, _, Tryz.func63, rfl, by kernel_rfl⟩
theorem f_64 : Fun Tryz.prog 64 := ⟨_, _, Tryz.func64, rfl, by kernel_rfl⟩
theorem f_65 : Fun Tryz.prog 65 := ⟨_, _, Tryz.func65, rfl, by kernel_rfl⟩
theorem f_66 : Fun Tryz.prog 66 := ⟨_, _, Tryz.func66, rfl, by kernel_rfl⟩
theorem f_67 : Fun Tryz.prog 67 := ⟨_, _, Tryz.func67, rfl, by kernel_rfl⟩
theorem f_68 : Fun Tryz.prog 68 := ⟨_, _, Tryz.func68, rfl, by kernel_rfl⟩
theorem f_69 : Fun Tryz.prog 69 := ⟨_, _, Tryz.func69, rfl, by kernel_rfl⟩
theorem f_70 : Fun Tryz.prog 70 := ⟨_, _, Tryz.func70, rfl, by kernel_rfl⟩
theorem f_71 : Fun Tryz.prog 71 := ⟨_, _, Tryz.func71, rfl, by kernel_rfl⟩
theorem f_72 : Fun Tryz.prog 72 := ⟨_, _, Tryz.func72, rfl, by kernel_rfl⟩
theorem f_73 : Fun Tryz.prog 73 := ⟨_, _, Tryz.func73, rfl, by kernel_rfl⟩
theorem f_74 : Fun Tryz.prog 74 := ⟨_, _, Tryz.func74, rfl, by kernel_rfl⟩
theorem f_75 : Fun Tryz.prog 75 := ⟨_, _, Tryz.func75, rfl, by kernel_rfl⟩
theorem Tryz.ext76 : Ext Tryz.prog 76 Extern.MathFloatBits.float64bits := ⟨_, Tryz.func76, by kernel_rfl, by kernel_rfl, by kernel_rfl, by kernel_rfl⟩
theorem f_77 : Fun Tryz.prog 77 := ⟨_, _, Tryz.func77, rfl, by kernel_rfl⟩
theorem f_78 : Fun Tryz.prog 78 := ⟨_, _, Tryz.func78, rfl, by kernel_rfl⟩
theorem f_79 : Fun Tryz.prog 79 := ⟨_, _, Tryz.func79, rfl, by kernel_rfl⟩
theorem f_80 : Fun Tryz.prog 80 := ⟨_, _, Tryz.func80, rfl, by kernel_rfl⟩
theorem f_81 : Fun Tryz.prog 81 := ⟨_, _, Tryz.func81, rfl, by kernel_rfl⟩
theorem f_82 : Fun Tryz.prog 82 := ⟨_, _, Tryz.func82, rfl, by kernel_rfl⟩
theorem f_86 : Fun Tryz.prog 86 := ⟨_, _, Tryz.func86, rfl, by kernel_rfl⟩
theorem f_87 : Fun Tryz.prog 87 := ⟨_, _, Tryz.func87, rfl, by kernel_rfl⟩
theorem f_88 : Fun Tryz.prog 88 := ⟨_, _, Tryz.func88, rfl, by kernel_rfl⟩
theorem Tryz.ext89 : Ext Tryz.prog 89 (Extern.MathFloor.toIntegral "math.archFloor" .down) := ⟨_, Tryz.func89, by kernel_rfl, by kernel_rfl, by kernel_rfl, by kernel_rfl⟩
theorem f_91 : Fun Tryz.prog 91 := ⟨_, _, Tryz.func91, rfl, by kernel_rfl⟩
theorem f_92 : Fun Tryz.prog 92 := ⟨_, _, Tryz.func92, rfl, by kernel_rfl⟩
theorem f_93 : Fun Tryz.prog 93 := ⟨_, _, Tryz.func93, rfl, by kernel_rfl⟩
theorem f_94 : Fun Tryz.prog 94 := ⟨_, _, Tryz.func94, rfl, by kernel_rfl⟩
theorem f_95 : Fun Tryz.prog 95 := ⟨_, _, Tryz.func95, rfl, by kernel_rfl⟩
theorem f_96 : Fun Tryz.prog 96 := ⟨_, _, Tryz.func96, rfl, by kernel_rfl⟩
theorem f_97 : Fun Tryz.prog 97 := ⟨_, _, Tryz.func97, rfl, by kernel_rfl⟩
theorem f_98 : Fun Tryz.prog 98 := ⟨_, _, Tryz.func98, rfl, by kernel_rfl⟩
theorem f_99 : Fun Tryz.prog 99 := ⟨_, _, Tryz.func99, rfl, by kernel_rfl⟩
theorem f_103 : Fun Tryz.prog 103 := ⟨_, _, Tryz.func103, rfl, by kernel_rfl⟩
theorem f_104 : Fun Tryz.prog 104 := ⟨_, _, Tryz.func104, rfl, by kernel_rfl⟩
theorem f_105 : Fun Tryz.prog 105 := ⟨_, _, Tryz.func105, rfl, by kernel_rfl⟩
theorem f_106 : Fun Tryz.prog 106 := ⟨_, _, Tryz.func106, rfl, by kernel_rfl⟩
theorem f_107 : Fun Tryz.prog 107 := ⟨_, _, Tryz.func107, rfl, by kernel_rfl⟩
theorem f_108 : Fun Tryz.prog 108 := ⟨_, _, Tryz.func108, rfl, by kernel_rfl⟩
theorem f_120 : Fun Tryz.prog 120 := ⟨_, _, Tryz.func120, rfl, by kernel_rfl⟩
theorem f_121 : Fun Tryz.prog 121 := ⟨_, _, Tryz.func121, rfl, by kernel_rfl⟩
theorem Tryz.ext122 : Ext Tryz.prog 122 Extern.MathSqrt.sqrt := ⟨_, Tryz.func122, by kernel_rfl, by kernel_rfl, by kernel_rfl, by kernel_rfl⟩
theorem f_123 : Fun Tryz.prog 123 := ⟨_, _, Tryz.func123, rfl, by kernel_rfl⟩
theorem Tryz.ext130 : Ext Tryz.prog 130 (Extern.MathFloor.toIntegral "math.archTrunc" .zero) := ⟨_, Tryz.func130, by kernel_rfl, by kernel_rfl, by kernel_rfl, by kernel_rfl⟩
end Go.Proofs.YtffobakdngbadaaGreat
namespace Go.Proofs.YtffobakdngbadaaGreat
open Go Go.Lk
abbrev cv (z : Nat × Nat) : Value := .complex .f64 z.1 z.2
theorem and_low (b : Nat) (h : b < 18446744073709551616) : b &&& 9223372036854775807 = b % 9223372036854775808 := Nat.and_two_pow_sub_one_eq_mod b 63
theorem abs_ok (b : Nat) (h : b < 18446744073709551616) (w : World) : Ret Tryz.prog 75 [.float .f64 b] w fun v w' => v = .float .f64 (b % 9223372036854775808) /\ w' = w := by
 refine ja7 Tryz.func75 rfl rfl rfl (Wq (La rfl (Rq (Lm rfl (jaT rfl (jhA Tryz.ext76 rfl) ?_)))))
 refine jkU rfl rfl rfl (fun _ _ => eqGuard_andNot ..) (v := .int .u64 ((b % 9223372036854775808 : Nat) : Int)) ?_ ?_
 ·
  rw [binOp_andNot]
  have h1 := u64_andNot_nat b 9223372036854775808 h (by decide)
  have h2 : (Op.intBits .andNot .u64 (b : Int) 9223372036854775808).run Tryz.prog w = .ok (.int .u64 (bits .andNot .u64 (b : Int) ((9223372036854775808 : Nat) : Int))) w := rfl
  rw [h1, show 18446744073709551615 - 9223372036854775808 = 9223372036854775807 by decide, and_low b h] at h2
  exact h2
 refine jaT rfl (jh9 Tryz.ext45 rfl) (La rfl (Rt (jaW (ja9 rfl rfl ?_))))
 exact ⟨_, rfl, rfl, rfl⟩
structure Fin1 (x : Nat) : Prop where
 lt : x < 18446744073709551616
 self : FloatKind.f64.format.order x x = some .eq
 fin : FloatKind.f64.format.order (x % 9223372036854775808) 9218868437227405311 ≠ some .gt
theorem fl_set1 (xs : List Nat) (j v : Nat) : (fl xs).set j (.float .f64 v) = fl (xs.set j v) := by simp [fl, List.map_set]
theorem and1 : ∀ k : Nat, k < 9 -> bits .and .i64 (k : Int) 1 = ((k % 2 : Nat) : Int) := by decide +kernel
def sgF (k : Nat) : Nat := FloatKind.f64.nearest (1 - 2 * ((k % 2 : Nat) : Int))
theorem sign_ok (k : Nat) (hk : k < 9) (w : World) : Ret Tryz.prog 123 [.int .i64 k] w fun v w' => v = .float .f64 (sgF k) /\ w' = w := by
 have h := and1 k hk
 refine ja7 Tryz.func123 rfl rfl rfl (Wq (La rfl (Rq (Lm rfl (jaT rfl (jk5 (by simp) rfl rfl h) ?_)))))
 refine L_mul rfl rfl rfl (ja3 (by omega)) ?_
 refine Csub rfl (ja3 (by omega)) ?_
 refine jqE rfl u_3 u_22 rfl (La rfl (Rt (jaW (ja9 rfl rfl ?_))))
 exact ⟨_, rfl, rfl, rfl⟩
def jrB : Nat -> Nat
 | 0 => 4607182418800017408
 | i + 1 => fop .mul (jrB i) (FloatKind.f64.nearest ((i + 1 : Nat) : Int))
def powS (odd : Nat) : Nat -> List Nat
 | 0 => List.replicate 24 0
 | i + 1 => if (i + 1) % 2 = odd then (powS odd i).set ((i + 1) / 2) (fop .quo (sgF ((i + 1) / 2)) (jrB (i + 1))) else powS odd i
theorem fac_ok : ∀ i, i < 18 -> floatBits .mul .f64 (jrB i) (FloatKind.f64.nearest ((i + 1 : Nat) : Int)) = some (jrB (i + 1)) := by decide +kernel
theorem pow_ok : ∀ i, i < 18 -> floatBits .quo .f64 (sgF (i / 2)) (jrB i) = some (fop .quo (sgF (i / 2)) (jrB i)) := by decide +kernel
theorem jqV (odd : Nat) : ∀ i, (powS odd i).length = 24
 | 0 => by simp [powS]
 | i + 1 => by
  unfold powS
  split
  ·
   rw [List.length_set, jqV odd i]
  exact jqV odd i
def jq2 (odd : Nat) : List Nat := if odd = 0 then (powS 0 16).set 0 4607182418800017408 else powS 1 17
theorem jr8 (xs : List Nat) : ∀ v ∈ fl xs, v.oneCell' = true := by intro v h; obtain ⟨x, _, rfl⟩ := List.mem_map.1 h; rfl
theorem ti83' (S : List Nat) (h : S.length = 24) : TI Tryz.prog 151 (.agg (fl (List.replicate 24 0)).toArray) (fl S).length 192 := by rw [fl_length, h]; exact i_151
theorem powers_ok (odd : Nat) (ho : odd <= 1) (w0 : World) : Ret Tryz.prog 105 [.int .i64 odd] w0 fun v w' => v = .agg (fl (jq2 odd)).toArray /\ HS w0 w' [] := by
 refine Ret.start fun w hs => ?_
 refine ja7 Tryz.func105 rfl rfl rfl (Wq (jbL rfl hs i_151 ?_))
 intro b2 w hb2 hnb2 hs
 dsimp only [sS, sZ, sA, sN] at hs
 refine Rq (La rfl (Rqq (La rfl (Rt (ja4 ?_)))))
 replace hs : HS w0 w [(b2, Row 151 (fl (powS odd 0)))] := hs
 refine jd8 (fun (i : Nat) (w : World) => [(0, .int .i64 odd), (2, .pointer (some ⟨b2, 0, none⟩)), (3, .float .f64 (jrB i)), (4, .int .i64 (i + 1 : Nat))]) (fun i w => w) (fun i w => (i <= 16 + odd) /\ (HS w0 w [(b2, Row 151 (fl (powS odd i)))])) (fun i w => 17 + odd - i) (0) (w) (is := [0, 2, 3, 4]) rfl rfl ?_ ?_
 ·
  exact ⟨Nat.zero_le _, hs⟩
 clear hs
 intro i w hI
 show W _ _ _ _ [(0, .int .i64 odd), (2, .pointer (some ⟨b2, 0, none⟩)), (3, .float .f64 (jrB i)), (4, .int .i64 (i + 1 : Nat))] w
 obtain ⟨hi, hs⟩ := hI
 have hpl := jqV odd i
 by_cases hlt : i + 1 <= 16 + odd
 ·
  have e1 : Int.tmod ((i + 1 : Nat) : Int) 2 = (((i + 1) % 2 : Nat) : Int) := rfl
  have e2 : Int.tdiv ((i + 1 : Nat) : Int) 2 = (((i + 1) / 2 : Nat) : Int) := rfl
  refine Wqq (Lmm rfl rfl (jbG rfl (ja3 (by omega)) ?_))
  refine Cleq rfl (jaF (by omega)) ?_
  refine Rt (Wt rfl (Ws (Wsq (ja4 (Wq (Lmm rfl rfl (jqE rfl u_3 u_22 rfl (jaC rfl (op := .mul) rfl rfl rfl ?_))))))))
  intro r14 k14 hr14
  replace hs := hs.drewN k14
  obtain rfl := fs_val hr14 (fac_ok i (by omega))
  refine La rfl (Rq (Lm rfl (L_rem rfl rfl rfl (by omega) ?_)))
  rw [e1]
  by_cases hm : (i + 1) % 2 = odd
  ·
   refine Lm rfl (jdS rfl (jaF (by omega)) ?_)
   refine Rt (Wt rfl (Wr (Lm rfl (L_quo rfl rfl rfl (by omega) (ja3 (by omega)) ?_))))
   rw [e2]
   refine Lm rfl (L_quo rfl rfl rfl (by omega) (ja3 (by omega)) ?_)
   rw [e2]
   refine Lc f_123 rfl (sign_ok ((i + 1) / 2) (by omega) _) ?_
   rintro _ w ⟨rfl, rfl⟩
   refine Lm rfl (jaC rfl (op := .quo) rfl rfl rfl ?_)
   intro r25 k25 hr25
   replace hs := hs.drewN k25
   obtain rfl := fs_val hr25 (pow_ok (i + 1) (by omega))
   refine jrM rfl u_151 jaS rfl rfl (ja6 _) (by omega) ?_
   refine jaH hs (i := 0) rfl jaS rfl rfl (by exact jaM _ _) (by simp; omega) rfl ?_
   intro w hs
   dsimp only [sS, sZ, sA, sN] at hs
   refine Rnl (jaB (Nt (Wr (Lm rfl (jbG rfl (ja3 (by omega)) ?_)))))
   refine La rfl (Rnl ?_)
   rw [fl_set1] at hs
   refine Nq (i + 1, _) [0, 2, 3, 4] rfl ?_ ?_
   ·
    dsimp only
    exact ⟨by omega, by unfold powS; rw [if_pos hm]; exact hs⟩
   omega
  refine Lm rfl (jdS rfl (jaA (by omega)) ?_)
  refine Rt (Wf rfl (jaY (jaB (Nt (Wr (Lm rfl (jbG rfl (ja3 (by omega)) ?_)))))))
  refine La rfl (Rnl (Nq (i + 1, _) [0, 2, 3, 4] rfl ?_ ?_))
  ·
   dsimp only
   exact ⟨by omega, by unfold powS; rw [if_neg hm]; exact hs⟩
  omega
 have hie : i = 16 + odd := by omega
 refine Wqq (Lmm rfl rfl (jbG rfl (ja3 (by omega)) ?_))
 refine Cleq rfl (jaA (by omega)) ?_
 refine Rt (Wf rfl ?_)
 by_cases h0 : odd = 0
 ·
  subst h0
  subst hie
  refine jaK (ja0 (ja8 (ja1 (Nt (Wqq (Lm rfl (jdS rfl (jaF (by omega)) ?_)))))))
  refine Rt (Wt rfl (Wr (jrM rfl u_151 jaS rfl rfl jfV (by omega) ?_)))
  refine jaH hs (i := 0) rfl jaS rfl rfl (by rfl) (by rw [fl_length]; omega) rfl ?_
  intro w hs
  dsimp only [sS, sZ, sA, sN] at hs
  refine Rq ?_
  rw [fl_set1] at hs
  obtain ⟨S, hST⟩ : ∃ S, S = jq2 0 := ⟨_, rfl⟩
  have hS : S.length = 24 := by rw [hST]; decide +kernel
  replace hs : HS w0 w [(b2, Row 151 (fl S))] := by rw [hST]; exact hs
  refine jb7 (cs := fl S) rfl a_151 (ti83' S hS) rfl (jaE (hs.get (i := 0) rfl)) ?_
  refine jaQ (vs := fl S) hs (i := 0) rfl (ti83' S hS) rfl rfl rfl (by rw [Nat.zero_add]; exact Nat.le_refl _) (jr8 S) ?_
  intro w hs
  replace hs : HS w0 w [(b2, Row 151 (fl S))] := by
   have e : (fl S).drop S.length = [] := List.drop_eq_nil_of_le (by rw [fl_length]; omega)
   simpa [e] using hs
  refine Rt (jaW (jc7 rfl rfl a_151 (ti83' S hS) (by exact jaE (hs.get (i := 0) rfl)) ?_))
  exact ⟨_, rfl, by rw [hST], hs.forget (Own.cons hb2 Own.nil)⟩
 obtain rfl : odd = 1 := by omega
 subst hie
 refine jaK (ja0 (ja8 (ja1 (Nt (Wqq (Lm rfl (jdS rfl (jaA (by omega)) ?_)))))))
 refine Rt (Wf rfl (Ws (Wq ?_)))
 obtain ⟨S, hST⟩ : ∃ S, S = jq2 1 := ⟨_, rfl⟩
 have hS : S.length = 24 := by rw [hST]; decide +kernel
 replace hs : HS w0 w [(b2, Row 151 (fl S))] := by rw [hST]; exact hs
 refine jb7 (cs := fl S) rfl a_151 (ti83' S hS) rfl (jaE (hs.get (i := 0) rfl)) ?_
 refine jaQ (vs := fl S) hs (i := 0) rfl (ti83' S hS) rfl rfl rfl (by rw [Nat.zero_add]; exact Nat.le_refl _) (jr8 S) ?_
 intro w hs
 replace hs : HS w0 w [(b2, Row 151 (fl S))] := by
  have e : (fl S).drop S.length = [] := List.drop_eq_nil_of_le (by rw [fl_length]; omega)
  simpa [e] using hs
 refine Rt (jaW (jc7 rfl rfl a_151 (ti83' S hS) (by exact jaE (hs.get (i := 0) rfl)) ?_))
 exact ⟨_, rfl, by rw [hST], hs.forget (Own.cons hb2 Own.nil)⟩
def jn2 (S : List Nat) (z : Nat) : Nat -> Nat
 | 0 => S.getD 8 0
 | m + 1 => fop .add (fop .mul (jn2 S z m) z) (S.getD (7 - m) 0)
theorem at_ok (B : Nat) (S : List Nat) (z : Nat) (w0 : World) (hB : w0.heap[B]? = some (Row 151 (fl S))) (hS : S.length = 24) :
  Ret Tryz.prog 106 [.pointer (some ⟨B, 0, none⟩), .float .f64 z, .int .i64 9] w0 fun v w' => ∃ r, v = .float .f64 r /\ HS w0 w' [] /\ cn r = cn (jn2 S z 8) := by
 refine Ret.start fun w hs => ?_
 have hld : ∀ {w : World}, HS w0 w [] -> ∀ j, j < 24 -> w.cell? ((Addr.mk B 0 none).add j) = some (.float .f64 (S.getD j 0)) := fun {w} hs j hj => by
  rw [jaM]
  refine Lk.cell_of_row (cs := fl S) (T := 151) ?_ (fl_get (by omega))
  rw [hs.old (Array.getElem?_eq_some_iff.1 hB).1 (by simp)]; exact hB
 refine ja7 Tryz.func106 rfl rfl rfl (Wq (La rfl (Rq (Lmm rfl rfl (Csub rfl (ja3 (by omega)) ?_)))))
 refine Ln rfl (jrM rfl u_151 jaS rfl rfl (j := 8) rfl (by omega) ?_)
 refine Ll jb5 rfl (by exact hld hs 8 (by decide)) ?_
 refine La rfl (Rqq (Lm rfl (Csub rfl (ja3 (by omega)) ?_)))
 refine La rfl (Rt (ja4 (jcT (fun (m : Nat) (r : Nat) (w : World) => [(0, .pointer (some ⟨B, 0, none⟩)), (1, .float .f64 z), (7, .float .f64 r), (8, .int .i64 (7 - (m : Int)))]) (fun m r w => w) (fun m r w => (m <= 8) /\ (cn r = cn (jn2 S z m)) /\ (HS w0 w [])) (fun m r w => 9 - m) (0) (_) (w) (is := [0, 1, 7, 8]) rfl rfl ?_ ?_)))
 ·
  exact ⟨Nat.zero_le _, rfl, hs⟩
 clear hs
 intro m r w hI
 show W _ _ _ _ [(0, .pointer (some ⟨B, 0, none⟩)), (1, .float .f64 z), (7, .float .f64 r), (8, .int .i64 (7 - (m : Int)))] w
 obtain ⟨hm, hr, hs⟩ := hI
 by_cases hlt : m < 8
 ·
  have hn : (7 - (m : Int)) = ((7 - m : Nat) : Int) := by omega
  refine Wqq (Lm rfl (jgM rfl (jaF (by omega)) ?_))
  refine Rt (Wt rfl (Ws (Wsq (ja4 (Wr (Lmm rfl rfl (jaC rfl (op := .mul) rfl rfl rfl ?_)))))))
  intro r23 k23 hr23
  replace hs := hs.drewN k23
  refine Lmm rfl rfl (Ln rfl (jrM rfl u_151 jaS rfl rfl hn (by omega) ?_))
  refine Ll jb5 rfl (by exact hld hs (7 - m) (by omega)) ?_
  refine jaC rfl (op := .add) rfl rfl rfl ?_
  intro r29 k29 hr29
  replace hs := hs.drewN k29
  refine La rfl (Rnl (jaB (Nt (Wr (Lm rfl (Csub rfl (ja3 (by omega)) ?_))))))
  rw [show (7 - (m : Int)) - 1 = 7 - ((m + 1 : Nat) : Int) by omega]
  refine La rfl (Rnl (Nq (m + 1, r29, _) [0, 1, 7, 8] rfl ?_ ?_))
  ·
   dsimp only
   exact ⟨by omega, (Fs.cn hr29).trans ((ja5 ((Fs.cn hr23).trans ((ja5 hr rfl).trans (jaL ..).symm)) rfl).trans (jaL ..).symm), hs⟩
  omega
 obtain rfl : m = 8 := by omega
 refine Wqq (Lm rfl (jgM rfl (jaA (by omega)) ?_))
 refine Rt (Wf rfl (jaK (ja0 (ja8 (ja1 (Nt (Wq (Lm rfl (La rfl (Rt (jaW (ja9 rfl rfl ?_))))))))))))
 exact ⟨_, rfl, _, rfl, hs, hr⟩
theorem cn_same {x v : Nat} (h : cn x = cn v) (hv : jb1 v = false) : x = v := by
 rw [jdH hv] at h
 cases hx : jb1 x with
 | true =>
  rw [jeR hx] at h
  rw [<- h] at hv
  exact absurd hv (by decide)
 | false => rwa [jdH hx] at h
theorem sqrt_half (w : World) : Ret Tryz.prog 104 [.float .f64 4602678819172646912] w fun v w' => v = .float .f64 4604544271217802189 /\ w' = w := by
 have h : FloatKind.f64.format.sqrt 4602678819172646912 = some 4604544271217802189 := by decide +kernel
 refine ja7 Tryz.func104 rfl rfl rfl (Wq (La rfl (Rq (Lm rfl (jaT rfl (jrL Tryz.ext122 rfl (fun w => run_sqrt h w)) ?_)))))
 refine La rfl (Rt (jaW (ja9 rfl rfl ?_)))
 exact ⟨_, rfl, rfl, rfl⟩
theorem jgB (S : List Nat) {z z' : Nat} (h : cn z = cn z') : ∀ m, cn (jn2 S z m) = cn (jn2 S z' m)
 | 0 => rfl
 | m + 1 => by
  show cn (fop .add (fop .mul (jn2 S z m) z) _) = cn (fop .add (fop .mul (jn2 S z' m) z') _)
  rw [ja5 (op := .mul) (jgB S h m) h]
def jdD (a : Nat) : Nat × Nat := if FloatKind.f64.format.order a 4593671619917905920 == some .eq then (4604544271217802189, 4604544271217802189) else
 (jn2 (jq2 0) (fop .mul (fop .mul a 4618760256179416344) (fop .mul a 4618760256179416344)) 8, fop .mul (jn2 (jq2 1) (fop .mul (fop .mul a 4618760256179416344) (fop .mul a 4618760256179416344)) 8) (fop .mul a 4618760256179416344))
theorem eigF_congr {a a' : Nat} (h : cn a = cn a') : jdD a = jdD a' := by
 unfold jdD
 rw [jd5 h (rfl : cn 4593671619917905920 = _), ja5 (op := .mul) h (rfl : cn 4618760256179416344 = _)]
theorem jhK {a : Nat} (h : (FloatKind.f64.format.order a 4593671619917905920 == some .eq) = false) : (jdD a).1 = jn2 (jq2 0) (fop .mul (fop .mul a 4618760256179416344) (fop .mul a 4618760256179416344)) 8 /\ (jdD a).2 = fop .mul (jn2 (jq2 1) (fop .mul (fop .mul a 4618760256179416344) (fop .mul a 4618760256179416344)) 8) (fop .mul a 4618760256179416344) := by
 have e : jdD a = (jn2 (jq2 0) (fop .mul (fop .mul a 4618760256179416344) (fop .mul a 4618760256179416344)) 8, fop .mul (jn2 (jq2 1) (fop .mul (fop .mul a 4618760256179416344) (fop .mul a 4618760256179416344)) 8) (fop .mul a 4618760256179416344)) := by
  unfold jdD
  rw [h, if_neg (by decide)]
 constructor
 ·
  rw [e]
 rw [e]
theorem jpA {a : Nat} (h : (FloatKind.f64.format.order a 4593671619917905920 == some .eq) = true) : jdD a = (4604544271217802189, 4604544271217802189) := by
 unfold jdD
 rw [h, if_pos rfl]
theorem jkQ (a : Nat) (w0 : World) : Ret Tryz.prog 88 [.float .f64 a] w0 fun v w' => ∃ re im, v = .complex .f64 re im /\ HS w0 w' [] /\ cn re = cn (jdD a).1 /\ cn im = cn (jdD a).2 := by
 refine Ret.start fun w hs => ?_
 refine ja7 Tryz.func88 rfl rfl rfl ?_
 cases hc : FloatKind.f64.format.order a 4593671619917905920 == some .eq
 ·
  refine Wq (La rfl (Rqq (Lm rfl ?_)))
  refine Cf rfl (fun _ => by rw [binOp_float_cmp_eql]; rfl) ?_
  refine Rt (jcG 8 (v' := .bool false) rfl (by rw [hc]) ?_)
  refine Wf rfl (Ws (Wq (Lm rfl (jaC rfl (op := .mul) rfl rfl rfl ?_))))
  intro r13 k13 hr13
  replace hs := hs.drewN k13
  refine La rfl (Rq (Lmm rfl rfl (jaC rfl (op := .mul) rfl rfl rfl ?_)))
  intro r16 k16 hr16
  replace hs := hs.drewN k16
  refine La rfl (Rq (Lc f_105 rfl (powers_ok 1 (by decide) _) ?_))
  rintro _ w1 ⟨rfl, hs'⟩
  replace hs := hs.nil hs'
  clear hs'
  refine Lc f_105 rfl (powers_ok 0 (by decide) _) ?_
  rintro _ w2 ⟨rfl, hs'⟩
  replace hs := hs.nil hs'
  clear hs'
  have l1 : (jq2 1).length = 24 := by decide +kernel
  have l0 : (jq2 0).length = 24 := by decide +kernel
  obtain ⟨S1, h1⟩ : ∃ S, S = jq2 1 := ⟨_, rfl⟩
  obtain ⟨S0, h0⟩ : ∃ S, S = jq2 0 := ⟨_, rfl⟩
  rw [<- h1] at l1 ⊢
  rw [<- h0] at l0 ⊢
  refine jbL rfl hs i_151 ?_
  intro b5 w hb5 hnb5 hs
  dsimp only [sS, sZ, sA, sN] at hs
  refine jbL rfl hs i_151 ?_
  intro b6 w hb6 hnb6 hs
  dsimp only [sS, sZ, sA, sN] at hs
  obtain ⟨Z, hZ⟩ : ∃ Z, Z = List.replicate 24 0 := ⟨_, rfl⟩
  have lZ : Z.length = 24 := by rw [hZ]; decide +kernel
  replace hs : HS w0 w [(b5, Row 151 (fl Z)), (b6, Row 151 (fl Z))] := by rw [hZ]; exact hs
  clear hZ
  refine jaQ (vs := fl S1) (cs := fl Z) hs (i := 0) rfl (ti83' S1 l1) rfl rfl rfl (by simp [l1, lZ]) (jr8 S1) ?_
  intro w hs
  replace hs : HS w0 w [(b5, Row 151 (fl S1)), (b6, Row 151 (fl Z))] := by
   have e : (fl Z).drop (0 + (fl S1).length) = [] := List.drop_eq_nil_of_le (by simp [l1, lZ])
   rw [e] at hs
   simpa using hs
  refine jaQ (vs := fl S0) (cs := fl Z) hs (i := 1) rfl (ti83' S0 l0) rfl rfl rfl (by simp [l0, lZ]) (jr8 S0) ?_
  intro w hs
  replace hs : HS w0 w [(b5, Row 151 (fl S1)), (b6, Row 151 (fl S0))] := by
   have e : (fl Z).drop (0 + (fl S0).length) = [] := List.drop_eq_nil_of_le (by simp [l0, lZ])
   rw [e] at hs
   simpa using hs
  refine Rq (Lm rfl (Lc f_106 rfl (at_ok b6 S0 r16 w (hs.get (i := 1) rfl) l0) ?_))
  rintro _ w3 ⟨c, rfl, hs', hc8⟩
  replace hs := hs.nil hs'
  clear hs'
  refine Lm rfl (Lc f_106 rfl (at_ok b5 S1 r16 w3 (hs.get (i := 0) rfl) l1) ?_)
  rintro _ w4 ⟨s, rfl, hs', hs8⟩
  replace hs := hs.nil hs'
  clear hs'
  refine Lm rfl (jaC rfl (op := .mul) rfl rfl rfl ?_)
  intro r24 k24 hr24
  replace hs := hs.drewN k24
  refine jbU rfl rfl rfl (La rfl (Rt (jaW (ja9 rfl rfl ?_))))
  have ez : cn r16 = cn (fop .mul (fop .mul a 4618760256179416344) (fop .mul a 4618760256179416344)) := by
   have e := Fs.cn hr13
   exact ((Fs.cn hr16).trans (ja5 (e.trans (jaL ..).symm) (e.trans (jaL ..).symm))).trans (jaL ..).symm
  refine ⟨_, rfl, _, _, rfl, hs.forget (Own.cons hb5 (Own.cons hb6 Own.nil)), ?_, ?_⟩
  ·
   rw [(jhK hc).1]
   rw [h0] at hc8
   exact hc8.trans (jgB _ ez 8)
  rw [(jhK hc).2]
  rw [h1] at hs8
  rw [jaL]
  exact (Fs.cn hr24).trans (ja5 (hs8.trans (jgB _ ez 8)) ((Fs.cn hr13).trans (jaL ..).symm))
 refine Wq (La rfl (Rqq (Lm rfl ?_)))
 refine Cf rfl (fun _ => by rw [binOp_float_cmp_eql]; rfl) ?_
 refine Rt (jcG 8 (v' := .bool true) rfl (by rw [hc]) ?_)
 refine Wt rfl (Wq (Lc f_104 rfl (sqrt_half w) ?_))
 rintro _ w ⟨rfl, rfl⟩
 refine Lc f_104 rfl (sqrt_half w) ?_
 rintro _ w ⟨rfl, rfl⟩
 refine jbU rfl rfl rfl (La rfl (Rt (jaW (ja2 (ja9 rfl rfl ?_)))))
 refine ⟨_, rfl, _, _, rfl, hs, ?_, ?_⟩
 ·
  rw [jpA hc]
 rw [jpA hc]
theorem jqF (d : Ieee.Datum) (h : d.isNaN = false) : Ieee.double.write d < 18446744073709551616 := by
 have hw : ∀ s r, r <= 9218868437227405312 -> Ieee.double.word s r < 18446744073709551616 := fun s r hr => by
  unfold Ieee.Format.word
  rw [jb3]
  split <;> omega
 cases d with
 | nan s f => simp [Ieee.Datum.isNaN] at h
 | infinity s => exact hw s _ (Nat.le_refl _)
 | number s m p =>
  show Ieee.double.nearest s m p < _
  unfold Ieee.Format.nearest
  dsimp only
  split
  ·
   exact hw s 0 (by omega)
  exact hw s _ (by rw [jc8]; exact Nat.min_le_right _ _)
theorem jfX {op : BinOp} {x y r : Nat} (h : floatBits op .f64 x y = some r) : r < 18446744073709551616 := by
 have key : ∀ o : Option Ieee.Datum, (∀ d, o = some d -> d.isNaN = false) -> o.map Ieee.double.write = some r -> r < 18446744073709551616 := fun o ho hr => by
  cases o with
  | none => cases hr
  | some d => cases hr; exact jqF d (ho d rfl)
 unfold floatBits at h
 split at h
 ·
  exact key _ (fun d hd => jeB hd) h
 ·
  exact key _ (fun d hd => jeB hd) h
 ·
  exact key _ (fun d hd => jfF hd) h
 ·
  exact key _ (fun d hd => jf0 hd) h
 cases h
theorem fs_lt {op : BinOp} {x y r : Nat} (h : Fs op x y r) (hn : jb1 r = false) : r < 18446744073709551616 := by
 rcases h with h | ⟨_, h⟩
 ·
  exact jfX h
 rw [hn] at h; cases h
def truF (x : Nat) : Nat := FloatKind.f64.encode ((FloatKind.f64.decode x).integral .zero)
theorem trunc_ok (x : Nat) (hx : jb1 x = false) (w : World) : Ret Tryz.prog 120 [.float .f64 x] w fun v w' => v = .float .f64 (truF x) /\ w' = w := by
 refine ja7 Tryz.func120 rfl rfl rfl (Wq (La rfl (Rt (Wsq (Wt rfl (Wq (Lm rfl (jaT rfl (jrL Tryz.ext130 rfl (fun w => run_trunc hx w)) ?_))))))))
 refine La rfl (Rt (jaW (ja2 (ja9 rfl rfl ?_))))
 exact ⟨_, rfl, rfl, rfl⟩
def copF (f s : Nat) : Nat := (f &&& (18446744073709551615 - 9223372036854775808)) ||| (s &&& 9223372036854775808)
theorem copy_ok (f s : Nat) (hf : f < 18446744073709551616) (hs : s < 18446744073709551616) (w : World) : Ret Tryz.prog 121 [.float .f64 f, .float .f64 s] w fun v w' => v = .float .f64 (copF f s) /\ w' = w := by
 have h1 := u64_andNot_nat f 9223372036854775808 hf (by decide)
 have h2 := u64_and_nat s 9223372036854775808 hs (by decide)
 have h3 := u64_or_nat (f &&& (18446744073709551615 - 9223372036854775808)) (s &&& 9223372036854775808) (Nat.lt_of_le_of_lt Nat.and_le_left hf) (Nat.lt_of_le_of_lt Nat.and_le_left hs)
 refine ja7 Tryz.func121 rfl rfl rfl (Wq (La rfl (Rq (Lm rfl (jaT rfl (jhA Tryz.ext76 rfl) (jaT rfl (jk5 (by simp) rfl rfl h1) ?_))))))
 refine Lm rfl (jaT rfl (jhA Tryz.ext76 rfl) (jaT rfl (jk5 (by simp) rfl rfl h2) ?_))
 refine jaT rfl (jk5 (by simp) rfl rfl h3) ?_
 refine jaT rfl (jh9 Tryz.ext45 rfl) (La rfl (Rt (jaW (ja9 rfl rfl ?_))))
 exact ⟨_, rfl, rfl, rfl⟩
theorem modf_ok (x : Nat) (hx : jb1 x = false) (hx2 : x < 18446744073709551616) (hfin : ∃ r, floatBits .sub .f64 x (truF x) = some r) (w0 : World) : Ret Tryz.prog 103 [.float .f64 x] w0 fun v w' => ∃ r, floatBits .sub .f64 x (truF x) = some r /\ v = .tuple #[.float .f64 (truF x), .float .f64 (copF r x)] /\ HS w0 w' [] := by
 obtain ⟨r, hr⟩ := hfin
 refine Ret.start fun w hs => ?_
 refine ja7 Tryz.func103 rfl rfl rfl (Wq (La rfl (La rfl (Rq (Lm rfl (Lc f_120 rfl (trunc_ok x hx w) ?_))))))
 rintro _ w ⟨rfl, rfl⟩
 refine La rfl (Rq (Lmm rfl rfl (jaC rfl (op := .sub) rfl rfl rfl ?_)))
 intro r8 k8 hr8
 replace hs := hs.drewN k8
 refine Lm rfl ?_
 obtain rfl := fs_val hr8 hr
 refine Lc f_121 rfl (copy_ok r8 x (jfX hr) hx2 _) ?_
 rintro _ w ⟨rfl, rfl⟩
 refine La rfl (Rt (jaW (jb9 rfl rfl rfl ?_)))
 exact ⟨_, rfl, _, hr, rfl, hs⟩
theorem jnR {x y : Nat} {o : Ordering} (h : FloatKind.f64.format.order x y = some o) : jb1 x = false := by
 cases hx : jb1 x with
 | false => rfl
 | true => rw [jcM hx] at h; cases h
theorem sub_self_num {x r : Nat} (h : Fs .sub x x r) (hr : jb1 r = false) : ∃ s m p, Ieee.double.read x = .number s m p := by
 rcases h with h | ⟨_, h⟩
 ·
  have h' : (Ieee.Datum.sum (Ieee.double.read x) (Ieee.double.read x).opposite).map Ieee.double.write = some r := h
  cases hx : Ieee.double.read x with
  | nan s f => rw [hx] at h'; simp [Ieee.Datum.sum] at h'
  | infinity s => rw [hx] at h'; cases s <;> simp [Ieee.Datum.sum, Ieee.Datum.opposite] at h'
  | number s m p => exact ⟨s, m, p, rfl⟩
 rw [hr] at h; cases h
theorem num_facts {x : Nat} (h : ∃ s m p, Ieee.double.read x = .number s m p) : jb1 x = false /\ ∃ r, floatBits .sub .f64 x (truF x) = some r := by
 obtain ⟨s, m, p, h⟩ := h
 have hn : jb1 x = false := by show (Ieee.double.read x).isNaN = false; rw [h]; rfl
 refine ⟨hn, ?_⟩
 have h2 : jb1 (truF x) = false := jk8 _ (by
  show ((Ieee.double.read x).integral .zero).isNaN = false
  rw [h]; rfl)
 have h3 : (Ieee.double.read (truF x)).isNaN = false := h2
 show ∃ r, (Ieee.Datum.sum (Ieee.double.read x) (Ieee.double.read (truF x)).opposite).map Ieee.double.write = some r
 rw [h]
 cases hd : Ieee.double.read (truF x) with
 | nan t f => rw [hd] at h3; cases h3
 | infinity t => exact ⟨_, rfl⟩
 | number t n j => exact ⟨_, rfl⟩
theorem nan_ok (w0 : World) : Ret Tryz.prog 93 [] w0 fun v w' => ∃ r, v = .float .f64 r /\ jb1 r = true /\ HS w0 w' [] := by
 refine Ret.start fun w hs => ?_
 refine ja7 Tryz.func93 rfl rfl rfl (Wq (La rfl (Rq (jaT rfl (jh9 Tryz.ext45 (b := 9221120237041090561) rfl) (La rfl (Rt (jaW (ja9 rfl rfl ?_))))))))
 exact ⟨_, rfl, _, rfl, by decide +kernel, hs⟩
def jk9 (y : Nat) : Nat := if (FloatKind.f64.format.order y 4602678819172646912 == some .gt || FloatKind.f64.format.order y 4602678819172646912 == some .eq) then fop .sub y 4607182418800017408 else if FloatKind.f64.format.order y 13826050856027422720 == some .lt then fop .add y 4607182418800017408 else y
def je8 (x : Nat) : Nat := if FloatKind.f64.format.order (fop .sub x x) 0 != some .eq then qnan else fop .add (jk9 (copF (fop .sub x (truF x)) x)) 0
theorem wrap_ok (x : Nat) (hx2 : x < 18446744073709551616) (w0 : World) : Ret Tryz.prog 87 [.float .f64 x] w0 fun v w' => ∃ r, v = .float .f64 r /\ ((jb1 r = false -> r < 18446744073709551616) /\ cn r = je8 x) /\ HS w0 w' [] := by
 refine Ret.start fun w hs => ?_
 refine ja7 Tryz.func87 rfl rfl rfl (Wq (La rfl (Rqq (Lmm rfl rfl (jaC rfl (op := .sub) rfl rfl rfl ?_)))))
 intro r7 k7 hr7
 replace hs := hs.drewN k7
 cases hc : FloatKind.f64.format.order r7 0 != some .eq
 ·
  have hc' : FloatKind.f64.format.order r7 0 = some .eq := by simpa using hc
  obtain ⟨hn, hfin⟩ := num_facts (sub_self_num hr7 (jnR hc'))
  refine Cf rfl (fun _ => by rw [binOp_float_cmp_neq]; rfl) ?_
  refine Rt (jcG 8 (v' := .bool false) rfl (by rw [hc]) ?_)
  refine Wf rfl (Ws (Wq (Lm rfl (Lc f_103 rfl (modf_ok x hn hx2 hfin _) ?_))))
  rintro _ w2 ⟨q, hq, rfl, hs'⟩
  replace hs := hs.nil hs'
  clear hs'
  have hw : je8 x = fop .add (jk9 (copF q x)) 0 := by
   unfold je8
   rw [jd5 ((jaL ..).trans (Fs.cn hr7).symm) (rfl : cn 0 = _), hc, if_neg (by decide), fop_some hq]
  obtain ⟨y, hy⟩ : ∃ y, y = copF q x := ⟨_, rfl⟩
  rw [<- hy] at hw ⊢
  refine Lm rfl (Lx rfl rfl (Lx rfl rfl (La rfl (La rfl (Rt (Wsq (ja4 (Wq (Lm rfl ?_)))))))))
  refine Cf rfl (fun _ => by rw [binOp_float_cmp_geq]; rfl) ?_
  refine La rfl (Rt ?_)
  cases hg : (FloatKind.f64.format.order y 4602678819172646912 == some .gt || FloatKind.f64.format.order y 4602678819172646912 == some .eq)
  ·
   refine Wf rfl (Wq (Lm rfl ?_))
   refine Cf rfl (fun _ => by rw [binOp_float_cmp_lss]; rfl) ?_
   refine La rfl (Rt ?_)
   cases hl : FloatKind.f64.format.order y 13826050856027422720 == some .lt
   ·
    refine Wf rfl (jaY (jaB (Nt (Wq (Lm rfl (jaC rfl (op := .add) rfl rfl rfl ?_))))))
    intro r26 k26 hr26
    replace hs := hs.drewN k26
    refine La rfl (Rt (jaW (ja9 rfl rfl ?_)))
    refine ⟨_, rfl, _, rfl, ⟨fs_lt hr26, ?_⟩, hs⟩
    rw [hw]; unfold jk9; rw [hg, hl, if_neg (by decide), if_neg (by decide)]
    exact (Fs.cn hr26)
   refine Wt rfl (Wr (Lm rfl (jaC rfl (op := .add) rfl rfl rfl ?_)))
   intro r24 k24 hr24
   replace hs := hs.drewN k24
   refine La rfl (Rnl (jaB (Nt (Wq (Lm rfl (jaC rfl (op := .add) rfl rfl rfl ?_))))))
   intro r26 k26 hr26
   replace hs := hs.drewN k26
   refine La rfl (Rt (jaW (ja9 rfl rfl ?_)))
   refine ⟨_, rfl, _, rfl, ⟨fs_lt hr26, ?_⟩, hs⟩
   rw [hw]; unfold jk9; rw [hg, hl, if_neg (by decide), if_pos rfl]
   exact (Fs.cn hr26).trans (ja5 ((Fs.cn hr24).trans (jaL ..).symm) rfl)
  refine Wt rfl (Wr (Lm rfl (jaC rfl (op := .sub) rfl rfl rfl ?_)))
  intro r19 k19 hr19
  replace hs := hs.drewN k19
  refine La rfl (Rnl (jaB (Nt (Wq (Lm rfl (jaC rfl (op := .add) rfl rfl rfl ?_))))))
  intro r26 k26 hr26
  replace hs := hs.drewN k26
  refine La rfl (Rt (jaW (ja9 rfl rfl ?_)))
  refine ⟨_, rfl, _, rfl, ⟨fs_lt hr26, ?_⟩, hs⟩
  rw [hw]; unfold jk9; rw [hg, if_pos rfl]
  exact (Fs.cn hr26).trans (ja5 ((Fs.cn hr19).trans (jaL ..).symm) rfl)
 refine Cf rfl (fun _ => by rw [binOp_float_cmp_neq]; rfl) ?_
 refine Rt (jcG 8 (v' := .bool true) rfl (by rw [hc]) ?_)
 refine Wt rfl (Wq (Lc f_93 rfl (nan_ok _) ?_))
 rintro _ w2 ⟨r, rfl, hr, hs'⟩
 replace hs := hs.nil hs'
 refine La rfl (Rt (jaW (ja2 (ja9 rfl rfl ?_))))
 refine ⟨_, rfl, _, rfl, ⟨fun h => absurd (hr.symm.trans h) (by decide), ?_⟩, hs⟩
 unfold je8
 rw [jd5 ((jaL ..).trans (Fs.cn hr7).symm) (rfl : cn 0 = _), hc, if_pos rfl]
 exact jeR hr
theorem jp0 (x : Nat) : jb1 (Op.negFloat .f64 x) = jb1 x := by
 have h : Op.negFloat .f64 x % 9223372036854775808 = x % 9223372036854775808 := by
  show (x ^^^ 2 ^ 63) % 2 ^ 63 = x % 2 ^ 63
  rw [Nat.xor_mod_two_pow, Nat.mod_self, Nat.xor_zero]
 have e : ∀ y, jb1 y = !(decide (y % 9223372036854775808 <= 9218868437227405312)) := fun y => by
  show (Ieee.Format.read Ieee.double y).isNaN = _
  unfold Ieee.Format.read
  rw [jb3, jdP, jc8]
  dsimp only
  split
  ·
   rw [decide_eq_true (by omega)]; rfl
  split
  ·
   rw [decide_eq_true (by omega)]; rfl
  split
  ·
   rw [decide_eq_true (by omega)]; rfl
  rw [decide_eq_false (by omega)]; rfl
 rw [e, e, h]
theorem jdT {x y : Nat} (h : cn x = cn y) : cn (Op.negFloat .f64 x) = cn (Op.negFloat .f64 y) := by
 have hn : jb1 x = jb1 y := by rw [<- jdA x, h, jdA]
 cases hx : jb1 x with
 | true => rw [jeR (by rw [jp0]; exact hx), jeR (by rw [jp0, <- hn]; exact hx)]
 | false =>
  rw [jdH hx, jdH (by rw [<- hn]; exact hx)] at h
  rw [h]
def tqC (l s n : Bool) (p : Nat × Nat) : Nat × Nat := (fop .add (if l then Op.negFloat .f64 (if s then p.2 else p.1) else (if s then p.2 else p.1)) 0, fop .add (if n then Op.negFloat .f64 (if s then p.1 else p.2) else (if s then p.1 else p.2)) 0)
def tqA (r : Nat) (l : Bool) : Nat := if l then fop .sub 4602678819172646912 (r % 9223372036854775808) else r % 9223372036854775808
def tqB (a : Nat) (s : Bool) : Nat := if s then fop .sub 4598175219545276416 a else a
def tqL (r : Nat) : Bool := FloatKind.f64.format.order (r % 9223372036854775808) 4598175219545276416 == some .gt
def tqS (a : Nat) : Bool := FloatKind.f64.format.order a 4593671619917905920 == some .gt
def tqN (r : Nat) : Bool := FloatKind.f64.format.order r 0 == some .lt
def tqF (r : Nat) : Nat × Nat := if FloatKind.f64.format.order r r != some .eq then (r, r) else tqC (tqL r) (tqS (tqA r (tqL r))) (tqN r) (jdD (tqB (tqA r (tqL r)) (tqS (tqA r (tqL r)))))
def jh1 (x : Nat) : Nat × Nat := tqF (je8 x)
theorem je4 {x r a1 a2 c d : Nat} {l s n : Bool} (hc : (FloatKind.f64.format.order r r != some .eq) = false) (hw : r = je8 x) (hl : tqL r = l) (h1 : cn a1 = cn (tqA r l)) (hst : tqS a1 = s) (h2 : cn a2 = cn (tqB a1 s)) (hng : tqN r = n)
  (h3 : cn c = (tqC l s n (jdD a2)).1) (h4 : cn d = (tqC l s n (jdD a2)).2) : cn c = cn (jh1 x).1 /\ cn d = cn (jh1 x).2 := by
 have e1 : tqS (tqA r l) = s := by rw [<- hst]; unfold tqS; rw [jd5 h1 rfl]
 have e2 : jdD a2 = jdD (tqB (tqA r l) s) := eigF_congr (h2.trans (by
  unfold tqB
  split
  ·
   rw [jaL, jaL]; exact ja5 rfl h1
  exact h1))
 have e3 : jh1 x = tqC l s n (jdD a2) := by
  unfold jh1 tqF
  rw [<- hw, hc, if_neg (by decide), hl, e1, hng, e2]
 rw [e3]
 exact ⟨by rw [<- h3, cn_cn], by rw [<- h4, cn_cn]⟩
set_option maxHeartbeats 1000000 in
theorem turn_ok (x : Nat) (hx2 : x < 18446744073709551616) (w0 : World) : Ret Tryz.prog 62 [.float .f64 x] w0 fun v w' => ∃ re im, v = .complex .f64 re im /\ HS w0 w' [] /\ cn re = cn (jh1 x).1 /\ cn im = cn (jh1 x).2 := by
 refine Ret.start fun w hs => ?_
 refine ja7 Tryz.func62 rfl rfl rfl (Wq (La rfl (Rq (Lm rfl (Lc f_87 rfl (wrap_ok x hx2 w) ?_)))))
 rintro _ w1 ⟨r, rfl, ⟨hlt, hwr⟩, hs'⟩
 replace hs := hs.nil hs'
 clear hs'
 refine La rfl (Rqq (Lmm rfl rfl ?_))
 cases hc : FloatKind.f64.format.order r r != some .eq
 ·
  have hn : jb1 r = false := jnR (o := .eq) (y := r) (by simpa using hc)
  rw [jdH hn] at hwr
  refine Cf rfl (fun _ => by rw [binOp_float_cmp_neq]; rfl) ?_
  refine Rt (jcG 12 (v' := .bool false) rfl (by rw [hc]) ?_)
  refine Wf rfl (Ws (Wq (Lm rfl (Lc f_75 rfl (abs_ok r (hlt hn) w1) ?_))))
  rintro _ w1 ⟨rfl, rfl⟩
  refine La rfl (Rq (Lm rfl ?_))
  cases hl : FloatKind.f64.format.order (r % 9223372036854775808) 4598175219545276416 == some .gt
  ·
   refine Cf rfl (fun _ => by rw [binOp_float_cmp_gtr, hl]; rfl) ?_
   refine La rfl (Rqq (Lm rfl (Rt (Wf rfl (Ws (Wq (Lm rfl ?_)))))))
   cases hst : FloatKind.f64.format.order (r % 9223372036854775808) 4593671619917905920 == some .gt
   ·
    refine Cf rfl (fun _ => by rw [binOp_float_cmp_gtr, hst]; rfl) ?_
    refine La rfl (Rqq (Lm rfl (Rt (Wf rfl (Ws (Wq (Lm rfl (Lc f_88 rfl (jkQ (r % 9223372036854775808) _) ?_))))))))
    rintro _ w2 ⟨re, im, rfl, hs', hre, him⟩
    replace hs := hs.nil hs'
    clear hs'
    refine La rfl (Rqq (Lm rfl (Rt (Wf rfl (Ws (Wqq (Lm rfl (Rt (Wf rfl (Ws (Wqq (Lm rfl ?_))))))))))))
    cases hng : FloatKind.f64.format.order r 0 == some .lt
    ·
     refine Cf rfl (fun _ => by rw [binOp_float_cmp_lss, hng]; rfl) ?_
     refine Rt (Wf rfl (Ws (Wq (Lm rfl (jeV rfl rfl (jaC rfl (op := .add) rfl rfl rfl ?_))))))
     intro r53 k53 hr53
     replace hs := hs.drewN k53
     refine Lm rfl (jeW rfl rfl (jaC rfl (op := .add) rfl rfl rfl ?_))
     intro r56 k56 hr56
     replace hs := hs.drewN k56
     refine jbU rfl rfl rfl (La rfl (Rt (jaW (ja9 rfl rfl ?_))))
     refine ⟨_, rfl, _, _, rfl, hs, je4 (a1 := (r % 9223372036854775808)) (a2 := (r % 9223372036854775808)) hc hwr hl rfl hst rfl hng ?_ ?_⟩
     ·
      exact (Fs.cn hr53).trans (ja5 hre rfl)
     exact (Fs.cn hr56).trans (ja5 him rfl)
    refine Cf rfl (fun _ => by rw [binOp_float_cmp_lss, hng]; rfl) ?_
    refine Rt (Wt rfl (Wr (Lm rfl (jeV rfl rfl (Lm rfl (jeW rfl rfl (jhC rfl rfl (jbU rfl rfl rfl (La rfl (Rq (Lm rfl (jeV rfl rfl (jaC rfl (op := .add) rfl rfl rfl ?_)))))))))))))
    intro r53 k53 hr53
    replace hs := hs.drewN k53
    refine Lm rfl (jeW rfl rfl (jaC rfl (op := .add) rfl rfl rfl ?_))
    intro r56 k56 hr56
    replace hs := hs.drewN k56
    refine jbU rfl rfl rfl (La rfl (Rt (jaW (ja9 rfl rfl ?_))))
    refine ⟨_, rfl, _, _, rfl, hs, je4 (a1 := (r % 9223372036854775808)) (a2 := (r % 9223372036854775808)) hc hwr hl rfl hst rfl hng ?_ ?_⟩
    ·
     exact (Fs.cn hr53).trans (ja5 hre rfl)
    exact (Fs.cn hr56).trans (ja5 (jdT him) rfl)
   refine Cf rfl (fun _ => by rw [binOp_float_cmp_gtr, hst]; rfl) ?_
   refine La rfl (Rqq (Lm rfl (Rt (Wt rfl (Wr (Lm rfl (jaC rfl (op := .sub) rfl rfl rfl ?_)))))))
   intro r27 k27 hr27
   replace hs := hs.drewN k27
   refine La rfl (Rq (Lm rfl (Lc f_88 rfl (jkQ r27 _) ?_)))
   rintro _ w2 ⟨re, im, rfl, hs', hre, him⟩
   replace hs := hs.nil hs'
   clear hs'
   refine La rfl (Rqq (Lm rfl (Rt (Wt rfl (Wr (Lm rfl (jeW rfl rfl (Lm rfl (jeV rfl rfl (jbU rfl rfl rfl (La rfl (Rqq (Lm rfl (Rt (Wf rfl (Ws (Wsq (Wsq (Wr (Lm rfl ?_))))))))))))))))))))
   cases hng : FloatKind.f64.format.order r 0 == some .lt
   ·
    refine Cf rfl (fun _ => by rw [binOp_float_cmp_lss, hng]; rfl) ?_
    refine Rt (Wf rfl (Ws (Wq (Lm rfl (jeV rfl rfl (jaC rfl (op := .add) rfl rfl rfl ?_))))))
    intro r53 k53 hr53
    replace hs := hs.drewN k53
    refine Lm rfl (jeW rfl rfl (jaC rfl (op := .add) rfl rfl rfl ?_))
    intro r56 k56 hr56
    replace hs := hs.drewN k56
    refine jbU rfl rfl rfl (La rfl (Rt (jaW (ja9 rfl rfl ?_))))
    refine ⟨_, rfl, _, _, rfl, hs, je4 (a1 := (r % 9223372036854775808)) (a2 := r27) hc hwr hl rfl hst ((Fs.cn hr27).trans (jaL ..).symm) hng ?_ ?_⟩
    ·
     exact (Fs.cn hr53).trans (ja5 him rfl)
    exact (Fs.cn hr56).trans (ja5 hre rfl)
   refine Cf rfl (fun _ => by rw [binOp_float_cmp_lss, hng]; rfl) ?_
   refine Rt (Wt rfl (Wr (Lm rfl (jeV rfl rfl (Lm rfl (jeW rfl rfl (jhC rfl rfl (jbU rfl rfl rfl (La rfl (Rq (Lm rfl (jeV rfl rfl (jaC rfl (op := .add) rfl rfl rfl ?_)))))))))))))
   intro r53 k53 hr53
   replace hs := hs.drewN k53
   refine Lm rfl (jeW rfl rfl (jaC rfl (op := .add) rfl rfl rfl ?_))
   intro r56 k56 hr56
   replace hs := hs.drewN k56
   refine jbU rfl rfl rfl (La rfl (Rt (jaW (ja9 rfl rfl ?_))))
   refine ⟨_, rfl, _, _, rfl, hs, je4 (a1 := (r % 9223372036854775808)) (a2 := r27) hc hwr hl rfl hst ((Fs.cn hr27).trans (jaL ..).symm) hng ?_ ?_⟩
   ·
    exact (Fs.cn hr53).trans (ja5 him rfl)
   exact (Fs.cn hr56).trans (ja5 (jdT hre) rfl)
  refine Cf rfl (fun _ => by rw [binOp_float_cmp_gtr, hl]; rfl) ?_
  refine La rfl (Rqq (Lm rfl (Rt (Wt rfl (Wr (Lm rfl (jaC rfl (op := .sub) rfl rfl rfl ?_)))))))
  intro r22 k22 hr22
  replace hs := hs.drewN k22
  refine La rfl (Rq (Lm rfl ?_))
  cases hst : FloatKind.f64.format.order r22 4593671619917905920 == some .gt
  ·
   refine Cf rfl (fun _ => by rw [binOp_float_cmp_gtr, hst]; rfl) ?_
   refine La rfl (Rqq (Lm rfl (Rt (Wf rfl (Ws (Wq (Lm rfl (Lc f_88 rfl (jkQ r22 _) ?_))))))))
   rintro _ w2 ⟨re, im, rfl, hs', hre, him⟩
   replace hs := hs.nil hs'
   clear hs'
   refine La rfl (Rqq (Lm rfl (Rt (Wf rfl (Ws (Wqq (Lm rfl (Rt (Wt rfl (Wr (Lm rfl (jeV rfl rfl (jhC rfl rfl (Lm rfl (jeW rfl rfl (jbU rfl rfl rfl (La rfl (Rt (Wsq (Wq (Lm rfl ?_)))))))))))))))))))))
   cases hng : FloatKind.f64.format.order r 0 == some .lt
   ·
    refine Cf rfl (fun _ => by rw [binOp_float_cmp_lss, hng]; rfl) ?_
    refine Rt (Wf rfl (Ws (Wq (Lm rfl (jeV rfl rfl (jaC rfl (op := .add) rfl rfl rfl ?_))))))
    intro r53 k53 hr53
    replace hs := hs.drewN k53
    refine Lm rfl (jeW rfl rfl (jaC rfl (op := .add) rfl rfl rfl ?_))
    intro r56 k56 hr56
    replace hs := hs.drewN k56
    refine jbU rfl rfl rfl (La rfl (Rt (jaW (ja9 rfl rfl ?_))))
    refine ⟨_, rfl, _, _, rfl, hs, je4 (a1 := r22) (a2 := r22) hc hwr hl ((Fs.cn hr22).trans (jaL ..).symm) hst rfl hng ?_ ?_⟩
    ·
     exact (Fs.cn hr53).trans (ja5 (jdT hre) rfl)
    exact (Fs.cn hr56).trans (ja5 him rfl)
   refine Cf rfl (fun _ => by rw [binOp_float_cmp_lss, hng]; rfl) ?_
   refine Rt (Wt rfl (Wr (Lm rfl (jeV rfl rfl (Lm rfl (jeW rfl rfl (jhC rfl rfl (jbU rfl rfl rfl (La rfl (Rq (Lm rfl (jeV rfl rfl (jaC rfl (op := .add) rfl rfl rfl ?_)))))))))))))
   intro r53 k53 hr53
   replace hs := hs.drewN k53
   refine Lm rfl (jeW rfl rfl (jaC rfl (op := .add) rfl rfl rfl ?_))
   intro r56 k56 hr56
   replace hs := hs.drewN k56
   refine jbU rfl rfl rfl (La rfl (Rt (jaW (ja9 rfl rfl ?_))))
   refine ⟨_, rfl, _, _, rfl, hs, je4 (a1 := r22) (a2 := r22) hc hwr hl ((Fs.cn hr22).trans (jaL ..).symm) hst rfl hng ?_ ?_⟩
   ·
    exact (Fs.cn hr53).trans (ja5 (jdT hre) rfl)
   exact (Fs.cn hr56).trans (ja5 (jdT him) rfl)
  refine Cf rfl (fun _ => by rw [binOp_float_cmp_gtr, hst]; rfl) ?_
  refine La rfl (Rqq (Lm rfl (Rt (Wt rfl (Wr (Lm rfl (jaC rfl (op := .sub) rfl rfl rfl ?_)))))))
  intro r27 k27 hr27
  replace hs := hs.drewN k27
  refine La rfl (Rq (Lm rfl (Lc f_88 rfl (jkQ r27 _) ?_)))
  rintro _ w2 ⟨re, im, rfl, hs', hre, him⟩
  replace hs := hs.nil hs'
  clear hs'
  refine La rfl (Rqq (Lm rfl (Rt (Wt rfl (Wr (Lm rfl (jeW rfl rfl (Lm rfl (jeV rfl rfl (jbU rfl rfl rfl (La rfl (Rqq (Lm rfl (Rt (Wt rfl (Wr (Lm rfl (jeV rfl rfl (jhC rfl rfl (Lm rfl (jeW rfl rfl (jbU rfl rfl rfl (La rfl (Rqq (Lm rfl ?_)))))))))))))))))))))))))
  cases hng : FloatKind.f64.format.order r 0 == some .lt
  ·
   refine Cf rfl (fun _ => by rw [binOp_float_cmp_lss, hng]; rfl) ?_
   refine Rt (Wf rfl (Ws (Wq (Lm rfl (jeV rfl rfl (jaC rfl (op := .add) rfl rfl rfl ?_))))))
   intro r53 k53 hr53
   replace hs := hs.drewN k53
   refine Lm rfl (jeW rfl rfl (jaC rfl (op := .add) rfl rfl rfl ?_))
   intro r56 k56 hr56
   replace hs := hs.drewN k56
   refine jbU rfl rfl rfl (La rfl (Rt (jaW (ja9 rfl rfl ?_))))
   refine ⟨_, rfl, _, _, rfl, hs, je4 (a1 := r22) (a2 := r27) hc hwr hl ((Fs.cn hr22).trans (jaL ..).symm) hst ((Fs.cn hr27).trans (jaL ..).symm) hng ?_ ?_⟩
   ·
    exact (Fs.cn hr53).trans (ja5 (jdT him) rfl)
   exact (Fs.cn hr56).trans (ja5 hre rfl)
  refine Cf rfl (fun _ => by rw [binOp_float_cmp_lss, hng]; rfl) ?_
  refine Rt (Wt rfl (Wr (Lm rfl (jeV rfl rfl (Lm rfl (jeW rfl rfl (jhC rfl rfl (jbU rfl rfl rfl (La rfl (Rq (Lm rfl (jeV rfl rfl (jaC rfl (op := .add) rfl rfl rfl ?_)))))))))))))
  intro r53 k53 hr53
  replace hs := hs.drewN k53
  refine Lm rfl (jeW rfl rfl (jaC rfl (op := .add) rfl rfl rfl ?_))
  intro r56 k56 hr56
  replace hs := hs.drewN k56
  refine jbU rfl rfl rfl (La rfl (Rt (jaW (ja9 rfl rfl ?_))))
  refine ⟨_, rfl, _, _, rfl, hs, je4 (a1 := r22) (a2 := r27) hc hwr hl ((Fs.cn hr22).trans (jaL ..).symm) hst ((Fs.cn hr27).trans (jaL ..).symm) hng ?_ ?_⟩
  ·
   exact (Fs.cn hr53).trans (ja5 (jdT him) rfl)
  exact (Fs.cn hr56).trans (ja5 (jdT hre) rfl)
 refine Cf rfl (fun _ => by rw [binOp_float_cmp_neq]; rfl) ?_
 refine Rt (jcG 12 (v' := .bool true) rfl (by rw [hc]) ?_)
 refine Wt rfl (Wq (Lmm rfl rfl (jbU rfl rfl rfl (La rfl (Rt (jaW (ja2 (ja9 rfl rfl ?_))))))))
 have hc2 : (FloatKind.f64.format.order (je8 x) (je8 x) != some .eq) = true := by rw [<- hwr, jr0]; exact hc
 have e : jh1 x = (je8 x, je8 x) := by unfold jh1 tqF; rw [hc2, if_pos rfl]
 refine ⟨_, rfl, _, _, rfl, hs, ?_, ?_⟩
 ·
  rw [e, <- hwr, cn_cn]
 rw [e, <- hwr, cn_cn]
def nanB (x : Nat) : Bool := FloatKind.f64.format.order x x != some .eq
def infB (x : Nat) : Bool := FloatKind.f64.format.order (x % 9223372036854775808) 9218868437227405311 == some .gt
def je6 (x : Nat) : Bool := !nanB x && !infB x
theorem isnanB_ok (x : Nat) (w : World) : Ret Tryz.prog 43 [.float .f64 x] w fun v w' => v = .bool (nanB x) /\ w' = w := by
 refine ja7 Tryz.func43 rfl rfl rfl (Wq (La rfl (Rq (Lmm rfl rfl ?_))))
 refine Cf rfl (fun _ => by rw [binOp_float_cmp_neq]; rfl) ?_
 refine La rfl (Rt (jaW (ja9 rfl rfl ?_)))
 exact ⟨_, rfl, rfl, rfl⟩
theorem isinfB_ok (x : Nat) (hx : x < 18446744073709551616) (w : World) : Ret Tryz.prog 44 [.float .f64 x, .int .i64 0] w fun v w' => v = .bool (infB x) /\ w' = w := by
 refine ja7 Tryz.func44 rfl rfl rfl (Wq (La rfl (Rqq (Lm rfl (jdS rfl (jaF (by omega)) ?_)))))
 refine Rt (Wt rfl (Wr (Lm rfl (Lc f_75 rfl (abs_ok x hx w) ?_))))
 rintro _ w ⟨rfl, rfl⟩
 refine La rfl (Rq (Lm rfl ?_))
 refine Cf rfl (fun _ => by rw [binOp_float_cmp_gtr]; rfl) ?_
 refine La rfl (Rt (jaW (ja9 rfl rfl ?_)))
 exact ⟨_, rfl, rfl, rfl⟩
theorem notfin_ok (x : Nat) (hx : x < 18446744073709551616) (w : World) : Ret Tryz.prog 42 [.float .f64 x] w fun v w' => v = .bool (!je6 x) /\ w' = w := by
 refine ja7 Tryz.func42 rfl rfl rfl (Wq (La rfl (Rq (Lm rfl (Lc f_43 rfl (isnanB_ok x w) ?_)))))
 rintro _ w ⟨rfl, rfl⟩
 cases hn : nanB x
 ·
  refine Lm rfl (Gm rfl rfl (Rw rfl (Lc f_44 rfl (isinfB_ok x hx w) ?_)))
  rintro _ w ⟨rfl, rfl⟩
  refine Lpf rfl (La rfl (Rt (jaW (ja9 rfl rfl ?_))))
  exact ⟨_, rfl, by simp [je6, hn], rfl⟩
 refine Lm rfl (Rs rfl (Rs rfl (Lpt rfl (La rfl (Rt (jaW (ja9 rfl rfl ?_)))))))
 exact ⟨_, rfl, by simp [je6, hn], rfl⟩
def Found (p : Nat -> Prop) (k : Nat) (j : Int) : Prop := (∃ i, i < k /\ j = (i : Int) /\ p i /\ ∀ q, q < i -> ¬ p q) ∨ (j = -1 /\ ∀ q, q < k -> ¬ p q)
theorem index_ok (a : Option Addr) (k c : Nat) (xs : List Nat) (w0 : World) (hx : SlC w0 a (fl xs)) (hk : xs.length = k) (hk2 : k <= 1000000) (hlt : ∀ i, i < k -> xs.getD i 0 < 18446744073709551616) :
  Ret Tryz.prog 74 [.slice a k c, .func (.func 42) #[] #[]] w0 fun v w' => ∃ j, v = .int .i64 j /\ HS w0 w' [] /\ Found (fun i => je6 (xs.getD i 0) = false) k j := by
 refine Ret.start fun w hs => ?_
 refine ja7 Tryz.func74 rfl rfl rfl (Wq (La rfl (Rqq (Lm rfl (Le u_96 rfl (Lm rfl (Rt (ja4 ?_))))))))
 refine jd8 (fun (i : Nat) (w : World) => [(0, .slice a k c), (1, .func (.func 42) #[] #[]), (7, .int .i64 k), (8, .int .i64 i)]) (fun i w => w) (fun i w => (i <= k) /\ (∀ q, q < i -> je6 (xs.getD q 0) = true) /\ (HS w0 w [])) (fun i w => k - i) (0) (w) (is := [0, 1, 7, 8]) rfl rfl ?_ ?_
 ·
  exact ⟨Nat.zero_le _, fun _ h => absurd h (Nat.not_lt_zero _), hs⟩
 clear hs
 intro i w hI
 show W _ _ _ _ [(0, .slice a k c), (1, .func (.func 42) #[] #[]), (7, .int .i64 k), (8, .int .i64 i)] w
 obtain ⟨hi, hq, hs⟩ := hI
 by_cases hlt2 : i < k
 ·
  refine Wq (jaZ rfl (jaF (by omega)) ?_)
  refine Rt (Wsq (Wt rfl (Ws (Wsq (ja4 (Wq (Lm rfl (La rfl (Rt (Wsq (Wr (Lmm rfl rfl (Lm rfl ?_)))))))))))))
  refine Li u_96 jaS rfl (ja6 _) (by omega) (hx.ao (by rw [fl_length]; omega)) ?_
  refine Ll jb5 rfl (by exact (hx.old hs Own.nil).get (fl_get (by omega))) ?_
  refine jmB rfl f_42 rfl rfl (notfin_ok (xs.getD i 0) (hlt i hlt2) w) ?_
  rintro _ w' ⟨rfl, rfl⟩
  cases hf : je6 (xs.getD i 0)
  ·
   refine Rt (Wt rfl (Wq (Lm rfl (La rfl (Rt (jaW (jaG (ja2 (jc0 (jaG (ja2 (ja9 rfl rfl ?_))))))))))))
   exact ⟨_, rfl, _, rfl, hs, .inl ⟨i, hlt2, rfl, hf, fun q hqi h => by have h := h.symm.trans (hq q hqi); cases h⟩⟩
  refine Rt (Wf rfl (jaY (jaB (Nt (Wr (jbG rfl (ja3 (by omega)) ?_))))))
  refine Lm rfl (Rnl (Nq (i + 1, _) [0, 1, 7, 8] rfl ?_ ?_))
  ·
   dsimp only
   refine ⟨by omega, fun q hq2 => ?_, hs⟩
   by_cases hqi : q = i
   ·
    rw [hqi]; exact hf
   exact hq q (by omega)
  omega
 obtain rfl : k = i := by omega
 refine Wq (jaZ rfl (jaA (by omega)) ?_)
 refine Rt (Wsq (Wf rfl (jaK (ja0 (ja8 (ja1 (Nt (Wq (La rfl (Rt (jaW (ja9 rfl rfl ?_))))))))))))
 exact ⟨_, rfl, _, rfl, hs, .inr ⟨rfl, fun q hq2 h => by have h := h.symm.trans (hq q hq2); cases h⟩⟩
theorem contains_ok (a : Option Addr) (k c : Nat) (xs : List Nat) (w0 : World) (hx : SlC w0 a (fl xs)) (hk : xs.length = k) (hk2 : k <= 1000000) (hlt : ∀ i, i < k -> xs.getD i 0 < 18446744073709551616) :
  Ret Tryz.prog 41 [.slice a k c, .func (.func 42) #[] #[]] w0 fun v w' => ∃ b, v = .bool b /\ HS w0 w' [] /\ (b = true ↔ ∃ i, i < k /\ je6 (xs.getD i 0) = false) := by
 refine Ret.start fun w hs => ?_
 refine ja7 Tryz.func41 rfl rfl rfl (Wq (La rfl (Rq (Lmm rfl rfl (Lc f_74 rfl (index_ok a k c xs w (hx.old hs Own.nil) hk hk2 hlt) ?_)))))
 rintro _ w1 ⟨j, rfl, hs', hF⟩
 replace hs := hs.nil hs'
 rcases hF with ⟨i, hi, rfl, hp, _⟩ | ⟨rfl, hn⟩
 ·
  refine jgM rfl (jaF (by omega)) ?_
  refine La rfl (Rt (jaW (ja9 rfl rfl ?_)))
  exact ⟨_, rfl, _, rfl, hs, ⟨fun _ => ⟨i, hi, hp⟩, fun _ => rfl⟩⟩
 refine jgM rfl (jaA (by omega)) ?_
 refine La rfl (Rt (jaW (ja9 rfl rfl ?_)))
 exact ⟨_, rfl, _, rfl, hs, ⟨fun h => by simp at h, fun ⟨i, hi, h⟩ => absurd h (hn i hi)⟩⟩
theorem jp5 (a : Option Addr) (k c : Nat) (xs : List Nat) (w0 : World) (hx : SlC w0 a (fl xs)) (hk : xs.length = k) (hk2 : k <= 1000000) (hlt : ∀ i, i < k -> xs.getD i 0 < 18446744073709551616) :
  Ret Tryz.prog 17 [.slice a k c] w0 fun v w' => v = .bool (xs.all je6) /\ HS w0 w' [] := by
 refine Ret.start fun w hs => ?_
 refine ja7 Tryz.func17 rfl rfl rfl (Wq (La rfl (Rq (Lm rfl (Lc f_41 rfl (contains_ok a k c xs w (hx.old hs Own.nil) hk hk2 hlt) ?_)))))
 rintro _ w1 ⟨b, rfl, hs', hb⟩
 replace hs := hs.nil hs'
 refine jcP rfl (La rfl (Rt (jaW (ja9 rfl rfl ?_))))
 refine ⟨_, rfl, ?_, hs⟩
 congr 1
 rw [Bool.eq_iff_iff, List.all_eq_true]
 rw [Bool.not_eq_true', <- Bool.not_eq_true, hb]
 constructor
 ·
  intro h x hx'
  obtain ⟨i, hi, rfl⟩ := List.getElem_of_mem hx'
  have : je6 (xs.getD i 0) = true := by
   cases hf : je6 (xs.getD i 0) with
   | true => rfl
   | false => exact absurd ⟨i, by omega, hf⟩ h
  rw [List.getD_eq_getElem?_getD, List.getElem?_eq_getElem hi] at this
  exact this
 rintro h ⟨i, hi, hf⟩
 have := h (xs.getD i 0) (by rw [List.getD_eq_getElem?_getD, List.getElem?_eq_getElem (by omega)]; exact List.getElem_mem _)
 rw [this] at hf; cases hf
end Go.Proofs.YtffobakdngbadaaGreat