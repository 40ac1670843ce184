import Derived.Test.YthghohhaagkbnaaProg
import Derived.Test.YthghohhaagkbnaaPhList
namespace Ph.T
open Go Go.Proofs
theorem ag_103 : aggSize Try.prog 103 = some (none) := by kernel_rfl
theorem ag_106 : aggSize Try.prog 106 = some (none) := by kernel_rfl
theorem ag_110 : aggSize Try.prog 110 = some (some 5) := by kernel_rfl
theorem ag_112 : aggSize Try.prog 112 = some (none) := by kernel_rfl
theorem ag_119 : aggSize Try.prog 119 = some (some 6) := by kernel_rfl
theorem ag_121 : aggSize Try.prog 121 = some (none) := by kernel_rfl
theorem ag_134 : aggSize Try.prog 134 = some (some 4) := by kernel_rfl
theorem ag_136 : aggSize Try.prog 136 = some (none) := by kernel_rfl
theorem ag_140 : aggSize Try.prog 140 = some (none) := by kernel_rfl
theorem ag_22 : aggSize Try.prog 22 = some (none) := by kernel_rfl
theorem ag_24 : aggSize Try.prog 24 = some (none) := by kernel_rfl
theorem ag_3 : aggSize Try.prog 3 = some (none) := by kernel_rfl
theorem ag_38 : aggSize Try.prog 38 = some (none) := by kernel_rfl
theorem ag_4 : aggSize Try.prog 4 = some (none) := by kernel_rfl
theorem ag_40 : aggSize Try.prog 40 = some (none) := by kernel_rfl
theorem ag_41 : aggSize Try.prog 41 = some (none) := by kernel_rfl
theorem ag_45 : aggSize Try.prog 45 = some (some 2) := by kernel_rfl
theorem ag_46 : aggSize Try.prog 46 = some (none) := by kernel_rfl
theorem ag_47 : aggSize Try.prog 47 = some (none) := by kernel_rfl
theorem ag_50 : aggSize Try.prog 50 = some (some 2) := by kernel_rfl
theorem ag_66 : aggSize Try.prog 66 = some (none) := by kernel_rfl
theorem ag_71 : aggSize Try.prog 71 = some (none) := by kernel_rfl
theorem ag_79 : aggSize Try.prog 79 = some (some 5) := by kernel_rfl
theorem ag_82 : aggSize Try.prog 82 = some (some 3) := by kernel_rfl
theorem ag_88 : aggSize Try.prog 88 = some (none) := by kernel_rfl
theorem ag_9 : aggSize Try.prog 9 = some (none) := by kernel_rfl
theorem ag_93 : aggSize Try.prog 93 = some (some 4) := by kernel_rfl
theorem ag_95 : aggSize Try.prog 95 = some (none) := by kernel_rfl
theorem eb_112 : elemBytes Try.prog 112 = some 64 := by kernel_rfl
theorem eb_121 : elemBytes Try.prog 121 = some 56 := by kernel_rfl
theorem eb_140 : elemBytes Try.prog 140 = some 40 := by kernel_rfl
theorem eb_22 : elemBytes Try.prog 22 = some 8 := by kernel_rfl
theorem eb_40 : elemBytes Try.prog 40 = some 24 := by kernel_rfl
theorem eb_46 : elemBytes Try.prog 46 = some 16 := by kernel_rfl
theorem eb_71 : elemBytes Try.prog 71 = some 32 := by kernel_rfl
theorem eb_95 : elemBytes Try.prog 95 = some 32 := by kernel_rfl
theorem es_112 : elemSize Try.prog 112 = some 5 := by kernel_rfl
theorem es_121 : elemSize Try.prog 121 = some 6 := by kernel_rfl
theorem es_140 : elemSize Try.prog 140 = some 4 := by kernel_rfl
theorem es_22 : elemSize Try.prog 22 = some 1 := by kernel_rfl
theorem es_40 : elemSize Try.prog 40 = some 2 := by kernel_rfl
theorem es_46 : elemSize Try.prog 46 = some 1 := by kernel_rfl
theorem es_65 : elemSize Try.prog 65 = some 5 := by kernel_rfl
theorem es_71 : elemSize Try.prog 71 = some 3 := by kernel_rfl
theorem es_9 : elemSize Try.prog 9 = none := by kernel_rfl
theorem es_95 : elemSize Try.prog 95 = some 4 := by kernel_rfl
theorem ez_112 : elemZero Try.prog 112 = some (5, [.int .i64 0, .string ⟨#[]⟩, .slice none 0 0, .int .i64 0, .int .i64 0]) := by kernel_rfl
theorem ez_121 : elemZero Try.prog 121 = some (6, [.int .i64 0, .int .i64 0, .int .i64 0, .string ⟨#[]⟩, .int .i64 0, .int .i64 0]) := by kernel_rfl
theorem ez_140 : elemZero Try.prog 140 = some (4, [.string ⟨#[]⟩, .int .i64 0, .int .i64 0, .int .i64 0]) := by kernel_rfl
theorem ez_22 : elemZero Try.prog 22 = some (1, [.int .i64 0]) := by kernel_rfl
theorem ez_40 : elemZero Try.prog 40 = some (2, [.int .i64 0, .string ⟨#[]⟩]) := by kernel_rfl
theorem ez_46 : elemZero Try.prog 46 = some (1, [.string ⟨#[]⟩]) := by kernel_rfl
theorem ez_71 : elemZero Try.prog 71 = some (3, [.string ⟨#[]⟩, .int .i64 0, .int .i64 0]) := by kernel_rfl
theorem ez_95 : elemZero Try.prog 95 = some (4, [.int .i64 0, .int .i64 0, .int .i64 0, .int .i64 0]) := by kernel_rfl
theorem fo_105_0 : fieldOff Try.prog 105 0 = some 0 := by kernel_rfl
theorem fo_105_1 : fieldOff Try.prog 105 1 = some 1 := by kernel_rfl
theorem fo_105_2 : fieldOff Try.prog 105 2 = some 2 := by kernel_rfl
theorem fo_105_3 : fieldOff Try.prog 105 3 = some 3 := by kernel_rfl
theorem fo_108_0 : fieldOff Try.prog 108 0 = some 0 := by kernel_rfl
theorem fo_108_1 : fieldOff Try.prog 108 1 = some 1 := by kernel_rfl
theorem fo_108_2 : fieldOff Try.prog 108 2 = some 2 := by kernel_rfl
theorem fo_108_3 : fieldOff Try.prog 108 3 = some 3 := by kernel_rfl
theorem fo_110_0 : fieldOff Try.prog 110 0 = some 0 := by kernel_rfl
theorem fo_110_1 : fieldOff Try.prog 110 1 = some 2 := by kernel_rfl
theorem fo_110_2 : fieldOff Try.prog 110 2 = some 3 := by kernel_rfl
theorem fo_110_3 : fieldOff Try.prog 110 3 = some 4 := by kernel_rfl
theorem fo_119_0 : fieldOff Try.prog 119 0 = some 0 := by kernel_rfl
theorem fo_119_1 : fieldOff Try.prog 119 1 = some 2 := by kernel_rfl
theorem fo_119_2 : fieldOff Try.prog 119 2 = some 4 := by kernel_rfl
theorem fo_119_3 : fieldOff Try.prog 119 3 = some 5 := by kernel_rfl
theorem fo_134_0 : fieldOff Try.prog 134 0 = some 0 := by kernel_rfl
theorem fo_134_1 : fieldOff Try.prog 134 1 = some 1 := by kernel_rfl
theorem fo_134_2 : fieldOff Try.prog 134 2 = some 2 := by kernel_rfl
theorem fo_134_3 : fieldOff Try.prog 134 3 = some 3 := by kernel_rfl
theorem fo_138_0 : fieldOff Try.prog 138 0 = some 0 := by kernel_rfl
theorem fo_138_1 : fieldOff Try.prog 138 1 = some 1 := by kernel_rfl
theorem fo_138_2 : fieldOff Try.prog 138 2 = some 2 := by kernel_rfl
theorem fo_138_3 : fieldOff Try.prog 138 3 = some 3 := by kernel_rfl
theorem fo_45_0 : fieldOff Try.prog 45 0 = some 0 := by kernel_rfl
theorem fo_45_1 : fieldOff Try.prog 45 1 = some 1 := by kernel_rfl
theorem fo_77_0 : fieldOff Try.prog 77 0 = some 0 := by kernel_rfl
theorem fo_77_1 : fieldOff Try.prog 77 1 = some 1 := by kernel_rfl
theorem fo_77_2 : fieldOff Try.prog 77 2 = some 2 := by kernel_rfl
theorem fo_79_0 : fieldOff Try.prog 79 0 = some 0 := by kernel_rfl
theorem fo_79_1 : fieldOff Try.prog 79 1 = some 1 := by kernel_rfl
theorem fo_79_2 : fieldOff Try.prog 79 2 = some 2 := by kernel_rfl
theorem fo_79_3 : fieldOff Try.prog 79 3 = some 3 := by kernel_rfl
theorem fo_79_4 : fieldOff Try.prog 79 4 = some 4 := by kernel_rfl
theorem fo_82_0 : fieldOff Try.prog 82 0 = some 0 := by kernel_rfl
theorem fo_82_1 : fieldOff Try.prog 82 1 = some 1 := by kernel_rfl
theorem fo_82_2 : fieldOff Try.prog 82 2 = some 2 := by kernel_rfl
theorem fo_90_0 : fieldOff Try.prog 90 0 = some 0 := by kernel_rfl
theorem fo_90_1 : fieldOff Try.prog 90 1 = some 1 := by kernel_rfl
theorem fo_90_2 : fieldOff Try.prog 90 2 = some 2 := by kernel_rfl
theorem fo_90_3 : fieldOff Try.prog 90 3 = some 3 := by kernel_rfl
theorem fo_93_0 : fieldOff Try.prog 93 0 = some 0 := by kernel_rfl
theorem fo_93_1 : fieldOff Try.prog 93 1 = some 1 := by kernel_rfl
theorem fo_93_2 : fieldOff Try.prog 93 2 = some 2 := by kernel_rfl
theorem fo_93_3 : fieldOff Try.prog 93 3 = some 3 := by kernel_rfl
theorem gf_10 : goodFunc Try.prog 10 = true := by kernel_rfl
theorem gf_11 : goodFunc Try.prog 11 = true := by kernel_rfl
theorem gf_12 : goodFunc Try.prog 12 = true := by kernel_rfl
theorem gf_13 : goodFunc Try.prog 13 = true := by kernel_rfl
theorem gf_14 : goodFunc Try.prog 14 = true := by kernel_rfl
theorem gf_15 : goodFunc Try.prog 15 = true := by kernel_rfl
theorem gf_16 : goodFunc Try.prog 16 = true := by kernel_rfl
theorem gf_17 : goodFunc Try.prog 17 = true := by kernel_rfl
theorem gf_18 : goodFunc Try.prog 18 = true := by kernel_rfl
theorem gf_19 : goodFunc Try.prog 19 = true := by kernel_rfl
theorem gf_20 : goodFunc Try.prog 20 = true := by kernel_rfl
theorem gf_21 : goodFunc Try.prog 21 = true := by kernel_rfl
theorem gf_22 : goodFunc Try.prog 22 = true := by kernel_rfl
theorem gf_23 : goodFunc Try.prog 23 = true := by kernel_rfl
theorem gf_24 : goodFunc Try.prog 24 = true := by kernel_rfl
theorem gf_25 : goodFunc Try.prog 25 = true := by kernel_rfl
theorem gf_26 : goodFunc Try.prog 26 = true := by kernel_rfl
theorem gf_27 : goodFunc Try.prog 27 = true := by kernel_rfl
theorem gf_28 : goodFunc Try.prog 28 = true := by kernel_rfl
theorem gf_29 : goodFunc Try.prog 29 = true := by kernel_rfl
theorem gf_30 : goodFunc Try.prog 30 = true := by kernel_rfl
theorem gf_31 : goodFunc Try.prog 31 = true := by kernel_rfl
theorem gf_32 : goodFunc Try.prog 32 = true := by kernel_rfl
theorem gf_33 : goodFunc Try.prog 33 = true := by kernel_rfl
theorem gf_34 : goodFunc Try.prog 34 = true := by kernel_rfl
theorem gf_35 : goodFunc Try.prog 35 = true := by kernel_rfl
theorem gf_36 : goodFunc Try.prog 36 = true := by kernel_rfl
theorem gf_37 : goodFunc Try.prog 37 = true := by kernel_rfl
theorem gf_38 : goodFunc Try.prog 38 = true := by kernel_rfl
theorem gf_39 : goodFunc Try.prog 39 = true := by kernel_rfl
theorem gf_40 : goodFunc Try.prog 40 = true := by kernel_rfl
theorem gf_41 : goodFunc Try.prog 41 = true := by kernel_rfl
theorem gf_42 : goodFunc Try.prog 42 = true := by kernel_rfl
theorem gf_43 : goodFunc Try.prog 43 = true := by kernel_rfl
theorem gf_44 : goodFunc Try.prog 44 = true := by kernel_rfl
theorem gf_46 : goodFunc Try.prog 46 = true := by kernel_rfl
theorem gf_47 : goodFunc Try.prog 47 = true := by kernel_rfl
theorem gf_48 : goodFunc Try.prog 48 = true := by kernel_rfl
theorem gf_49 : goodFunc Try.prog 49 = true := by kernel_rfl
theorem gf_50 : goodFunc Try.prog 50 = true := by kernel_rfl
theorem gf_51 : goodFunc Try.prog 51 = true := by kernel_rfl
theorem gf_52 : goodFunc Try.prog 52 = true := by kernel_rfl
theorem gf_53 : goodFunc Try.prog 53 = true := by kernel_rfl
theorem gf_54 : goodFunc Try.prog 54 = true := by kernel_rfl
theorem gf_55 : goodFunc Try.prog 55 = true := by kernel_rfl
theorem gf_56 : goodFunc Try.prog 56 = true := by kernel_rfl
theorem gf_58 : goodFunc Try.prog 58 = true := by kernel_rfl
theorem gf_60 : goodFunc Try.prog 60 = true := by kernel_rfl
theorem gf_61 : goodFunc Try.prog 61 = true := by kernel_rfl
theorem gf_62 : goodFunc Try.prog 62 = true := by kernel_rfl
theorem gf_63 : goodFunc Try.prog 63 = true := by kernel_rfl
theorem gf_64 : goodFunc Try.prog 64 = true := by kernel_rfl
theorem gf_65 : goodFunc Try.prog 65 = true := by kernel_rfl
theorem gf_66 : goodFunc Try.prog 66 = true := by kernel_rfl
theorem gf_67 : goodFunc Try.prog 67 = true := by kernel_rfl
theorem gf_69 : goodFunc Try.prog 69 = true := by kernel_rfl
theorem gf_71 : goodFunc Try.prog 71 = true := by kernel_rfl
theorem gf_73 : goodFunc Try.prog 73 = true := by kernel_rfl
theorem gf_74 : goodFunc Try.prog 74 = true := by kernel_rfl
theorem gf_75 : goodFunc Try.prog 75 = true := by kernel_rfl
theorem gf_77 : goodFunc Try.prog 77 = true := by kernel_rfl
theorem gf_79 : goodFunc Try.prog 79 = true := by kernel_rfl
theorem gf_81 : goodFunc Try.prog 81 = true := by kernel_rfl
theorem gf_83 : goodFunc Try.prog 83 = true := by kernel_rfl
theorem gf_84 : goodFunc Try.prog 84 = true := by kernel_rfl
theorem gf_85 : goodFunc Try.prog 85 = true := by kernel_rfl
theorem gf_87 : goodFunc Try.prog 87 = true := by kernel_rfl
theorem gf_89 : goodFunc Try.prog 89 = true := by kernel_rfl
theorem gf_9 : goodFunc Try.prog 9 = true := by kernel_rfl
theorem gf_90 : goodFunc Try.prog 90 = true := by kernel_rfl
theorem gf_91 : goodFunc Try.prog 91 = true := by kernel_rfl
theorem gf_92 : goodFunc Try.prog 92 = true := by kernel_rfl
theorem gf_93 : goodFunc Try.prog 93 = true := by kernel_rfl
theorem gf_94 : goodFunc Try.prog 94 = true := by kernel_rfl
theorem ib_24 : isBool Try.prog 24 = false := by kernel_rfl
theorem ib_25 : isBool Try.prog 25 = false := by kernel_rfl
theorem ib_28 : isBool Try.prog 28 = false := by kernel_rfl
theorem ib_3 : isBool Try.prog 3 = false := by kernel_rfl
theorem ib_4 : isBool Try.prog 4 = true := by kernel_rfl
theorem ib_41 : isBool Try.prog 41 = false := by kernel_rfl
theorem ib_45 : isBool Try.prog 45 = false := by kernel_rfl
theorem ib_47 : isBool Try.prog 47 = false := by kernel_rfl
theorem ib_66 : isBool Try.prog 66 = false := by kernel_rfl
theorem ib_9 : isBool Try.prog 9 = false := by kernel_rfl
theorem ii_103 : isInt Try.prog 103 = none := by kernel_rfl
theorem ii_106 : isInt Try.prog 106 = none := by kernel_rfl
theorem ii_112 : isInt Try.prog 112 = none := by kernel_rfl
theorem ii_121 : isInt Try.prog 121 = none := by kernel_rfl
theorem ii_136 : isInt Try.prog 136 = none := by kernel_rfl
theorem ii_140 : isInt Try.prog 140 = none := by kernel_rfl
theorem ii_171 : isInt Try.prog 171 = some .u64 := by kernel_rfl
theorem ii_22 : isInt Try.prog 22 = none := by kernel_rfl
theorem ii_28 : isInt Try.prog 28 = some .u64 := by kernel_rfl
theorem ii_3 : isInt Try.prog 3 = some .i64 := by kernel_rfl
theorem ii_40 : isInt Try.prog 40 = none := by kernel_rfl
theorem ii_45 : isInt Try.prog 45 = none := by kernel_rfl
theorem ii_46 : isInt Try.prog 46 = none := by kernel_rfl
theorem ii_50 : isInt Try.prog 50 = none := by kernel_rfl
theorem ii_65 : isInt Try.prog 65 = none := by kernel_rfl
theorem ii_71 : isInt Try.prog 71 = none := by kernel_rfl
theorem ii_88 : isInt Try.prog 88 = none := by kernel_rfl
theorem ii_9 : isInt Try.prog 9 = none := by kernel_rfl
theorem ii_95 : isInt Try.prog 95 = none := by kernel_rfl
theorem ip_24 : isPtr Try.prog 24 = true := by kernel_rfl
theorem ip_25 : isPtr Try.prog 25 = false := by kernel_rfl
theorem ip_28 : isPtr Try.prog 28 = false := by kernel_rfl
theorem ip_3 : isPtr Try.prog 3 = false := by kernel_rfl
theorem ip_4 : isPtr Try.prog 4 = false := by kernel_rfl
theorem ip_41 : isPtr Try.prog 41 = true := by kernel_rfl
theorem ip_45 : isPtr Try.prog 45 = false := by kernel_rfl
theorem ip_47 : isPtr Try.prog 47 = true := by kernel_rfl
theorem ip_66 : isPtr Try.prog 66 = true := by kernel_rfl
theorem ip_9 : isPtr Try.prog 9 = false := by kernel_rfl
theorem mt_103 : mapTy Try.prog 103 = some (45, 110) := by kernel_rfl
theorem mt_106 : mapTy Try.prog 106 = some (50, 119) := by kernel_rfl
theorem mt_136 : mapTy Try.prog 136 = some (9, 134) := by kernel_rfl
theorem mt_88 : mapTy Try.prog 88 = some (3, 93) := by kernel_rfl
theorem pl_105 : places Try.prog 105 = some [(0, 1), (1, 1), (2, 1), (3, 1)] := by kernel_rfl
theorem pl_108 : places Try.prog 108 = some [(0, 1), (1, 1), (2, 1), (3, 1)] := by kernel_rfl
theorem pl_110 : places Try.prog 110 = some [(0, 2), (2, 1), (3, 1), (4, 1)] := by kernel_rfl
theorem pl_119 : places Try.prog 119 = some [(0, 2), (2, 2), (4, 1), (5, 1)] := by kernel_rfl
theorem pl_134 : places Try.prog 134 = some [(0, 1), (1, 1), (2, 1), (3, 1)] := by kernel_rfl
theorem pl_138 : places Try.prog 138 = some [(0, 1), (1, 1), (2, 1), (3, 1)] := by kernel_rfl
theorem pl_45 : places Try.prog 45 = some [(0, 1), (1, 1)] := by kernel_rfl
theorem pl_50 : places Try.prog 50 = some [(0, 1), (1, 1)] := by kernel_rfl
theorem pl_77 : places Try.prog 77 = some [(0, 1), (1, 1), (2, 1)] := by kernel_rfl
theorem pl_82 : places Try.prog 82 = some [(0, 1), (1, 1), (2, 1)] := by kernel_rfl
theorem pl_90 : places Try.prog 90 = some [(0, 1), (1, 1), (2, 1), (3, 1)] := by kernel_rfl
theorem pl_93 : places Try.prog 93 = some [(0, 1), (1, 1), (2, 1), (3, 1)] := by kernel_rfl
theorem s8_103 : sliceOfU8 Try.prog 103 = false := by kernel_rfl
theorem s8_106 : sliceOfU8 Try.prog 106 = false := by kernel_rfl
theorem s8_112 : sliceOfU8 Try.prog 112 = false := by kernel_rfl
theorem s8_121 : sliceOfU8 Try.prog 121 = false := by kernel_rfl
theorem s8_136 : sliceOfU8 Try.prog 136 = false := by kernel_rfl
theorem s8_140 : sliceOfU8 Try.prog 140 = false := by kernel_rfl
theorem s8_171 : sliceOfU8 Try.prog 171 = false := by kernel_rfl
theorem s8_22 : sliceOfU8 Try.prog 22 = false := by kernel_rfl
theorem s8_28 : sliceOfU8 Try.prog 28 = false := by kernel_rfl
theorem s8_3 : sliceOfU8 Try.prog 3 = false := by kernel_rfl
theorem s8_40 : sliceOfU8 Try.prog 40 = false := by kernel_rfl
theorem s8_45 : sliceOfU8 Try.prog 45 = false := by kernel_rfl
theorem s8_46 : sliceOfU8 Try.prog 46 = false := by kernel_rfl
theorem s8_50 : sliceOfU8 Try.prog 50 = false := by kernel_rfl
theorem s8_65 : sliceOfU8 Try.prog 65 = false := by kernel_rfl
theorem s8_71 : sliceOfU8 Try.prog 71 = false := by kernel_rfl
theorem s8_88 : sliceOfU8 Try.prog 88 = false := by kernel_rfl
theorem s8_9 : sliceOfU8 Try.prog 9 = false := by kernel_rfl
theorem s8_95 : sliceOfU8 Try.prog 95 = false := by kernel_rfl
theorem sl_103 : isSl Try.prog 103 = false := by kernel_rfl
theorem sl_106 : isSl Try.prog 106 = false := by kernel_rfl
theorem sl_112 : isSl Try.prog 112 = true := by kernel_rfl
theorem sl_121 : isSl Try.prog 121 = true := by kernel_rfl
theorem sl_136 : isSl Try.prog 136 = false := by kernel_rfl
theorem sl_140 : isSl Try.prog 140 = true := by kernel_rfl
theorem sl_171 : isSl Try.prog 171 = false := by kernel_rfl
theorem sl_22 : isSl Try.prog 22 = true := by kernel_rfl
theorem sl_28 : isSl Try.prog 28 = false := by kernel_rfl
theorem sl_3 : isSl Try.prog 3 = false := by kernel_rfl
theorem sl_40 : isSl Try.prog 40 = true := by kernel_rfl
theorem sl_45 : isSl Try.prog 45 = false := by kernel_rfl
theorem sl_46 : isSl Try.prog 46 = true := by kernel_rfl
theorem sl_50 : isSl Try.prog 50 = false := by kernel_rfl
theorem sl_65 : isSl Try.prog 65 = true := by kernel_rfl
theorem sl_71 : isSl Try.prog 71 = true := by kernel_rfl
theorem sl_88 : isSl Try.prog 88 = false := by kernel_rfl
theorem sl_9 : isSl Try.prog 9 = false := by kernel_rfl
theorem sl_95 : isSl Try.prog 95 = true := by kernel_rfl
theorem st_103 : isStr Try.prog 103 = false := by kernel_rfl
theorem st_106 : isStr Try.prog 106 = false := by kernel_rfl
theorem st_112 : isStr Try.prog 112 = false := by kernel_rfl
theorem st_121 : isStr Try.prog 121 = false := by kernel_rfl
theorem st_136 : isStr Try.prog 136 = false := by kernel_rfl
theorem st_140 : isStr Try.prog 140 = false := by kernel_rfl
theorem st_171 : isStr Try.prog 171 = false := by kernel_rfl
theorem st_22 : isStr Try.prog 22 = false := by kernel_rfl
theorem st_28 : isStr Try.prog 28 = false := by kernel_rfl
theorem st_3 : isStr Try.prog 3 = false := by kernel_rfl
theorem st_40 : isStr Try.prog 40 = false := by kernel_rfl
theorem st_45 : isStr Try.prog 45 = false := by kernel_rfl
theorem st_46 : isStr Try.prog 46 = false := by kernel_rfl
theorem st_50 : isStr Try.prog 50 = false := by kernel_rfl
theorem st_65 : isStr Try.prog 65 = false := by kernel_rfl
theorem st_71 : isStr Try.prog 71 = false := by kernel_rfl
theorem st_88 : isStr Try.prog 88 = false := by kernel_rfl
theorem st_9 : isStr Try.prog 9 = true := by kernel_rfl
theorem st_95 : isStr Try.prog 95 = false := by kernel_rfl
theorem un_103 : (Try.prog.underlying 103).isSome = true := by kernel_rfl
theorem un_106 : (Try.prog.underlying 106).isSome = true := by kernel_rfl
theorem un_112 : (Try.prog.underlying 112).isSome = true := by kernel_rfl
theorem un_121 : (Try.prog.underlying 121).isSome = true := by kernel_rfl
theorem un_136 : (Try.prog.underlying 136).isSome = true := by kernel_rfl
theorem un_140 : (Try.prog.underlying 140).isSome = true := by kernel_rfl
theorem un_171 : (Try.prog.underlying 171).isSome = true := by kernel_rfl
theorem un_22 : (Try.prog.underlying 22).isSome = true := by kernel_rfl
theorem un_28 : (Try.prog.underlying 28).isSome = true := by kernel_rfl
theorem un_3 : (Try.prog.underlying 3).isSome = true := by kernel_rfl
theorem un_40 : (Try.prog.underlying 40).isSome = true := by kernel_rfl
theorem un_45 : (Try.prog.underlying 45).isSome = true := by kernel_rfl
theorem un_46 : (Try.prog.underlying 46).isSome = true := by kernel_rfl
theorem un_50 : (Try.prog.underlying 50).isSome = true := by kernel_rfl
theorem un_65 : (Try.prog.underlying 65).isSome = true := by kernel_rfl
theorem un_71 : (Try.prog.underlying 71).isSome = true := by kernel_rfl
theorem un_88 : (Try.prog.underlying 88).isSome = true := by kernel_rfl
theorem un_9 : (Try.prog.underlying 9).isSome = true := by kernel_rfl
theorem un_95 : (Try.prog.underlying 95).isSome = true := by kernel_rfl
theorem zo_105 : zeroOf Try.prog 105 = some [.map none, .int .i64 0, .int .i64 0, .int .i64 0] := by kernel_rfl
theorem zo_108 : zeroOf Try.prog 108 = some [.map none, .int .i64 0, .int .i64 0, .int .i64 0] := by kernel_rfl
theorem zo_110 : zeroOf Try.prog 110 = some [.int .i64 0, .string ⟨#[]⟩, .slice none 0 0, .int .i64 0, .int .i64 0] := by kernel_rfl
theorem zo_112 : zeroOf Try.prog 112 = some [.slice none 0 0] := by kernel_rfl
theorem zo_119 : zeroOf Try.prog 119 = some [.int .i64 0, .int .i64 0, .int .i64 0, .string ⟨#[]⟩, .int .i64 0, .int .i64 0] := by kernel_rfl
theorem zo_134 : zeroOf Try.prog 134 = some [.string ⟨#[]⟩, .int .i64 0, .int .i64 0, .int .i64 0] := by kernel_rfl
theorem zo_138 : zeroOf Try.prog 138 = some [.map none, .int .i64 0, .int .i64 0, .int .i64 0] := by kernel_rfl
theorem zo_140 : zeroOf Try.prog 140 = some [.slice none 0 0] := by kernel_rfl
theorem zo_3 : zeroOf Try.prog 3 = some [.int .i64 0] := by kernel_rfl
theorem zo_4 : zeroOf Try.prog 4 = some [.bool false] := by kernel_rfl
theorem zo_40 : zeroOf Try.prog 40 = some [.slice none 0 0] := by kernel_rfl
theorem zo_45 : zeroOf Try.prog 45 = some [.int .i64 0, .string ⟨#[]⟩] := by kernel_rfl
theorem zo_50 : zeroOf Try.prog 50 = some [.int .i64 0, .int .i64 0] := by kernel_rfl
theorem zo_66 : zeroOf Try.prog 66 = some [.pointer none] := by kernel_rfl
theorem zo_71 : zeroOf Try.prog 71 = some [.slice none 0 0] := by kernel_rfl
theorem zo_77 : zeroOf Try.prog 77 = some [.slice none 0 0, .int .i64 0, .int .i64 0] := by kernel_rfl
theorem zo_79 : zeroOf Try.prog 79 = some [.int .i64 0, .string ⟨#[]⟩, .int .i64 0, .int .i64 0, .int .i64 0] := by kernel_rfl
theorem zo_82 : zeroOf Try.prog 82 = some [.string ⟨#[]⟩, .int .i64 0, .int .i64 0] := by kernel_rfl
theorem zo_90 : zeroOf Try.prog 90 = some [.map none, .int .i64 0, .int .i64 0, .int .i64 0] := by kernel_rfl
theorem zo_93 : zeroOf Try.prog 93 = some [.int .i64 0, .int .i64 0, .int .i64 0, .int .i64 0] := by kernel_rfl
theorem zo_95 : zeroOf Try.prog 95 = some [.slice none 0 0] := by kernel_rfl
theorem zv_110 : zeroVal Try.prog 110 = some (.agg #[.int .i64 0, .string ⟨#[]⟩, .slice none 0 0, .int .i64 0, .int .i64 0]) := by kernel_rfl
theorem zv_119 : zeroVal Try.prog 119 = some (.agg #[.int .i64 0, .int .i64 0, .int .i64 0, .string ⟨#[]⟩, .int .i64 0, .int .i64 0]) := by kernel_rfl
theorem zv_134 : zeroVal Try.prog 134 = some (.agg #[.string ⟨#[]⟩, .int .i64 0, .int .i64 0, .int .i64 0]) := by kernel_rfl
theorem zv_93 : zeroVal Try.prog 93 = some (.agg #[.int .i64 0, .int .i64 0, .int .i64 0, .int .i64 0]) := by kernel_rfl
end Ph.T
