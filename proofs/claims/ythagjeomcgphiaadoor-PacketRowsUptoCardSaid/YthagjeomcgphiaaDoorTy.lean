import Derived.Test.YthagjeomcgphiaaDoorProg
import Derived.Test.YthagjeomcgphiaaDoorPhStr
namespace Ph.T
open Go Go.Proofs
theorem ag_22 : aggSize Tryd.prog 22 = some (none) := by kernel_rfl
theorem ag_24 : aggSize Tryd.prog 24 = some (some 10) := by kernel_rfl
theorem ag_25 : aggSize Tryd.prog 25 = some (none) := by kernel_rfl
theorem ag_28 : aggSize Tryd.prog 28 = some (none) := by kernel_rfl
theorem ag_3 : aggSize Tryd.prog 3 = some (none) := by kernel_rfl
theorem ag_31 : aggSize Tryd.prog 31 = some (some 10) := by kernel_rfl
theorem ag_4 : aggSize Tryd.prog 4 = some (none) := by kernel_rfl
theorem ag_5 : aggSize Tryd.prog 5 = some (none) := by kernel_rfl
theorem ag_51 : aggSize Tryd.prog 51 = some (none) := by kernel_rfl
theorem ag_53 : aggSize Tryd.prog 53 = some (some 2) := by kernel_rfl
theorem ag_56 : aggSize Tryd.prog 56 = some (some 9) := by kernel_rfl
theorem ag_62 : aggSize Tryd.prog 62 = some (some 9) := by kernel_rfl
theorem ag_9 : aggSize Tryd.prog 9 = some (none) := by kernel_rfl
theorem ap_102 : arrPart Tryd.prog 102 = some (2, 1, none) := by kernel_rfl
theorem eb_22 : elemBytes Tryd.prog 22 = some 8 := by kernel_rfl
theorem eb_28 : elemBytes Tryd.prog 28 = some 1 := by kernel_rfl
theorem eb_48 : elemBytes Tryd.prog 48 = some 120 := by kernel_rfl
theorem eb_51 : elemBytes Tryd.prog 51 = some 16 := by kernel_rfl
theorem eb_69 : elemBytes Tryd.prog 69 = some 104 := by kernel_rfl
theorem es_102 : elemSize Tryd.prog 102 = none := by kernel_rfl
theorem es_22 : elemSize Tryd.prog 22 = some 1 := by kernel_rfl
theorem es_28 : elemSize Tryd.prog 28 = some 1 := by kernel_rfl
theorem es_48 : elemSize Tryd.prog 48 = some 10 := by kernel_rfl
theorem es_50 : elemSize Tryd.prog 50 = some 1 := by kernel_rfl
theorem es_51 : elemSize Tryd.prog 51 = some 2 := by kernel_rfl
theorem es_69 : elemSize Tryd.prog 69 = some 9 := by kernel_rfl
theorem es_70 : elemSize Tryd.prog 70 = some 9 := by kernel_rfl
theorem es_9 : elemSize Tryd.prog 9 = none := by kernel_rfl
theorem ez_22 : elemZero Tryd.prog 22 = some (1, [.int .i64 0]) := by kernel_rfl
theorem ez_28 : elemZero Tryd.prog 28 = some (1, [.int .u8 0]) := by kernel_rfl
theorem ez_48 : elemZero Tryd.prog 48 = some (10, [.int .i64 0, .int .i64 0, .string ⟨#[]⟩, .string ⟨#[]⟩, .string ⟨#[]⟩, .int .i64 0, .int .i64 0, .int .i64 0, .bool false, .slice none 0 0]) := by kernel_rfl
theorem ez_51 : elemZero Tryd.prog 51 = some (2, [.int .i64 0, .int .i64 0]) := by kernel_rfl
theorem ez_69 : elemZero Tryd.prog 69 = some (9, [.int .i64 0, .int .i64 0, .int .i64 0, .int .i64 0, .int .i64 0, .bool false, .string ⟨#[]⟩, .string ⟨#[]⟩, .slice none 0 0]) := by kernel_rfl
theorem fo_108_0 : fieldOff Tryd.prog 108 0 = some 0 := by kernel_rfl
theorem fo_108_1 : fieldOff Tryd.prog 108 1 = some 1 := by kernel_rfl
theorem fo_24_0 : fieldOff Tryd.prog 24 0 = some 0 := by kernel_rfl
theorem fo_24_1 : fieldOff Tryd.prog 24 1 = some 1 := by kernel_rfl
theorem fo_24_2 : fieldOff Tryd.prog 24 2 = some 2 := by kernel_rfl
theorem fo_24_3 : fieldOff Tryd.prog 24 3 = some 3 := by kernel_rfl
theorem fo_24_4 : fieldOff Tryd.prog 24 4 = some 4 := by kernel_rfl
theorem fo_24_5 : fieldOff Tryd.prog 24 5 = some 5 := by kernel_rfl
theorem fo_24_6 : fieldOff Tryd.prog 24 6 = some 6 := by kernel_rfl
theorem fo_24_7 : fieldOff Tryd.prog 24 7 = some 7 := by kernel_rfl
theorem fo_24_8 : fieldOff Tryd.prog 24 8 = some 8 := by kernel_rfl
theorem fo_24_9 : fieldOff Tryd.prog 24 9 = some 9 := by kernel_rfl
theorem fo_31_0 : fieldOff Tryd.prog 31 0 = some 0 := by kernel_rfl
theorem fo_31_1 : fieldOff Tryd.prog 31 1 = some 1 := by kernel_rfl
theorem fo_31_2 : fieldOff Tryd.prog 31 2 = some 2 := by kernel_rfl
theorem fo_31_3 : fieldOff Tryd.prog 31 3 = some 3 := by kernel_rfl
theorem fo_31_4 : fieldOff Tryd.prog 31 4 = some 4 := by kernel_rfl
theorem fo_31_5 : fieldOff Tryd.prog 31 5 = some 5 := by kernel_rfl
theorem fo_31_6 : fieldOff Tryd.prog 31 6 = some 6 := by kernel_rfl
theorem fo_31_7 : fieldOff Tryd.prog 31 7 = some 7 := by kernel_rfl
theorem fo_31_8 : fieldOff Tryd.prog 31 8 = some 8 := by kernel_rfl
theorem fo_31_9 : fieldOff Tryd.prog 31 9 = some 9 := by kernel_rfl
theorem fo_53_0 : fieldOff Tryd.prog 53 0 = some 0 := by kernel_rfl
theorem fo_56_0 : fieldOff Tryd.prog 56 0 = some 0 := by kernel_rfl
theorem fo_56_8 : fieldOff Tryd.prog 56 8 = some 8 := by kernel_rfl
theorem fo_62_0 : fieldOff Tryd.prog 62 0 = some 0 := by kernel_rfl
theorem fo_62_1 : fieldOff Tryd.prog 62 1 = some 1 := by kernel_rfl
theorem fo_62_2 : fieldOff Tryd.prog 62 2 = some 2 := by kernel_rfl
theorem fo_62_5 : fieldOff Tryd.prog 62 5 = some 5 := by kernel_rfl
theorem fo_62_6 : fieldOff Tryd.prog 62 6 = some 6 := by kernel_rfl
theorem gf_13 : goodFunc Tryd.prog 13 = true := by kernel_rfl
theorem gf_14 : goodFunc Tryd.prog 14 = true := by kernel_rfl
theorem gf_15 : goodFunc Tryd.prog 15 = true := by kernel_rfl
theorem gf_17 : goodFunc Tryd.prog 17 = true := by kernel_rfl
theorem gf_18 : goodFunc Tryd.prog 18 = true := by kernel_rfl
theorem gf_19 : goodFunc Tryd.prog 19 = true := by kernel_rfl
theorem gf_20 : goodFunc Tryd.prog 20 = true := by kernel_rfl
theorem gf_21 : goodFunc Tryd.prog 21 = true := by kernel_rfl
theorem gf_22 : goodFunc Tryd.prog 22 = true := by kernel_rfl
theorem gf_23 : goodFunc Tryd.prog 23 = true := by kernel_rfl
theorem gf_24 : goodFunc Tryd.prog 24 = true := by kernel_rfl
theorem gf_25 : goodFunc Tryd.prog 25 = true := by kernel_rfl
theorem gf_26 : goodFunc Tryd.prog 26 = true := by kernel_rfl
theorem gf_27 : goodFunc Tryd.prog 27 = true := by kernel_rfl
theorem gf_28 : goodFunc Tryd.prog 28 = true := by kernel_rfl
theorem gf_29 : goodFunc Tryd.prog 29 = true := by kernel_rfl
theorem gf_30 : goodFunc Tryd.prog 30 = true := by kernel_rfl
theorem gf_36 : goodFunc Tryd.prog 36 = true := by kernel_rfl
theorem gf_37 : goodFunc Tryd.prog 37 = true := by kernel_rfl
theorem gf_38 : goodFunc Tryd.prog 38 = true := by kernel_rfl
theorem gf_39 : goodFunc Tryd.prog 39 = true := by kernel_rfl
theorem gf_40 : goodFunc Tryd.prog 40 = true := by kernel_rfl
theorem gf_41 : goodFunc Tryd.prog 41 = true := by kernel_rfl
theorem gf_42 : goodFunc Tryd.prog 42 = true := by kernel_rfl
theorem gf_43 : goodFunc Tryd.prog 43 = true := by kernel_rfl
theorem gf_44 : goodFunc Tryd.prog 44 = true := by kernel_rfl
theorem gf_45 : goodFunc Tryd.prog 45 = true := by kernel_rfl
theorem gf_46 : goodFunc Tryd.prog 46 = true := by kernel_rfl
theorem gf_54 : goodFunc Tryd.prog 54 = true := by kernel_rfl
theorem gf_55 : goodFunc Tryd.prog 55 = true := by kernel_rfl
theorem gf_56 : goodFunc Tryd.prog 56 = true := by kernel_rfl
theorem gf_57 : goodFunc Tryd.prog 57 = true := by kernel_rfl
theorem gf_58 : goodFunc Tryd.prog 58 = true := by kernel_rfl
theorem gf_59 : goodFunc Tryd.prog 59 = true := by kernel_rfl
theorem gf_60 : goodFunc Tryd.prog 60 = true := by kernel_rfl
theorem gf_61 : goodFunc Tryd.prog 61 = true := by kernel_rfl
theorem gf_62 : goodFunc Tryd.prog 62 = true := by kernel_rfl
theorem gf_63 : goodFunc Tryd.prog 63 = true := by kernel_rfl
theorem gf_64 : goodFunc Tryd.prog 64 = true := by kernel_rfl
theorem gf_75 : goodFunc Tryd.prog 75 = true := by kernel_rfl
theorem gf_76 : goodFunc Tryd.prog 76 = true := by kernel_rfl
theorem gf_77 : goodFunc Tryd.prog 77 = true := by kernel_rfl
theorem gf_78 : goodFunc Tryd.prog 78 = true := by kernel_rfl
theorem ib_25 : isBool Tryd.prog 25 = false := by kernel_rfl
theorem ib_3 : isBool Tryd.prog 3 = false := by kernel_rfl
theorem ib_35 : isBool Tryd.prog 35 = false := by kernel_rfl
theorem ib_4 : isBool Tryd.prog 4 = true := by kernel_rfl
theorem ib_5 : isBool Tryd.prog 5 = false := by kernel_rfl
theorem ib_53 : isBool Tryd.prog 53 = false := by kernel_rfl
theorem ib_9 : isBool Tryd.prog 9 = false := by kernel_rfl
theorem ii_102 : isInt Tryd.prog 102 = none := by kernel_rfl
theorem ii_124 : isInt Tryd.prog 124 = some .u32 := by kernel_rfl
theorem ii_22 : isInt Tryd.prog 22 = none := by kernel_rfl
theorem ii_28 : isInt Tryd.prog 28 = none := by kernel_rfl
theorem ii_3 : isInt Tryd.prog 3 = some .i64 := by kernel_rfl
theorem ii_35 : isInt Tryd.prog 35 = some .u64 := by kernel_rfl
theorem ii_48 : isInt Tryd.prog 48 = none := by kernel_rfl
theorem ii_5 : isInt Tryd.prog 5 = some .u8 := by kernel_rfl
theorem ii_50 : isInt Tryd.prog 50 = none := by kernel_rfl
theorem ii_51 : isInt Tryd.prog 51 = none := by kernel_rfl
theorem ii_69 : isInt Tryd.prog 69 = none := by kernel_rfl
theorem ii_70 : isInt Tryd.prog 70 = none := by kernel_rfl
theorem ii_80 : isInt Tryd.prog 80 = some .u64 := by kernel_rfl
theorem ii_9 : isInt Tryd.prog 9 = none := by kernel_rfl
theorem ip_25 : isPtr Tryd.prog 25 = false := by kernel_rfl
theorem ip_3 : isPtr Tryd.prog 3 = false := by kernel_rfl
theorem ip_35 : isPtr Tryd.prog 35 = false := by kernel_rfl
theorem ip_4 : isPtr Tryd.prog 4 = false := by kernel_rfl
theorem ip_5 : isPtr Tryd.prog 5 = false := by kernel_rfl
theorem ip_53 : isPtr Tryd.prog 53 = false := by kernel_rfl
theorem ip_9 : isPtr Tryd.prog 9 = false := by kernel_rfl
theorem pl_102 : places Tryd.prog 102 = some [(0, 1), (1, 1)] := by kernel_rfl
theorem pl_108 : places Tryd.prog 108 = some [(0, 1), (1, 1)] := by kernel_rfl
theorem pl_24 : places Tryd.prog 24 = some [(0, 1), (1, 1), (2, 1), (3, 1), (4, 1), (5, 1), (6, 1), (7, 1), (8, 1), (9, 1)] := by kernel_rfl
theorem pl_31 : places Tryd.prog 31 = some [(0, 1), (1, 1), (2, 1), (3, 1), (4, 1), (5, 1), (6, 1), (7, 1), (8, 1), (9, 1)] := by kernel_rfl
theorem pl_53 : places Tryd.prog 53 = some [(0, 1), (1, 1)] := by kernel_rfl
theorem pl_56 : places Tryd.prog 56 = some [(0, 1), (1, 1), (2, 1), (3, 1), (4, 1), (5, 1), (6, 1), (7, 1), (8, 1)] := by kernel_rfl
theorem pl_62 : places Tryd.prog 62 = some [(0, 1), (1, 1), (2, 1), (3, 1), (4, 1), (5, 1), (6, 1), (7, 1), (8, 1)] := by kernel_rfl
theorem s8_102 : sliceOfU8 Tryd.prog 102 = false := by kernel_rfl
theorem s8_124 : sliceOfU8 Tryd.prog 124 = false := by kernel_rfl
theorem s8_22 : sliceOfU8 Tryd.prog 22 = false := by kernel_rfl
theorem s8_28 : sliceOfU8 Tryd.prog 28 = true := by kernel_rfl
theorem s8_3 : sliceOfU8 Tryd.prog 3 = false := by kernel_rfl
theorem s8_35 : sliceOfU8 Tryd.prog 35 = false := by kernel_rfl
theorem s8_48 : sliceOfU8 Tryd.prog 48 = false := by kernel_rfl
theorem s8_5 : sliceOfU8 Tryd.prog 5 = false := by kernel_rfl
theorem s8_50 : sliceOfU8 Tryd.prog 50 = false := by kernel_rfl
theorem s8_51 : sliceOfU8 Tryd.prog 51 = false := by kernel_rfl
theorem s8_69 : sliceOfU8 Tryd.prog 69 = false := by kernel_rfl
theorem s8_70 : sliceOfU8 Tryd.prog 70 = false := by kernel_rfl
theorem s8_80 : sliceOfU8 Tryd.prog 80 = false := by kernel_rfl
theorem s8_9 : sliceOfU8 Tryd.prog 9 = false := by kernel_rfl
theorem sl_102 : isSl Tryd.prog 102 = false := by kernel_rfl
theorem sl_124 : isSl Tryd.prog 124 = false := by kernel_rfl
theorem sl_22 : isSl Tryd.prog 22 = true := by kernel_rfl
theorem sl_28 : isSl Tryd.prog 28 = true := by kernel_rfl
theorem sl_3 : isSl Tryd.prog 3 = false := by kernel_rfl
theorem sl_35 : isSl Tryd.prog 35 = false := by kernel_rfl
theorem sl_48 : isSl Tryd.prog 48 = true := by kernel_rfl
theorem sl_5 : isSl Tryd.prog 5 = false := by kernel_rfl
theorem sl_50 : isSl Tryd.prog 50 = true := by kernel_rfl
theorem sl_51 : isSl Tryd.prog 51 = true := by kernel_rfl
theorem sl_69 : isSl Tryd.prog 69 = true := by kernel_rfl
theorem sl_70 : isSl Tryd.prog 70 = true := by kernel_rfl
theorem sl_80 : isSl Tryd.prog 80 = false := by kernel_rfl
theorem sl_9 : isSl Tryd.prog 9 = false := by kernel_rfl
theorem st_102 : isStr Tryd.prog 102 = false := by kernel_rfl
theorem st_124 : isStr Tryd.prog 124 = false := by kernel_rfl
theorem st_22 : isStr Tryd.prog 22 = false := by kernel_rfl
theorem st_28 : isStr Tryd.prog 28 = false := by kernel_rfl
theorem st_3 : isStr Tryd.prog 3 = false := by kernel_rfl
theorem st_35 : isStr Tryd.prog 35 = false := by kernel_rfl
theorem st_48 : isStr Tryd.prog 48 = false := by kernel_rfl
theorem st_5 : isStr Tryd.prog 5 = false := by kernel_rfl
theorem st_50 : isStr Tryd.prog 50 = false := by kernel_rfl
theorem st_51 : isStr Tryd.prog 51 = false := by kernel_rfl
theorem st_69 : isStr Tryd.prog 69 = false := by kernel_rfl
theorem st_70 : isStr Tryd.prog 70 = false := by kernel_rfl
theorem st_80 : isStr Tryd.prog 80 = false := by kernel_rfl
theorem st_9 : isStr Tryd.prog 9 = true := by kernel_rfl
theorem un_102 : (Tryd.prog.underlying 102).isSome = true := by kernel_rfl
theorem un_124 : (Tryd.prog.underlying 124).isSome = true := by kernel_rfl
theorem un_22 : (Tryd.prog.underlying 22).isSome = true := by kernel_rfl
theorem un_28 : (Tryd.prog.underlying 28).isSome = true := by kernel_rfl
theorem un_3 : (Tryd.prog.underlying 3).isSome = true := by kernel_rfl
theorem un_35 : (Tryd.prog.underlying 35).isSome = true := by kernel_rfl
theorem un_48 : (Tryd.prog.underlying 48).isSome = true := by kernel_rfl
theorem un_5 : (Tryd.prog.underlying 5).isSome = true := by kernel_rfl
theorem un_50 : (Tryd.prog.underlying 50).isSome = true := by kernel_rfl
theorem un_51 : (Tryd.prog.underlying 51).isSome = true := by kernel_rfl
theorem un_69 : (Tryd.prog.underlying 69).isSome = true := by kernel_rfl
theorem un_70 : (Tryd.prog.underlying 70).isSome = true := by kernel_rfl
theorem un_80 : (Tryd.prog.underlying 80).isSome = true := by kernel_rfl
theorem un_9 : (Tryd.prog.underlying 9).isSome = true := by kernel_rfl
theorem zo_102 : zeroOf Tryd.prog 102 = some [.string ⟨#[]⟩, .string ⟨#[]⟩] := by kernel_rfl
theorem zo_108 : zeroOf Tryd.prog 108 = some [.slice none 0 0, .int .i64 0] := by kernel_rfl
theorem zo_24 : zeroOf Tryd.prog 24 = some [.int .i64 0, .int .i64 0, .string ⟨#[]⟩, .string ⟨#[]⟩, .string ⟨#[]⟩, .int .i64 0, .int .i64 0, .int .i64 0, .bool false, .slice none 0 0] := by kernel_rfl
theorem zo_31 : zeroOf Tryd.prog 31 = some [.int .i64 0, .int .i64 0, .string ⟨#[]⟩, .string ⟨#[]⟩, .string ⟨#[]⟩, .int .i64 0, .int .i64 0, .int .i64 0, .bool false, .slice none 0 0] := by kernel_rfl
theorem zo_53 : zeroOf Tryd.prog 53 = some [.int .i64 0, .int .i64 0] := by kernel_rfl
theorem zo_56 : zeroOf Tryd.prog 56 = some [.int .i64 0, .int .i64 0, .int .i64 0, .int .i64 0, .int .i64 0, .bool false, .string ⟨#[]⟩, .string ⟨#[]⟩, .slice none 0 0] := by kernel_rfl
theorem zo_62 : zeroOf Tryd.prog 62 = some [.int .i64 0, .int .i64 0, .int .i64 0, .int .i64 0, .int .i64 0, .bool false, .string ⟨#[]⟩, .string ⟨#[]⟩, .slice none 0 0] := by kernel_rfl
end Ph.T
