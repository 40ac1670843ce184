import Derived.Test.YtcbgjjbbeeoekaaDoorProg
import Derived.Test.YtcbgjjbbeeoekaaDoorPhList
namespace Ph.T
open Go Go.Proofs
theorem ag_23 : aggSize Tryd.prog 23 = some (some 4) := by kernel_rfl
theorem ag_3 : aggSize Tryd.prog 3 = some (none) := by kernel_rfl
theorem ag_36 : aggSize Tryd.prog 36 = some (some 2) := by kernel_rfl
theorem ag_37 : aggSize Tryd.prog 37 = some (none) := by kernel_rfl
theorem ag_38 : aggSize Tryd.prog 38 = some (none) := by kernel_rfl
theorem ag_4 : aggSize Tryd.prog 4 = some (none) := by kernel_rfl
theorem ag_40 : aggSize Tryd.prog 40 = some (some 12) := by kernel_rfl
theorem ag_5 : aggSize Tryd.prog 5 = some (none) := by kernel_rfl
theorem ag_54 : aggSize Tryd.prog 54 = some (none) := by kernel_rfl
theorem ag_9 : aggSize Tryd.prog 9 = some (none) := by kernel_rfl
theorem ag_93 : aggSize Tryd.prog 93 = some (some 256) := by kernel_rfl
theorem ap_52 : arrPart Tryd.prog 52 = some (4, 1, none) := by kernel_rfl
theorem eb_32 : elemBytes Tryd.prog 32 = some 1 := by kernel_rfl
theorem eb_37 : elemBytes Tryd.prog 37 = some 24 := by kernel_rfl
theorem eb_38 : elemBytes Tryd.prog 38 = some 48 := by kernel_rfl
theorem eb_59 : elemBytes Tryd.prog 59 = some 16 := by kernel_rfl
theorem eb_71 : elemBytes Tryd.prog 71 = some 24 := by kernel_rfl
theorem es_32 : elemSize Tryd.prog 32 = some 1 := by kernel_rfl
theorem es_37 : elemSize Tryd.prog 37 = some 2 := by kernel_rfl
theorem es_38 : elemSize Tryd.prog 38 = some 4 := by kernel_rfl
theorem es_52 : elemSize Tryd.prog 52 = none := by kernel_rfl
theorem es_59 : elemSize Tryd.prog 59 = some 1 := by kernel_rfl
theorem es_71 : elemSize Tryd.prog 71 = some 1 := by kernel_rfl
theorem es_9 : elemSize Tryd.prog 9 = none := by kernel_rfl
theorem ez_32 : elemZero Tryd.prog 32 = some (1, [.int .u8 0]) := by kernel_rfl
theorem ez_37 : elemZero Tryd.prog 37 = some (2, [.string ⟨#[]⟩, .int .i64 0]) := by kernel_rfl
theorem ez_38 : elemZero Tryd.prog 38 = some (4, [.string ⟨#[]⟩, .int .i64 0, .int .i64 0, .string ⟨#[]⟩]) := by kernel_rfl
theorem ez_59 : elemZero Tryd.prog 59 = some (1, [.string ⟨#[]⟩]) := by kernel_rfl
theorem ez_71 : elemZero Tryd.prog 71 = some (1, [.slice none 0 0]) := by kernel_rfl
theorem fo_23_0 : fieldOff Tryd.prog 23 0 = some 0 := by kernel_rfl
theorem fo_23_1 : fieldOff Tryd.prog 23 1 = some 1 := by kernel_rfl
theorem fo_23_2 : fieldOff Tryd.prog 23 2 = some 2 := by kernel_rfl
theorem fo_23_3 : fieldOff Tryd.prog 23 3 = some 3 := by kernel_rfl
theorem fo_36_0 : fieldOff Tryd.prog 36 0 = some 0 := by kernel_rfl
theorem fo_36_1 : fieldOff Tryd.prog 36 1 = some 1 := by kernel_rfl
theorem fo_40_0 : fieldOff Tryd.prog 40 0 = some 0 := by kernel_rfl
theorem fo_40_1 : fieldOff Tryd.prog 40 1 = some 1 := by kernel_rfl
theorem fo_40_10 : fieldOff Tryd.prog 40 10 = some 10 := by kernel_rfl
theorem fo_40_11 : fieldOff Tryd.prog 40 11 = some 11 := by kernel_rfl
theorem fo_40_2 : fieldOff Tryd.prog 40 2 = some 2 := by kernel_rfl
theorem fo_40_3 : fieldOff Tryd.prog 40 3 = some 3 := by kernel_rfl
theorem fo_40_4 : fieldOff Tryd.prog 40 4 = some 4 := by kernel_rfl
theorem fo_40_5 : fieldOff Tryd.prog 40 5 = some 5 := by kernel_rfl
theorem fo_40_6 : fieldOff Tryd.prog 40 6 = some 6 := by kernel_rfl
theorem fo_40_7 : fieldOff Tryd.prog 40 7 = some 7 := by kernel_rfl
theorem fo_40_8 : fieldOff Tryd.prog 40 8 = some 8 := by kernel_rfl
theorem fo_40_9 : fieldOff Tryd.prog 40 9 = some 9 := by kernel_rfl
theorem fo_56_0 : fieldOff Tryd.prog 56 0 = some 0 := by kernel_rfl
theorem gf_10 : goodFunc Tryd.prog 10 = true := by kernel_rfl
theorem gf_11 : goodFunc Tryd.prog 11 = true := by kernel_rfl
theorem gf_12 : goodFunc Tryd.prog 12 = true := by kernel_rfl
theorem gf_13 : goodFunc Tryd.prog 13 = true := by kernel_rfl
theorem gf_14 : goodFunc Tryd.prog 14 = true := by kernel_rfl
theorem gf_15 : goodFunc Tryd.prog 15 = true := by kernel_rfl
theorem gf_16 : goodFunc Tryd.prog 16 = true := by kernel_rfl
theorem gf_17 : goodFunc Tryd.prog 17 = true := by kernel_rfl
theorem gf_18 : goodFunc Tryd.prog 18 = true := by kernel_rfl
theorem gf_19 : goodFunc Tryd.prog 19 = true := by kernel_rfl
theorem gf_20 : goodFunc Tryd.prog 20 = true := by kernel_rfl
theorem gf_21 : goodFunc Tryd.prog 21 = true := by kernel_rfl
theorem gf_22 : goodFunc Tryd.prog 22 = true := by kernel_rfl
theorem gf_23 : goodFunc Tryd.prog 23 = true := by kernel_rfl
theorem gf_24 : goodFunc Tryd.prog 24 = true := by kernel_rfl
theorem gf_25 : goodFunc Tryd.prog 25 = true := by kernel_rfl
theorem gf_26 : goodFunc Tryd.prog 26 = true := by kernel_rfl
theorem gf_27 : goodFunc Tryd.prog 27 = true := by kernel_rfl
theorem gf_28 : goodFunc Tryd.prog 28 = true := by kernel_rfl
theorem gf_29 : goodFunc Tryd.prog 29 = true := by kernel_rfl
theorem gf_30 : goodFunc Tryd.prog 30 = true := by kernel_rfl
theorem gf_31 : goodFunc Tryd.prog 31 = true := by kernel_rfl
theorem gf_32 : goodFunc Tryd.prog 32 = true := by kernel_rfl
theorem gf_33 : goodFunc Tryd.prog 33 = true := by kernel_rfl
theorem gf_34 : goodFunc Tryd.prog 34 = true := by kernel_rfl
theorem gf_35 : goodFunc Tryd.prog 35 = true := by kernel_rfl
theorem gf_36 : goodFunc Tryd.prog 36 = true := by kernel_rfl
theorem gf_37 : goodFunc Tryd.prog 37 = true := by kernel_rfl
theorem gf_38 : goodFunc Tryd.prog 38 = true := by kernel_rfl
theorem gf_39 : goodFunc Tryd.prog 39 = true := by kernel_rfl
theorem gf_4 : goodFunc Tryd.prog 4 = true := by kernel_rfl
theorem gf_40 : goodFunc Tryd.prog 40 = true := by kernel_rfl
theorem gf_41 : goodFunc Tryd.prog 41 = true := by kernel_rfl
theorem gf_42 : goodFunc Tryd.prog 42 = true := by kernel_rfl
theorem gf_43 : goodFunc Tryd.prog 43 = true := by kernel_rfl
theorem gf_44 : goodFunc Tryd.prog 44 = true := by kernel_rfl
theorem gf_45 : goodFunc Tryd.prog 45 = true := by kernel_rfl
theorem gf_46 : goodFunc Tryd.prog 46 = true := by kernel_rfl
theorem gf_47 : goodFunc Tryd.prog 47 = true := by kernel_rfl
theorem gf_48 : goodFunc Tryd.prog 48 = true := by kernel_rfl
theorem gf_49 : goodFunc Tryd.prog 49 = true := by kernel_rfl
theorem gf_5 : goodFunc Tryd.prog 5 = true := by kernel_rfl
theorem gf_50 : goodFunc Tryd.prog 50 = true := by kernel_rfl
theorem gf_51 : goodFunc Tryd.prog 51 = true := by kernel_rfl
theorem gf_52 : goodFunc Tryd.prog 52 = true := by kernel_rfl
theorem gf_53 : goodFunc Tryd.prog 53 = true := by kernel_rfl
theorem gf_54 : goodFunc Tryd.prog 54 = true := by kernel_rfl
theorem gf_55 : goodFunc Tryd.prog 55 = true := by kernel_rfl
theorem gf_6 : goodFunc Tryd.prog 6 = true := by kernel_rfl
theorem gf_7 : goodFunc Tryd.prog 7 = true := by kernel_rfl
theorem gf_8 : goodFunc Tryd.prog 8 = true := by kernel_rfl
theorem gf_9 : goodFunc Tryd.prog 9 = true := by kernel_rfl
theorem ib_25 : isBool Tryd.prog 25 = false := by kernel_rfl
theorem ib_3 : isBool Tryd.prog 3 = false := by kernel_rfl
theorem ib_4 : isBool Tryd.prog 4 = true := by kernel_rfl
theorem ib_5 : isBool Tryd.prog 5 = false := by kernel_rfl
theorem ib_53 : isBool Tryd.prog 53 = false := by kernel_rfl
theorem ib_54 : isBool Tryd.prog 54 = false := by kernel_rfl
theorem ib_9 : isBool Tryd.prog 9 = false := by kernel_rfl
theorem ii_3 : isInt Tryd.prog 3 = some .i64 := by kernel_rfl
theorem ii_32 : isInt Tryd.prog 32 = none := by kernel_rfl
theorem ii_37 : isInt Tryd.prog 37 = none := by kernel_rfl
theorem ii_38 : isInt Tryd.prog 38 = none := by kernel_rfl
theorem ii_5 : isInt Tryd.prog 5 = some .u8 := by kernel_rfl
theorem ii_52 : isInt Tryd.prog 52 = none := by kernel_rfl
theorem ii_59 : isInt Tryd.prog 59 = none := by kernel_rfl
theorem ii_71 : isInt Tryd.prog 71 = none := by kernel_rfl
theorem ii_9 : isInt Tryd.prog 9 = none := by kernel_rfl
theorem ip_25 : isPtr Tryd.prog 25 = false := by kernel_rfl
theorem ip_3 : isPtr Tryd.prog 3 = false := by kernel_rfl
theorem ip_4 : isPtr Tryd.prog 4 = false := by kernel_rfl
theorem ip_5 : isPtr Tryd.prog 5 = false := by kernel_rfl
theorem ip_53 : isPtr Tryd.prog 53 = true := by kernel_rfl
theorem ip_54 : isPtr Tryd.prog 54 = false := by kernel_rfl
theorem ip_9 : isPtr Tryd.prog 9 = false := by kernel_rfl
theorem mt_54 : mapTy Tryd.prog 54 = some (9, 3) := by kernel_rfl
theorem pl_36 : places Tryd.prog 36 = some [(0, 1), (1, 1)] := by kernel_rfl
theorem pl_40 : places Tryd.prog 40 = some [(0, 1), (1, 1), (2, 1), (3, 1), (4, 1), (5, 1), (6, 1), (7, 1), (8, 1), (9, 1), (10, 1), (11, 1)] := by kernel_rfl
theorem pl_52 : places Tryd.prog 52 = some [(0, 1), (1, 1), (2, 1), (3, 1)] := by kernel_rfl
theorem pl_56 : places Tryd.prog 56 = some [(0, 1)] := by kernel_rfl
theorem s8_3 : sliceOfU8 Tryd.prog 3 = false := by kernel_rfl
theorem s8_32 : sliceOfU8 Tryd.prog 32 = true := by kernel_rfl
theorem s8_37 : sliceOfU8 Tryd.prog 37 = false := by kernel_rfl
theorem s8_38 : sliceOfU8 Tryd.prog 38 = false := by kernel_rfl
theorem s8_5 : sliceOfU8 Tryd.prog 5 = false := by kernel_rfl
theorem s8_52 : sliceOfU8 Tryd.prog 52 = false := by kernel_rfl
theorem s8_59 : sliceOfU8 Tryd.prog 59 = false := by kernel_rfl
theorem s8_71 : sliceOfU8 Tryd.prog 71 = false := by kernel_rfl
theorem s8_9 : sliceOfU8 Tryd.prog 9 = false := by kernel_rfl
theorem sl_3 : isSl Tryd.prog 3 = false := by kernel_rfl
theorem sl_32 : isSl Tryd.prog 32 = true := by kernel_rfl
theorem sl_37 : isSl Tryd.prog 37 = true := by kernel_rfl
theorem sl_38 : isSl Tryd.prog 38 = true := by kernel_rfl
theorem sl_5 : isSl Tryd.prog 5 = false := by kernel_rfl
theorem sl_52 : isSl Tryd.prog 52 = false := by kernel_rfl
theorem sl_59 : isSl Tryd.prog 59 = true := by kernel_rfl
theorem sl_71 : isSl Tryd.prog 71 = true := by kernel_rfl
theorem sl_9 : isSl Tryd.prog 9 = false := by kernel_rfl
theorem st_3 : isStr Tryd.prog 3 = false := by kernel_rfl
theorem st_32 : isStr Tryd.prog 32 = false := by kernel_rfl
theorem st_37 : isStr Tryd.prog 37 = false := by kernel_rfl
theorem st_38 : isStr Tryd.prog 38 = false := by kernel_rfl
theorem st_5 : isStr Tryd.prog 5 = false := by kernel_rfl
theorem st_52 : isStr Tryd.prog 52 = false := by kernel_rfl
theorem st_59 : isStr Tryd.prog 59 = false := by kernel_rfl
theorem st_71 : isStr Tryd.prog 71 = false := by kernel_rfl
theorem st_9 : isStr Tryd.prog 9 = true := by kernel_rfl
theorem un_3 : (Tryd.prog.underlying 3).isSome = true := by kernel_rfl
theorem un_32 : (Tryd.prog.underlying 32).isSome = true := by kernel_rfl
theorem un_37 : (Tryd.prog.underlying 37).isSome = true := by kernel_rfl
theorem un_38 : (Tryd.prog.underlying 38).isSome = true := by kernel_rfl
theorem un_5 : (Tryd.prog.underlying 5).isSome = true := by kernel_rfl
theorem un_52 : (Tryd.prog.underlying 52).isSome = true := by kernel_rfl
theorem un_59 : (Tryd.prog.underlying 59).isSome = true := by kernel_rfl
theorem un_71 : (Tryd.prog.underlying 71).isSome = true := by kernel_rfl
theorem un_9 : (Tryd.prog.underlying 9).isSome = true := by kernel_rfl
theorem zo_23 : zeroOf Tryd.prog 23 = some [.string ⟨#[]⟩, .int .i64 0, .int .i64 0, .string ⟨#[]⟩] := by kernel_rfl
theorem zo_36 : zeroOf Tryd.prog 36 = some [.string ⟨#[]⟩, .int .i64 0] := by kernel_rfl
theorem zo_40 : zeroOf Tryd.prog 40 = some [.int .i64 0, .bool false, .int .i64 0, .bool false, .bool false, .bool false, .bool false, .int .i64 0, .slice none 0 0, .slice none 0 0, .slice none 0 0, .slice none 0 0] := by kernel_rfl
theorem zo_52 : zeroOf Tryd.prog 52 = some [.int .i64 0, .int .i64 0, .int .i64 0, .int .i64 0] := by kernel_rfl
theorem zo_56 : zeroOf Tryd.prog 56 = some [.map none] := by kernel_rfl
theorem zo_83 : zeroOf Tryd.prog 83 = some [.pointer none, .slice none 0 0] := by kernel_rfl
theorem zo_93 : zeroOf Tryd.prog 93 = some [.bool false, .bool false, .bool false, .bool false, .bool false, .bool false, .bool false, .bool false, .bool false, .bool false, .bool false, .bool false, .bool false, .bool false, .bool false, .bool false, .bool false, .bool false, .bool false, .bool false, .bool false, .bool false, .bool false, .bool false, .bool false, .bool false, .bool false, .bool false, .bool false, .bool false, .bool false, .bool false, .bool false, .bool false, .bool false, .bool false, .bool false, .bool false, .bool false, .bool false, .bool false, .bool false, .bool false, .bool false, .bool false, .bool false, .bool false, .bool false, .bool false, .bool false, .bool false, .bool false, .bool false, .bool false, .bool false, .bool false, .bool false, .bool false, .bool false, .bool false, .bool false, .bool false, .bool false, .bool false, .bool false, .bool false, .bool false, .bool false, .bool false, .bool false, .bool false, .bool false, .bool false, .bool false, .bool false, .bool false, .bool false, .bool false, .bool false, .bool false, .bool false, .bool false, .bool false, .bool false, .bool false, .bool false, .bool false, .bool false, .bool false, .bool false, .bool false, .bool false, .bool false, .bool false, .bool false, .bool false, .bool false, .bool false, .bool false, .bool false, .bool false, .bool false, .bool false, .bool false, .bool false, .bool false, .bool false, .bool false, .bool false, .bool false, .bool false, .bool false, .bool false, .bool false, .bool false, .bool false, .bool false, .bool false, .bool false, .bool false, .bool false, .bool false, .bool false, .bool false, .bool false, .bool false, .bool false, .bool false, .bool false, .bool false, .bool false, .bool false, .bool false, .bool false, .bool false, .bool false, .bool false, .bool false, .bool false, .bool false, .bool false, .bool false, .bool false, .bool false, .bool false, .bool false, .bool false, .bool false, .bool false, .bool false, .bool false, .bool false, .bool false, .bool false, .bool false, .bool false, .bool false, .bool false, .bool false, .bool false, .bool false, .bool false, .bool false, .bool false, .bool false, .bool false, .bool false, .bool false, .bool false, .bool false, .bool false, .bool false, .bool false, .bool false, .bool false, .bool false, .bool false, .bool false, .bool false, .bool false, .bool false, .bool false, .bool false, .bool false, .bool false, .bool false, .bool false, .bool false, .bool false, .bool false, .bool false, .bool false, .bool false, .bool false, .bool false, .bool false, .bool false, .bool false, .bool false, .bool false, .bool false, .bool false, .bool false, .bool false, .bool false, .bool false, .bool false, .bool false, .bool false, .bool false, .bool false, .bool false, .bool false, .bool false, .bool false, .bool false, .bool false, .bool false, .bool false, .bool false, .bool false, .bool false, .bool false, .bool false, .bool false, .bool false, .bool false, .bool false, .bool false, .bool false, .bool false, .bool false, .bool false, .bool false, .bool false, .bool false, .bool false, .bool false, .bool false, .bool false, .bool false, .bool false, .bool false, .bool false, .bool false, .bool false, .bool false, .bool false, .bool false, .bool false, .bool false, .bool false, .bool false, .bool false, .bool false, .bool false] := by kernel_rfl
theorem zv_3 : zeroVal Tryd.prog 3 = some (.int .i64 0) := by kernel_rfl
end Ph.T
