import Derived.Test.YtbmmgibeidjgfaaDoorProg
import Derived.Test.YtbmmgibeidjgfaaDoorPhList
namespace Ph.T
open Go Go.Proofs
theorem ag_22 : aggSize Tryd.prog 22 = some (none) := by kernel_rfl
theorem ag_23 : aggSize Tryd.prog 23 = some (none) := by kernel_rfl
theorem ag_24 : aggSize Tryd.prog 24 = some (none) := by kernel_rfl
theorem ag_27 : aggSize Tryd.prog 27 = some (none) := by kernel_rfl
theorem ag_3 : aggSize Tryd.prog 3 = some (none) := by kernel_rfl
theorem ag_31 : aggSize Tryd.prog 31 = some (none) := by kernel_rfl
theorem ag_4 : aggSize Tryd.prog 4 = some (none) := by kernel_rfl
theorem ag_5 : aggSize Tryd.prog 5 = some (none) := by kernel_rfl
theorem eb_23 : elemBytes Tryd.prog 23 = some 1 := by kernel_rfl
theorem eb_31 : elemBytes Tryd.prog 31 = some 8 := by kernel_rfl
theorem es_22 : elemSize Tryd.prog 22 = some 1 := by kernel_rfl
theorem es_23 : elemSize Tryd.prog 23 = some 1 := by kernel_rfl
theorem es_31 : elemSize Tryd.prog 31 = some 1 := by kernel_rfl
theorem es_58 : elemSize Tryd.prog 58 = none := by kernel_rfl
theorem es_59 : elemSize Tryd.prog 59 = none := by kernel_rfl
theorem ez_23 : elemZero Tryd.prog 23 = some (1, [.int .u8 0]) := by kernel_rfl
theorem ez_31 : elemZero Tryd.prog 31 = some (1, [.int .i64 0]) := by kernel_rfl
theorem gf_11 : goodFunc Tryd.prog 11 = true := by kernel_rfl
theorem gf_12 : goodFunc Tryd.prog 12 = true := by kernel_rfl
theorem gf_13 : goodFunc Tryd.prog 13 = true := by kernel_rfl
theorem gf_15 : goodFunc Tryd.prog 15 = true := by kernel_rfl
theorem gf_16 : goodFunc Tryd.prog 16 = true := by kernel_rfl
theorem gf_17 : goodFunc Tryd.prog 17 = true := by kernel_rfl
theorem gf_18 : goodFunc Tryd.prog 18 = true := by kernel_rfl
theorem gf_19 : goodFunc Tryd.prog 19 = true := by kernel_rfl
theorem gf_20 : goodFunc Tryd.prog 20 = true := by kernel_rfl
theorem gf_21 : goodFunc Tryd.prog 21 = true := by kernel_rfl
theorem gf_22 : goodFunc Tryd.prog 22 = true := by kernel_rfl
theorem gf_23 : goodFunc Tryd.prog 23 = true := by kernel_rfl
theorem gf_24 : goodFunc Tryd.prog 24 = true := by kernel_rfl
theorem gf_4 : goodFunc Tryd.prog 4 = true := by kernel_rfl
theorem gf_5 : goodFunc Tryd.prog 5 = true := by kernel_rfl
theorem gf_6 : goodFunc Tryd.prog 6 = true := by kernel_rfl
theorem gf_7 : goodFunc Tryd.prog 7 = true := by kernel_rfl
theorem gf_8 : goodFunc Tryd.prog 8 = true := by kernel_rfl
theorem gf_9 : goodFunc Tryd.prog 9 = true := by kernel_rfl
theorem ib_24 : isBool Tryd.prog 24 = false := by kernel_rfl
theorem ib_27 : isBool Tryd.prog 27 = false := by kernel_rfl
theorem ib_3 : isBool Tryd.prog 3 = false := by kernel_rfl
theorem ib_5 : isBool Tryd.prog 5 = false := by kernel_rfl
theorem ib_56 : isBool Tryd.prog 56 = false := by kernel_rfl
theorem ib_9 : isBool Tryd.prog 9 = false := by kernel_rfl
theorem ii_22 : isInt Tryd.prog 22 = none := by kernel_rfl
theorem ii_23 : isInt Tryd.prog 23 = none := by kernel_rfl
theorem ii_27 : isInt Tryd.prog 27 = some .u64 := by kernel_rfl
theorem ii_3 : isInt Tryd.prog 3 = some .i64 := by kernel_rfl
theorem ii_31 : isInt Tryd.prog 31 = none := by kernel_rfl
theorem ii_5 : isInt Tryd.prog 5 = some .u8 := by kernel_rfl
theorem ii_54 : isInt Tryd.prog 54 = some .u64 := by kernel_rfl
theorem ii_56 : isInt Tryd.prog 56 = some .u32 := by kernel_rfl
theorem ii_9 : isInt Tryd.prog 9 = none := by kernel_rfl
theorem ip_24 : isPtr Tryd.prog 24 = false := by kernel_rfl
theorem ip_27 : isPtr Tryd.prog 27 = false := by kernel_rfl
theorem ip_3 : isPtr Tryd.prog 3 = false := by kernel_rfl
theorem ip_5 : isPtr Tryd.prog 5 = false := by kernel_rfl
theorem ip_56 : isPtr Tryd.prog 56 = false := by kernel_rfl
theorem ip_9 : isPtr Tryd.prog 9 = false := by kernel_rfl
theorem s8_22 : sliceOfU8 Tryd.prog 22 = false := by kernel_rfl
theorem s8_23 : sliceOfU8 Tryd.prog 23 = true := by kernel_rfl
theorem s8_27 : sliceOfU8 Tryd.prog 27 = false := by kernel_rfl
theorem s8_3 : sliceOfU8 Tryd.prog 3 = false := by kernel_rfl
theorem s8_31 : sliceOfU8 Tryd.prog 31 = false := by kernel_rfl
theorem s8_5 : sliceOfU8 Tryd.prog 5 = false := by kernel_rfl
theorem s8_54 : sliceOfU8 Tryd.prog 54 = false := by kernel_rfl
theorem s8_56 : sliceOfU8 Tryd.prog 56 = false := by kernel_rfl
theorem s8_9 : sliceOfU8 Tryd.prog 9 = false := by kernel_rfl
theorem sl_22 : isSl Tryd.prog 22 = true := by kernel_rfl
theorem sl_23 : isSl Tryd.prog 23 = true := by kernel_rfl
theorem sl_27 : isSl Tryd.prog 27 = false := by kernel_rfl
theorem sl_3 : isSl Tryd.prog 3 = false := by kernel_rfl
theorem sl_31 : isSl Tryd.prog 31 = true := by kernel_rfl
theorem sl_5 : isSl Tryd.prog 5 = false := by kernel_rfl
theorem sl_54 : isSl Tryd.prog 54 = false := by kernel_rfl
theorem sl_56 : isSl Tryd.prog 56 = false := by kernel_rfl
theorem sl_9 : isSl Tryd.prog 9 = false := by kernel_rfl
theorem st_22 : isStr Tryd.prog 22 = false := by kernel_rfl
theorem st_23 : isStr Tryd.prog 23 = false := by kernel_rfl
theorem st_27 : isStr Tryd.prog 27 = false := by kernel_rfl
theorem st_3 : isStr Tryd.prog 3 = false := by kernel_rfl
theorem st_31 : isStr Tryd.prog 31 = false := by kernel_rfl
theorem st_5 : isStr Tryd.prog 5 = false := by kernel_rfl
theorem st_54 : isStr Tryd.prog 54 = false := by kernel_rfl
theorem st_56 : isStr Tryd.prog 56 = false := by kernel_rfl
theorem st_9 : isStr Tryd.prog 9 = true := by kernel_rfl
theorem un_22 : (Tryd.prog.underlying 22).isSome = true := by kernel_rfl
theorem un_23 : (Tryd.prog.underlying 23).isSome = true := by kernel_rfl
theorem un_27 : (Tryd.prog.underlying 27).isSome = true := by kernel_rfl
theorem un_3 : (Tryd.prog.underlying 3).isSome = true := by kernel_rfl
theorem un_31 : (Tryd.prog.underlying 31).isSome = true := by kernel_rfl
theorem un_5 : (Tryd.prog.underlying 5).isSome = true := by kernel_rfl
theorem un_54 : (Tryd.prog.underlying 54).isSome = true := by kernel_rfl
theorem un_56 : (Tryd.prog.underlying 56).isSome = true := by kernel_rfl
theorem un_9 : (Tryd.prog.underlying 9).isSome = true := by kernel_rfl
theorem zo_23 : zeroOf Tryd.prog 23 = some [.slice none 0 0] := by kernel_rfl
theorem zo_24 : zeroOf Tryd.prog 24 = some [.int .i64 0] := by kernel_rfl
theorem zo_3 : zeroOf Tryd.prog 3 = some [.int .i64 0] := by kernel_rfl
theorem zo_31 : zeroOf Tryd.prog 31 = some [.slice none 0 0] := by kernel_rfl
theorem zo_4 : zeroOf Tryd.prog 4 = some [.bool false] := by kernel_rfl
end Ph.T
