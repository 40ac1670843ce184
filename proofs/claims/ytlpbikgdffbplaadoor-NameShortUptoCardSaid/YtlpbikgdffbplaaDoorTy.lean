import Derived.Test.YtlpbikgdffbplaaDoorProg
import Derived.Test.YtlpbikgdffbplaaDoorPhList
namespace Ph.T
open Go Go.Proofs
theorem ag_3 : aggSize Tryd.prog 3 = some (none) := by kernel_rfl
theorem ag_30 : aggSize Tryd.prog 30 = some (none) := by kernel_rfl
theorem ag_5 : aggSize Tryd.prog 5 = some (none) := by kernel_rfl
theorem ag_71 : aggSize Tryd.prog 71 = some (some 256) := by kernel_rfl
theorem ag_9 : aggSize Tryd.prog 9 = some (none) := by kernel_rfl
theorem eb_22 : elemBytes Tryd.prog 22 = some 16 := by kernel_rfl
theorem eb_23 : elemBytes Tryd.prog 23 = some 1 := by kernel_rfl
theorem eb_33 : elemBytes Tryd.prog 33 = some 24 := by kernel_rfl
theorem eb_34 : elemBytes Tryd.prog 34 = some 8 := by kernel_rfl
theorem es_22 : elemSize Tryd.prog 22 = some 1 := by kernel_rfl
theorem es_23 : elemSize Tryd.prog 23 = some 1 := by kernel_rfl
theorem es_33 : elemSize Tryd.prog 33 = some 2 := by kernel_rfl
theorem es_34 : elemSize Tryd.prog 34 = some 1 := by kernel_rfl
theorem es_9 : elemSize Tryd.prog 9 = none := by kernel_rfl
theorem ez_22 : elemZero Tryd.prog 22 = some (1, [.string ⟨#[]⟩]) := by kernel_rfl
theorem ez_23 : elemZero Tryd.prog 23 = some (1, [.int .u8 0]) := by kernel_rfl
theorem ez_33 : elemZero Tryd.prog 33 = some (2, [.string ⟨#[]⟩, .int .i64 0]) := by kernel_rfl
theorem ez_34 : elemZero Tryd.prog 34 = some (1, [.int .i64 0]) := by kernel_rfl
theorem fo_32_0 : fieldOff Tryd.prog 32 0 = some 0 := by kernel_rfl
theorem fo_48_0 : fieldOff Tryd.prog 48 0 = some 0 := by kernel_rfl
theorem fo_48_1 : fieldOff Tryd.prog 48 1 = some 1 := by kernel_rfl
theorem gf_10 : goodFunc Tryd.prog 10 = true := by kernel_rfl
theorem gf_11 : goodFunc Tryd.prog 11 = true := by kernel_rfl
theorem gf_12 : goodFunc Tryd.prog 12 = true := by kernel_rfl
theorem gf_13 : goodFunc Tryd.prog 13 = true := by kernel_rfl
theorem gf_14 : goodFunc Tryd.prog 14 = true := by kernel_rfl
theorem gf_15 : goodFunc Tryd.prog 15 = true := by kernel_rfl
theorem gf_16 : goodFunc Tryd.prog 16 = true := by kernel_rfl
theorem gf_17 : goodFunc Tryd.prog 17 = true := by kernel_rfl
theorem gf_18 : goodFunc Tryd.prog 18 = true := by kernel_rfl
theorem gf_19 : goodFunc Tryd.prog 19 = true := by kernel_rfl
theorem gf_20 : goodFunc Tryd.prog 20 = true := by kernel_rfl
theorem gf_21 : goodFunc Tryd.prog 21 = true := by kernel_rfl
theorem gf_22 : goodFunc Tryd.prog 22 = true := by kernel_rfl
theorem gf_23 : goodFunc Tryd.prog 23 = true := by kernel_rfl
theorem gf_24 : goodFunc Tryd.prog 24 = true := by kernel_rfl
theorem gf_25 : goodFunc Tryd.prog 25 = true := by kernel_rfl
theorem gf_26 : goodFunc Tryd.prog 26 = true := by kernel_rfl
theorem gf_27 : goodFunc Tryd.prog 27 = true := by kernel_rfl
theorem gf_28 : goodFunc Tryd.prog 28 = true := by kernel_rfl
theorem gf_29 : goodFunc Tryd.prog 29 = true := by kernel_rfl
theorem gf_30 : goodFunc Tryd.prog 30 = true := by kernel_rfl
theorem gf_31 : goodFunc Tryd.prog 31 = true := by kernel_rfl
theorem gf_32 : goodFunc Tryd.prog 32 = true := by kernel_rfl
theorem gf_33 : goodFunc Tryd.prog 33 = true := by kernel_rfl
theorem gf_36 : goodFunc Tryd.prog 36 = true := by kernel_rfl
theorem gf_37 : goodFunc Tryd.prog 37 = true := by kernel_rfl
theorem gf_4 : goodFunc Tryd.prog 4 = true := by kernel_rfl
theorem gf_48 : goodFunc Tryd.prog 48 = true := by kernel_rfl
theorem gf_5 : goodFunc Tryd.prog 5 = true := by kernel_rfl
theorem gf_6 : goodFunc Tryd.prog 6 = true := by kernel_rfl
theorem gf_7 : goodFunc Tryd.prog 7 = true := by kernel_rfl
theorem gf_8 : goodFunc Tryd.prog 8 = true := by kernel_rfl
theorem gf_9 : goodFunc Tryd.prog 9 = true := by kernel_rfl
theorem ib_24 : isBool Tryd.prog 24 = false := by kernel_rfl
theorem ib_26 : isBool Tryd.prog 26 = false := by kernel_rfl
theorem ib_3 : isBool Tryd.prog 3 = false := by kernel_rfl
theorem ib_30 : isBool Tryd.prog 30 = false := by kernel_rfl
theorem ib_5 : isBool Tryd.prog 5 = false := by kernel_rfl
theorem ib_9 : isBool Tryd.prog 9 = false := by kernel_rfl
theorem ii_22 : isInt Tryd.prog 22 = none := by kernel_rfl
theorem ii_23 : isInt Tryd.prog 23 = none := by kernel_rfl
theorem ii_3 : isInt Tryd.prog 3 = some .i64 := by kernel_rfl
theorem ii_33 : isInt Tryd.prog 33 = none := by kernel_rfl
theorem ii_34 : isInt Tryd.prog 34 = none := by kernel_rfl
theorem ii_5 : isInt Tryd.prog 5 = some .u8 := by kernel_rfl
theorem ii_9 : isInt Tryd.prog 9 = none := by kernel_rfl
theorem ip_24 : isPtr Tryd.prog 24 = false := by kernel_rfl
theorem ip_26 : isPtr Tryd.prog 26 = true := by kernel_rfl
theorem ip_3 : isPtr Tryd.prog 3 = false := by kernel_rfl
theorem ip_30 : isPtr Tryd.prog 30 = false := by kernel_rfl
theorem ip_5 : isPtr Tryd.prog 5 = false := by kernel_rfl
theorem ip_9 : isPtr Tryd.prog 9 = false := by kernel_rfl
theorem mt_30 : mapTy Tryd.prog 30 = some (9, 3) := by kernel_rfl
theorem pl_32 : places Tryd.prog 32 = some [(0, 1)] := by kernel_rfl
theorem pl_48 : places Tryd.prog 48 = some [(0, 1), (1, 1)] := by kernel_rfl
theorem s8_22 : sliceOfU8 Tryd.prog 22 = false := by kernel_rfl
theorem s8_23 : sliceOfU8 Tryd.prog 23 = true := by kernel_rfl
theorem s8_3 : sliceOfU8 Tryd.prog 3 = false := by kernel_rfl
theorem s8_33 : sliceOfU8 Tryd.prog 33 = false := by kernel_rfl
theorem s8_34 : sliceOfU8 Tryd.prog 34 = false := by kernel_rfl
theorem s8_5 : sliceOfU8 Tryd.prog 5 = false := by kernel_rfl
theorem s8_9 : sliceOfU8 Tryd.prog 9 = false := by kernel_rfl
theorem sl_22 : isSl Tryd.prog 22 = true := by kernel_rfl
theorem sl_23 : isSl Tryd.prog 23 = true := by kernel_rfl
theorem sl_3 : isSl Tryd.prog 3 = false := by kernel_rfl
theorem sl_33 : isSl Tryd.prog 33 = true := by kernel_rfl
theorem sl_34 : isSl Tryd.prog 34 = true := by kernel_rfl
theorem sl_5 : isSl Tryd.prog 5 = false := by kernel_rfl
theorem sl_9 : isSl Tryd.prog 9 = false := by kernel_rfl
theorem st_22 : isStr Tryd.prog 22 = false := by kernel_rfl
theorem st_23 : isStr Tryd.prog 23 = false := by kernel_rfl
theorem st_3 : isStr Tryd.prog 3 = false := by kernel_rfl
theorem st_33 : isStr Tryd.prog 33 = false := by kernel_rfl
theorem st_34 : isStr Tryd.prog 34 = false := by kernel_rfl
theorem st_5 : isStr Tryd.prog 5 = false := by kernel_rfl
theorem st_9 : isStr Tryd.prog 9 = true := by kernel_rfl
theorem un_22 : (Tryd.prog.underlying 22).isSome = true := by kernel_rfl
theorem un_23 : (Tryd.prog.underlying 23).isSome = true := by kernel_rfl
theorem un_3 : (Tryd.prog.underlying 3).isSome = true := by kernel_rfl
theorem un_33 : (Tryd.prog.underlying 33).isSome = true := by kernel_rfl
theorem un_34 : (Tryd.prog.underlying 34).isSome = true := by kernel_rfl
theorem un_5 : (Tryd.prog.underlying 5).isSome = true := by kernel_rfl
theorem un_9 : (Tryd.prog.underlying 9).isSome = true := by kernel_rfl
theorem zo_32 : zeroOf Tryd.prog 32 = some [.map none] := by kernel_rfl
theorem zo_48 : zeroOf Tryd.prog 48 = some [.string ⟨#[]⟩, .int .i64 0] := by kernel_rfl
theorem zo_57 : zeroOf Tryd.prog 57 = some [.pointer none, .slice none 0 0] := by kernel_rfl
theorem zo_71 : zeroOf Tryd.prog 71 = some [.bool false, .bool false, .bool false, .bool false, .bool false, .bool false, .bool false, .bool false, .bool false, .bool false, .bool false, .bool false, .bool false, .bool false, .bool false, .bool false, .bool false, .bool false, .bool false, .bool false, .bool false, .bool false, .bool false, .bool false, .bool false, .bool false, .bool false, .bool false, .bool false, .bool false, .bool false, .bool false, .bool false, .bool false, .bool false, .bool false, .bool false, .bool false, .bool false, .bool false, .bool false, .bool false, .bool false, .bool false, .bool false, .bool false, .bool false, .bool false, .bool false, .bool false, .bool false, .bool false, .bool false, .bool false, .bool false, .bool false, .bool false, .bool false, .bool false, .bool false, .bool false, .bool false, .bool false, .bool false, .bool false, .bool false, .bool false, .bool false, .bool false, .bool false, .bool false, .bool false, .bool false, .bool false, .bool false, .bool false, .bool false, .bool false, .bool false, .bool false, .bool false, .bool false, .bool false, .bool false, .bool false, .bool false, .bool false, .bool false, .bool false, .bool false, .bool false, .bool false, .bool false, .bool false, .bool false, .bool false, .bool false, .bool false, .bool false, .bool false, .bool false, .bool false, .bool false, .bool false, .bool false, .bool false, .bool false, .bool false, .bool false, .bool false, .bool false, .bool false, .bool false, .bool false, .bool false, .bool false, .bool false, .bool false, .bool false, .bool false, .bool false, .bool false, .bool false, .bool false, .bool false, .bool false, .bool false, .bool false, .bool false, .bool false, .bool false, .bool false, .bool false, .bool false, .bool false, .bool false, .bool false, .bool false, .bool false, .bool false, .bool false, .bool false, .bool false, .bool false, .bool false, .bool false, .bool false, .bool false, .bool false, .bool false, .bool false, .bool false, .bool false, .bool false, .bool false, .bool false, .bool false, .bool false, .bool false, .bool false, .bool false, .bool false, .bool false, .bool false, .bool false, .bool false, .bool false, .bool false, .bool false, .bool false, .bool false, .bool false, .bool false, .bool false, .bool false, .bool false, .bool false, .bool false, .bool false, .bool false, .bool false, .bool false, .bool false, .bool false, .bool false, .bool false, .bool false, .bool false, .bool false, .bool false, .bool false, .bool false, .bool false, .bool false, .bool false, .bool false, .bool false, .bool false, .bool false, .bool false, .bool false, .bool false, .bool false, .bool false, .bool false, .bool false, .bool false, .bool false, .bool false, .bool false, .bool false, .bool false, .bool false, .bool false, .bool false, .bool false, .bool false, .bool false, .bool false, .bool false, .bool false, .bool false, .bool false, .bool false, .bool false, .bool false, .bool false, .bool false, .bool false, .bool false, .bool false, .bool false, .bool false, .bool false, .bool false, .bool false, .bool false, .bool false, .bool false, .bool false, .bool false, .bool false, .bool false, .bool false, .bool false, .bool false, .bool false, .bool false, .bool false, .bool false, .bool false, .bool false, .bool false, .bool false, .bool false, .bool false] := by kernel_rfl
theorem zv_3 : zeroVal Tryd.prog 3 = some (.int .i64 0) := by kernel_rfl
end Ph.T
