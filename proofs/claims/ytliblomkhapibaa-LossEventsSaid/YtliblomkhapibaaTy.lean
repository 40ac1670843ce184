import Derived.Test.YtliblomkhapibaaProg
import Derived.Test.YtliblomkhapibaaPhList
namespace Ph.T
open Go Go.Proofs
theorem ag_24 : aggSize Try.prog 24 = some (none) := by kernel_rfl
theorem ag_3 : aggSize Try.prog 3 = some (none) := by kernel_rfl
theorem ag_32 : aggSize Try.prog 32 = some (some 2) := by kernel_rfl
theorem ag_33 : aggSize Try.prog 33 = some (none) := by kernel_rfl
theorem ag_39 : aggSize Try.prog 39 = some (none) := by kernel_rfl
theorem ag_4 : aggSize Try.prog 4 = some (none) := by kernel_rfl
theorem ag_41 : aggSize Try.prog 41 = some (some 7) := by kernel_rfl
theorem ag_57 : aggSize Try.prog 57 = some (none) := by kernel_rfl
theorem ag_61 : aggSize Try.prog 61 = some (none) := by kernel_rfl
theorem ag_66 : aggSize Try.prog 66 = some (some 4) := by kernel_rfl
theorem ag_71 : aggSize Try.prog 71 = some (none) := by kernel_rfl
theorem ag_78 : aggSize Try.prog 78 = some (some 5) := by kernel_rfl
theorem eb_22 : elemBytes Try.prog 22 = some 8 := by kernel_rfl
theorem eb_33 : elemBytes Try.prog 33 = some 16 := by kernel_rfl
theorem eb_38 : elemBytes Try.prog 38 = some 1 := by kernel_rfl
theorem eb_57 : elemBytes Try.prog 57 = some 40 := by kernel_rfl
theorem eb_61 : elemBytes Try.prog 61 = some 32 := by kernel_rfl
theorem es_22 : elemSize Try.prog 22 = some 1 := by kernel_rfl
theorem es_33 : elemSize Try.prog 33 = some 2 := by kernel_rfl
theorem es_37 : elemSize Try.prog 37 = some 7 := by kernel_rfl
theorem es_38 : elemSize Try.prog 38 = some 1 := by kernel_rfl
theorem es_39 : elemSize Try.prog 39 = some 2 := by kernel_rfl
theorem es_57 : elemSize Try.prog 57 = some 5 := by kernel_rfl
theorem es_61 : elemSize Try.prog 61 = some 4 := by kernel_rfl
theorem ez_22 : elemZero Try.prog 22 = some (1, [.int .i64 0]) := by kernel_rfl
theorem ez_33 : elemZero Try.prog 33 = some (2, [.int .i64 0, .int .i64 0]) := by kernel_rfl
theorem ez_38 : elemZero Try.prog 38 = some (1, [.bool false]) := by kernel_rfl
theorem ez_57 : elemZero Try.prog 57 = some (5, [.int .i64 0, .int .i64 0, .bool false, .int .i64 0, .bool false]) := by kernel_rfl
theorem ez_61 : elemZero Try.prog 61 = some (4, [.int .i64 0, .int .i64 0, .int .i64 0, .bool false]) := by kernel_rfl
theorem fo_32_0 : fieldOff Try.prog 32 0 = some 0 := by kernel_rfl
theorem fo_32_1 : fieldOff Try.prog 32 1 = some 1 := by kernel_rfl
theorem fo_41_0 : fieldOff Try.prog 41 0 = some 0 := by kernel_rfl
theorem fo_41_1 : fieldOff Try.prog 41 1 = some 1 := by kernel_rfl
theorem fo_41_2 : fieldOff Try.prog 41 2 = some 2 := by kernel_rfl
theorem fo_41_3 : fieldOff Try.prog 41 3 = some 3 := by kernel_rfl
theorem fo_41_4 : fieldOff Try.prog 41 4 = some 4 := by kernel_rfl
theorem fo_41_5 : fieldOff Try.prog 41 5 = some 5 := by kernel_rfl
theorem fo_41_6 : fieldOff Try.prog 41 6 = some 6 := by kernel_rfl
theorem fo_42_0 : fieldOff Try.prog 42 0 = some 0 := by kernel_rfl
theorem fo_42_1 : fieldOff Try.prog 42 1 = some 1 := by kernel_rfl
theorem fo_59_0 : fieldOff Try.prog 59 0 = some 0 := by kernel_rfl
theorem fo_59_1 : fieldOff Try.prog 59 1 = some 1 := by kernel_rfl
theorem fo_59_10 : fieldOff Try.prog 59 10 = some 10 := by kernel_rfl
theorem fo_59_11 : fieldOff Try.prog 59 11 = some 11 := by kernel_rfl
theorem fo_59_2 : fieldOff Try.prog 59 2 = some 2 := by kernel_rfl
theorem fo_59_3 : fieldOff Try.prog 59 3 = some 3 := by kernel_rfl
theorem fo_59_4 : fieldOff Try.prog 59 4 = some 4 := by kernel_rfl
theorem fo_59_5 : fieldOff Try.prog 59 5 = some 5 := by kernel_rfl
theorem fo_59_6 : fieldOff Try.prog 59 6 = some 6 := by kernel_rfl
theorem fo_59_7 : fieldOff Try.prog 59 7 = some 7 := by kernel_rfl
theorem fo_59_8 : fieldOff Try.prog 59 8 = some 8 := by kernel_rfl
theorem fo_59_9 : fieldOff Try.prog 59 9 = some 9 := by kernel_rfl
theorem fo_63_0 : fieldOff Try.prog 63 0 = some 0 := by kernel_rfl
theorem fo_63_1 : fieldOff Try.prog 63 1 = some 1 := by kernel_rfl
theorem fo_63_10 : fieldOff Try.prog 63 10 = some 10 := by kernel_rfl
theorem fo_63_11 : fieldOff Try.prog 63 11 = some 11 := by kernel_rfl
theorem fo_63_12 : fieldOff Try.prog 63 12 = some 12 := by kernel_rfl
theorem fo_63_13 : fieldOff Try.prog 63 13 = some 13 := by kernel_rfl
theorem fo_63_2 : fieldOff Try.prog 63 2 = some 2 := by kernel_rfl
theorem fo_63_3 : fieldOff Try.prog 63 3 = some 3 := by kernel_rfl
theorem fo_63_4 : fieldOff Try.prog 63 4 = some 4 := by kernel_rfl
theorem fo_63_5 : fieldOff Try.prog 63 5 = some 5 := by kernel_rfl
theorem fo_63_6 : fieldOff Try.prog 63 6 = some 6 := by kernel_rfl
theorem fo_63_7 : fieldOff Try.prog 63 7 = some 7 := by kernel_rfl
theorem fo_63_8 : fieldOff Try.prog 63 8 = some 8 := by kernel_rfl
theorem fo_63_9 : fieldOff Try.prog 63 9 = some 9 := by kernel_rfl
theorem fo_66_0 : fieldOff Try.prog 66 0 = some 0 := by kernel_rfl
theorem fo_66_1 : fieldOff Try.prog 66 1 = some 1 := by kernel_rfl
theorem fo_66_2 : fieldOff Try.prog 66 2 = some 2 := by kernel_rfl
theorem fo_66_3 : fieldOff Try.prog 66 3 = some 3 := by kernel_rfl
theorem fo_78_0 : fieldOff Try.prog 78 0 = some 0 := by kernel_rfl
theorem fo_78_1 : fieldOff Try.prog 78 1 = some 1 := by kernel_rfl
theorem fo_78_2 : fieldOff Try.prog 78 2 = some 2 := by kernel_rfl
theorem fo_78_3 : fieldOff Try.prog 78 3 = some 3 := by kernel_rfl
theorem fo_78_4 : fieldOff Try.prog 78 4 = some 4 := by kernel_rfl
theorem gf_10 : goodFunc Try.prog 10 = true := by kernel_rfl
theorem gf_11 : goodFunc Try.prog 11 = true := by kernel_rfl
theorem gf_12 : goodFunc Try.prog 12 = true := by kernel_rfl
theorem gf_13 : goodFunc Try.prog 13 = true := by kernel_rfl
theorem gf_14 : goodFunc Try.prog 14 = true := by kernel_rfl
theorem gf_15 : goodFunc Try.prog 15 = true := by kernel_rfl
theorem gf_16 : goodFunc Try.prog 16 = true := by kernel_rfl
theorem gf_17 : goodFunc Try.prog 17 = true := by kernel_rfl
theorem gf_18 : goodFunc Try.prog 18 = true := by kernel_rfl
theorem gf_19 : goodFunc Try.prog 19 = true := by kernel_rfl
theorem gf_20 : goodFunc Try.prog 20 = true := by kernel_rfl
theorem gf_21 : goodFunc Try.prog 21 = true := by kernel_rfl
theorem gf_22 : goodFunc Try.prog 22 = true := by kernel_rfl
theorem gf_23 : goodFunc Try.prog 23 = true := by kernel_rfl
theorem gf_24 : goodFunc Try.prog 24 = true := by kernel_rfl
theorem gf_25 : goodFunc Try.prog 25 = true := by kernel_rfl
theorem gf_26 : goodFunc Try.prog 26 = true := by kernel_rfl
theorem gf_27 : goodFunc Try.prog 27 = true := by kernel_rfl
theorem gf_28 : goodFunc Try.prog 28 = true := by kernel_rfl
theorem gf_29 : goodFunc Try.prog 29 = true := by kernel_rfl
theorem gf_31 : goodFunc Try.prog 31 = true := by kernel_rfl
theorem gf_33 : goodFunc Try.prog 33 = true := by kernel_rfl
theorem gf_34 : goodFunc Try.prog 34 = true := by kernel_rfl
theorem gf_35 : goodFunc Try.prog 35 = true := by kernel_rfl
theorem gf_36 : goodFunc Try.prog 36 = true := by kernel_rfl
theorem gf_37 : goodFunc Try.prog 37 = true := by kernel_rfl
theorem gf_38 : goodFunc Try.prog 38 = true := by kernel_rfl
theorem gf_39 : goodFunc Try.prog 39 = true := by kernel_rfl
theorem gf_40 : goodFunc Try.prog 40 = true := by kernel_rfl
theorem gf_41 : goodFunc Try.prog 41 = true := by kernel_rfl
theorem gf_42 : goodFunc Try.prog 42 = true := by kernel_rfl
theorem gf_43 : goodFunc Try.prog 43 = true := by kernel_rfl
theorem gf_44 : goodFunc Try.prog 44 = true := by kernel_rfl
theorem gf_46 : goodFunc Try.prog 46 = true := by kernel_rfl
theorem gf_48 : goodFunc Try.prog 48 = true := by kernel_rfl
theorem gf_49 : goodFunc Try.prog 49 = true := by kernel_rfl
theorem gf_50 : goodFunc Try.prog 50 = true := by kernel_rfl
theorem gf_52 : goodFunc Try.prog 52 = true := by kernel_rfl
theorem gf_8 : goodFunc Try.prog 8 = true := by kernel_rfl
theorem gf_9 : goodFunc Try.prog 9 = true := by kernel_rfl
theorem ib_24 : isBool Try.prog 24 = false := by kernel_rfl
theorem ib_26 : isBool Try.prog 26 = false := by kernel_rfl
theorem ib_27 : isBool Try.prog 27 = false := by kernel_rfl
theorem ib_3 : isBool Try.prog 3 = false := by kernel_rfl
theorem ib_4 : isBool Try.prog 4 = true := by kernel_rfl
theorem ii_22 : isInt Try.prog 22 = none := by kernel_rfl
theorem ii_26 : isInt Try.prog 26 = some .u64 := by kernel_rfl
theorem ii_3 : isInt Try.prog 3 = some .i64 := by kernel_rfl
theorem ii_33 : isInt Try.prog 33 = none := by kernel_rfl
theorem ii_37 : isInt Try.prog 37 = none := by kernel_rfl
theorem ii_38 : isInt Try.prog 38 = none := by kernel_rfl
theorem ii_39 : isInt Try.prog 39 = none := by kernel_rfl
theorem ii_57 : isInt Try.prog 57 = none := by kernel_rfl
theorem ii_61 : isInt Try.prog 61 = none := by kernel_rfl
theorem ip_24 : isPtr Try.prog 24 = true := by kernel_rfl
theorem ip_26 : isPtr Try.prog 26 = false := by kernel_rfl
theorem ip_27 : isPtr Try.prog 27 = false := by kernel_rfl
theorem ip_3 : isPtr Try.prog 3 = false := by kernel_rfl
theorem ip_4 : isPtr Try.prog 4 = false := by kernel_rfl
theorem pl_32 : places Try.prog 32 = some [(0, 1), (1, 1)] := by kernel_rfl
theorem pl_59 : places Try.prog 59 = some [(0, 1), (1, 1), (2, 1), (3, 1), (4, 1), (5, 1), (6, 1), (7, 1), (8, 1), (9, 1), (10, 1), (11, 1)] := by kernel_rfl
theorem pl_63 : places Try.prog 63 = some [(0, 1), (1, 1), (2, 1), (3, 1), (4, 1), (5, 1), (6, 1), (7, 1), (8, 1), (9, 1), (10, 1), (11, 1), (12, 1), (13, 1)] := by kernel_rfl
theorem pl_66 : places Try.prog 66 = some [(0, 1), (1, 1), (2, 1), (3, 1)] := by kernel_rfl
theorem pl_78 : places Try.prog 78 = some [(0, 1), (1, 1), (2, 1), (3, 1), (4, 1)] := by kernel_rfl
theorem s8_22 : sliceOfU8 Try.prog 22 = false := by kernel_rfl
theorem s8_26 : sliceOfU8 Try.prog 26 = false := by kernel_rfl
theorem s8_3 : sliceOfU8 Try.prog 3 = false := by kernel_rfl
theorem s8_33 : sliceOfU8 Try.prog 33 = false := by kernel_rfl
theorem s8_37 : sliceOfU8 Try.prog 37 = false := by kernel_rfl
theorem s8_38 : sliceOfU8 Try.prog 38 = false := by kernel_rfl
theorem s8_39 : sliceOfU8 Try.prog 39 = false := by kernel_rfl
theorem s8_57 : sliceOfU8 Try.prog 57 = false := by kernel_rfl
theorem s8_61 : sliceOfU8 Try.prog 61 = false := by kernel_rfl
theorem sl_22 : isSl Try.prog 22 = true := by kernel_rfl
theorem sl_26 : isSl Try.prog 26 = false := by kernel_rfl
theorem sl_3 : isSl Try.prog 3 = false := by kernel_rfl
theorem sl_33 : isSl Try.prog 33 = true := by kernel_rfl
theorem sl_37 : isSl Try.prog 37 = true := by kernel_rfl
theorem sl_38 : isSl Try.prog 38 = true := by kernel_rfl
theorem sl_39 : isSl Try.prog 39 = true := by kernel_rfl
theorem sl_57 : isSl Try.prog 57 = true := by kernel_rfl
theorem sl_61 : isSl Try.prog 61 = true := by kernel_rfl
theorem st_22 : isStr Try.prog 22 = false := by kernel_rfl
theorem st_26 : isStr Try.prog 26 = false := by kernel_rfl
theorem st_3 : isStr Try.prog 3 = false := by kernel_rfl
theorem st_33 : isStr Try.prog 33 = false := by kernel_rfl
theorem st_37 : isStr Try.prog 37 = false := by kernel_rfl
theorem st_38 : isStr Try.prog 38 = false := by kernel_rfl
theorem st_39 : isStr Try.prog 39 = false := by kernel_rfl
theorem st_57 : isStr Try.prog 57 = false := by kernel_rfl
theorem st_61 : isStr Try.prog 61 = false := by kernel_rfl
theorem un_22 : (Try.prog.underlying 22).isSome = true := by kernel_rfl
theorem un_26 : (Try.prog.underlying 26).isSome = true := by kernel_rfl
theorem un_3 : (Try.prog.underlying 3).isSome = true := by kernel_rfl
theorem un_33 : (Try.prog.underlying 33).isSome = true := by kernel_rfl
theorem un_37 : (Try.prog.underlying 37).isSome = true := by kernel_rfl
theorem un_38 : (Try.prog.underlying 38).isSome = true := by kernel_rfl
theorem un_39 : (Try.prog.underlying 39).isSome = true := by kernel_rfl
theorem un_57 : (Try.prog.underlying 57).isSome = true := by kernel_rfl
theorem un_61 : (Try.prog.underlying 61).isSome = true := by kernel_rfl
theorem zo_3 : zeroOf Try.prog 3 = some [.int .i64 0] := by kernel_rfl
theorem zo_32 : zeroOf Try.prog 32 = some [.int .i64 0, .int .i64 0] := by kernel_rfl
theorem zo_4 : zeroOf Try.prog 4 = some [.bool false] := by kernel_rfl
theorem zo_41 : zeroOf Try.prog 41 = some [.int .i64 0, .int .i64 0, .int .i64 0, .bool false, .slice none 0 0, .int .i64 0, .int .i64 0] := by kernel_rfl
theorem zo_59 : zeroOf Try.prog 59 = some [.slice none 0 0, .int .i64 0, .int .i64 0, .int .i64 0, .int .i64 0, .int .i64 0, .bool false, .int .i64 0, .int .i64 0, .int .i64 0, .int .i64 0, .int .i64 0] := by kernel_rfl
theorem zo_61 : zeroOf Try.prog 61 = some [.slice none 0 0] := by kernel_rfl
theorem zo_63 : zeroOf Try.prog 63 = some [.slice none 0 0, .int .i64 0, .int .i64 0, .int .i64 0, .int .i64 0, .int .i64 0, .int .i64 0, .bool false, .int .i64 0, .int .i64 0, .int .i64 0, .int .i64 0, .int .i64 0, .int .i64 0] := by kernel_rfl
theorem zo_66 : zeroOf Try.prog 66 = some [.int .i64 0, .int .i64 0, .int .i64 0, .bool false] := by kernel_rfl
theorem zo_78 : zeroOf Try.prog 78 = some [.int .i64 0, .int .i64 0, .bool false, .int .i64 0, .bool false] := by kernel_rfl
end Ph.T
