/-
  What the program's types and functions are: closed facts, printed by walk.py.
-/
import Derived.Test.YtgidjbpgkeemiaaMem
namespace Go.Proofs.Ytgidjbpgkeemiaa
open Mv
namespace Mv
theorem mixed : Try.prog.follows .mixedOrders = true := by kernel_rfl
theorem ty_plain_1 : plainT Try.prog 1 = true := by kernel_rfl
theorem ty_size_1 : sizeT Try.prog 1 = some 1 := by kernel_rfl
theorem ty_zero_1 : zeroT Try.prog 1 = some [.nilFunc] := by kernel_rfl
theorem ty_plain_2 : plainT Try.prog 2 = true := by kernel_rfl
theorem ty_size_2 : sizeT Try.prog 2 = some 1 := by kernel_rfl
theorem ty_zero_2 : zeroT Try.prog 2 = some [.int .i64 0] := by kernel_rfl
theorem ty_plain_3 : plainT Try.prog 3 = true := by kernel_rfl
theorem ty_size_3 : sizeT Try.prog 3 = some 1 := by kernel_rfl
theorem ty_zero_3 : zeroT Try.prog 3 = some [.int .i64 0] := by kernel_rfl
theorem ty_plain_4 : plainT Try.prog 4 = true := by kernel_rfl
theorem ty_size_4 : sizeT Try.prog 4 = some 1 := by kernel_rfl
theorem ty_zero_4 : zeroT Try.prog 4 = some [.bool false] := by kernel_rfl
theorem ty_plain_5 : plainT Try.prog 5 = true := by kernel_rfl
theorem ty_size_5 : sizeT Try.prog 5 = some 1 := by kernel_rfl
theorem ty_zero_5 : zeroT Try.prog 5 = some [.int .u8 0] := by kernel_rfl
theorem ty_plain_6 : plainT Try.prog 6 = true := by kernel_rfl
theorem ty_size_6 : sizeT Try.prog 6 = some 1 := by kernel_rfl
theorem ty_zero_6 : zeroT Try.prog 6 = some [.int .u8 0] := by kernel_rfl
theorem ty_agg_7 : aggT Try.prog 7 = true := by kernel_rfl
theorem ty_bld_7 : bldT Try.prog 7 = some ([(0, 1), (1, 1), (2, 1), (3, 1)], [.int .i64 0, .int .i64 0, .bool false, .int .u8 0]) := by kernel_rfl
theorem ty_field_7_0 : fieldT Try.prog 7 0 = some (0, 0 + 1) := by kernel_rfl
theorem ty_field_7_1 : fieldT Try.prog 7 1 = some (1, 0 + 1) := by kernel_rfl
theorem ty_field_7_2 : fieldT Try.prog 7 2 = some (2, 0 + 1) := by kernel_rfl
theorem ty_field_7_3 : fieldT Try.prog 7 3 = some (3, 0 + 1) := by kernel_rfl
theorem ty_size_7 : sizeT Try.prog 7 = some 4 := by kernel_rfl
theorem ty_zero_7 : zeroT Try.prog 7 = some [.int .i64 0, .int .i64 0, .bool false, .int .u8 0] := by kernel_rfl
theorem ty_agg_8 : aggT Try.prog 8 = true := by kernel_rfl
theorem ty_bld_8 : bldT Try.prog 8 = some ([(0, 1), (1, 1), (2, 1), (3, 1)], [.int .i64 0, .int .i64 0, .bool false, .int .u8 0]) := by kernel_rfl
theorem ty_field_8_0 : fieldT Try.prog 8 0 = some (0, 0 + 1) := by kernel_rfl
theorem ty_field_8_1 : fieldT Try.prog 8 1 = some (1, 0 + 1) := by kernel_rfl
theorem ty_field_8_2 : fieldT Try.prog 8 2 = some (2, 0 + 1) := by kernel_rfl
theorem ty_field_8_3 : fieldT Try.prog 8 3 = some (3, 0 + 1) := by kernel_rfl
theorem ty_size_8 : sizeT Try.prog 8 = some 4 := by kernel_rfl
theorem ty_zero_8 : zeroT Try.prog 8 = some [.int .i64 0, .int .i64 0, .bool false, .int .u8 0] := by kernel_rfl
theorem ty_plain_9 : plainT Try.prog 9 = true := by kernel_rfl
theorem ty_size_9 : sizeT Try.prog 9 = some 1 := by kernel_rfl
theorem ty_str_9 : strT Try.prog 9 = true := by kernel_rfl
theorem ty_zero_9 : zeroT Try.prog 9 = some [.string ByteArray.empty] := by kernel_rfl
theorem ty_plain_10 : plainT Try.prog 10 = true := by kernel_rfl
theorem ty_size_10 : sizeT Try.prog 10 = some 1 := by kernel_rfl
theorem ty_str_10 : strT Try.prog 10 = true := by kernel_rfl
theorem ty_zero_10 : zeroT Try.prog 10 = some [.string ByteArray.empty] := by kernel_rfl
theorem ty_plain_11 : plainT Try.prog 11 = true := by kernel_rfl
theorem ty_size_11 : sizeT Try.prog 11 = some 1 := by kernel_rfl
theorem ty_str_11 : strT Try.prog 11 = true := by kernel_rfl
theorem ty_zero_11 : zeroT Try.prog 11 = some [.string ByteArray.empty] := by kernel_rfl
theorem ty_plain_12 : plainT Try.prog 12 = true := by kernel_rfl
theorem ty_size_12 : sizeT Try.prog 12 = some 1 := by kernel_rfl
theorem ty_zero_12 : zeroT Try.prog 12 = some [.int .u64 0] := by kernel_rfl
theorem ty_agg_13 : aggT Try.prog 13 = true := by kernel_rfl
theorem ty_bld_13 : bldT Try.prog 13 = some ([(0, 1), (1, 1)], [.string ByteArray.empty, .int .u64 0]) := by kernel_rfl
theorem ty_field_13_0 : fieldT Try.prog 13 0 = some (0, 0 + 1) := by kernel_rfl
theorem ty_field_13_1 : fieldT Try.prog 13 1 = some (1, 0 + 1) := by kernel_rfl
theorem ty_size_13 : sizeT Try.prog 13 = some 2 := by kernel_rfl
theorem ty_zero_13 : zeroT Try.prog 13 = some [.string ByteArray.empty, .int .u64 0] := by kernel_rfl
theorem ty_agg_14 : aggT Try.prog 14 = true := by kernel_rfl
theorem ty_bld_14 : bldT Try.prog 14 = some ([(0, 1), (1, 1)], [.string ByteArray.empty, .int .u64 0]) := by kernel_rfl
theorem ty_field_14_0 : fieldT Try.prog 14 0 = some (0, 0 + 1) := by kernel_rfl
theorem ty_field_14_1 : fieldT Try.prog 14 1 = some (1, 0 + 1) := by kernel_rfl
theorem ty_size_14 : sizeT Try.prog 14 = some 2 := by kernel_rfl
theorem ty_zero_14 : zeroT Try.prog 14 = some [.string ByteArray.empty, .int .u64 0] := by kernel_rfl
theorem ty_plain_15 : plainT Try.prog 15 = true := by kernel_rfl
theorem ty_size_15 : sizeT Try.prog 15 = some 1 := by kernel_rfl
theorem ty_zero_15 : zeroT Try.prog 15 = some [.pointer none] := by kernel_rfl
theorem ty_plain_16 : plainT Try.prog 16 = true := by kernel_rfl
theorem ty_size_16 : sizeT Try.prog 16 = some 1 := by kernel_rfl
theorem ty_zero_16 : zeroT Try.prog 16 = some [.pointer none] := by kernel_rfl
theorem ty_plain_17 : plainT Try.prog 17 = true := by kernel_rfl
theorem ty_size_17 : sizeT Try.prog 17 = some 1 := by kernel_rfl
theorem ty_zero_17 : zeroT Try.prog 17 = some [.pointer none] := by kernel_rfl
theorem ty_agg_18 : aggT Try.prog 18 = true := by kernel_rfl
theorem ty_bld_18 : bldT Try.prog 18 = some ([(0, 1)], [.pointer none]) := by kernel_rfl
theorem ty_field_18_0 : fieldT Try.prog 18 0 = some (0, 0 + 1) := by kernel_rfl
theorem ty_size_18 : sizeT Try.prog 18 = some 1 := by kernel_rfl
theorem ty_zero_18 : zeroT Try.prog 18 = some [.pointer none] := by kernel_rfl
theorem ty_agg_19 : aggT Try.prog 19 = true := by kernel_rfl
theorem ty_bld_19 : bldT Try.prog 19 = some ([(0, 1)], [.pointer none]) := by kernel_rfl
theorem ty_field_19_0 : fieldT Try.prog 19 0 = some (0, 0 + 1) := by kernel_rfl
theorem ty_size_19 : sizeT Try.prog 19 = some 1 := by kernel_rfl
theorem ty_zero_19 : zeroT Try.prog 19 = some [.pointer none] := by kernel_rfl
theorem ty_plain_20 : plainT Try.prog 20 = true := by kernel_rfl
theorem ty_size_20 : sizeT Try.prog 20 = some 1 := by kernel_rfl
theorem ty_zero_20 : zeroT Try.prog 20 = some [.nilIface] := by kernel_rfl
theorem ty_plain_21 : plainT Try.prog 21 = true := by kernel_rfl
theorem ty_size_21 : sizeT Try.prog 21 = some 1 := by kernel_rfl
theorem ty_zero_21 : zeroT Try.prog 21 = some [.int .i32 0] := by kernel_rfl
theorem ty_plain_22 : plainT Try.prog 22 = true := by kernel_rfl
theorem ty_size_22 : sizeT Try.prog 22 = some 1 := by kernel_rfl
theorem ty_zero_22 : zeroT Try.prog 22 = some [.slice none 0 0] := by kernel_rfl
theorem ty_sl_22 : slT Try.prog 22 = some (41, 1, 8, [.int .u64 0]) := by kernel_rfl
theorem ty_plain_23 : plainT Try.prog 23 = true := by kernel_rfl
theorem ty_size_23 : sizeT Try.prog 23 = some 1 := by kernel_rfl
theorem ty_zero_23 : zeroT Try.prog 23 = some [.nilFunc] := by kernel_rfl
theorem ty_plain_24 : plainT Try.prog 24 = true := by kernel_rfl
theorem ty_size_24 : sizeT Try.prog 24 = some 1 := by kernel_rfl
theorem ty_zero_24 : zeroT Try.prog 24 = some [.slice none 0 0] := by kernel_rfl
theorem ty_sl_24 : slT Try.prog 24 = some (3, 1, 8, [.int .i64 0]) := by kernel_rfl
theorem ty_plain_25 : plainT Try.prog 25 = true := by kernel_rfl
theorem ty_size_25 : sizeT Try.prog 25 = some 1 := by kernel_rfl
theorem ty_zero_25 : zeroT Try.prog 25 = some [.int .i64 0] := by kernel_rfl
theorem ty_plain_27 : plainT Try.prog 27 = true := by kernel_rfl
theorem ty_size_27 : sizeT Try.prog 27 = some 1 := by kernel_rfl
theorem ty_zero_27 : zeroT Try.prog 27 = some [.nilFunc] := by kernel_rfl
theorem ty_plain_28 : plainT Try.prog 28 = true := by kernel_rfl
theorem ty_size_28 : sizeT Try.prog 28 = some 1 := by kernel_rfl
theorem ty_zero_28 : zeroT Try.prog 28 = some [.slice none 0 0] := by kernel_rfl
theorem ty_sl_28 : slT Try.prog 28 = some (22, 1, 24, [.slice none 0 0]) := by kernel_rfl
theorem ty_plain_30 : plainT Try.prog 30 = true := by kernel_rfl
theorem ty_size_30 : sizeT Try.prog 30 = some 1 := by kernel_rfl
theorem ty_zero_30 : zeroT Try.prog 30 = some [.nilFunc] := by kernel_rfl
theorem ty_plain_32 : plainT Try.prog 32 = true := by kernel_rfl
theorem ty_size_32 : sizeT Try.prog 32 = some 1 := by kernel_rfl
theorem ty_zero_32 : zeroT Try.prog 32 = some [.nilFunc] := by kernel_rfl
theorem ty_plain_33 : plainT Try.prog 33 = true := by kernel_rfl
theorem ty_size_33 : sizeT Try.prog 33 = some 1 := by kernel_rfl
theorem ty_zero_33 : zeroT Try.prog 33 = some [.nilFunc] := by kernel_rfl
theorem ty_plain_34 : plainT Try.prog 34 = true := by kernel_rfl
theorem ty_size_34 : sizeT Try.prog 34 = some 1 := by kernel_rfl
theorem ty_zero_34 : zeroT Try.prog 34 = some [.nilFunc] := by kernel_rfl
theorem ty_plain_35 : plainT Try.prog 35 = true := by kernel_rfl
theorem ty_size_35 : sizeT Try.prog 35 = some 1 := by kernel_rfl
theorem ty_zero_35 : zeroT Try.prog 35 = some [.nilFunc] := by kernel_rfl
theorem ty_plain_36 : plainT Try.prog 36 = true := by kernel_rfl
theorem ty_size_36 : sizeT Try.prog 36 = some 1 := by kernel_rfl
theorem ty_zero_36 : zeroT Try.prog 36 = some [.nilFunc] := by kernel_rfl
theorem ty_plain_37 : plainT Try.prog 37 = true := by kernel_rfl
theorem ty_size_37 : sizeT Try.prog 37 = some 1 := by kernel_rfl
theorem ty_zero_37 : zeroT Try.prog 37 = some [.nilFunc] := by kernel_rfl
theorem ty_plain_38 : plainT Try.prog 38 = true := by kernel_rfl
theorem ty_size_38 : sizeT Try.prog 38 = some 1 := by kernel_rfl
theorem ty_zero_38 : zeroT Try.prog 38 = some [.nilFunc] := by kernel_rfl
theorem ty_plain_39 : plainT Try.prog 39 = true := by kernel_rfl
theorem ty_size_39 : sizeT Try.prog 39 = some 1 := by kernel_rfl
theorem ty_zero_39 : zeroT Try.prog 39 = some [.nilFunc] := by kernel_rfl
theorem ty_plain_40 : plainT Try.prog 40 = true := by kernel_rfl
theorem ty_size_40 : sizeT Try.prog 40 = some 1 := by kernel_rfl
theorem ty_zero_40 : zeroT Try.prog 40 = some [.slice none 0 0] := by kernel_rfl
theorem ty_sl_40 : slT Try.prog 40 = some (4, 1, 1, [.bool false]) := by kernel_rfl
theorem ty_plain_41 : plainT Try.prog 41 = true := by kernel_rfl
theorem ty_size_41 : sizeT Try.prog 41 = some 1 := by kernel_rfl
theorem ty_zero_41 : zeroT Try.prog 41 = some [.int .u64 0] := by kernel_rfl
theorem ty_plain_42 : plainT Try.prog 42 = true := by kernel_rfl
theorem ty_size_42 : sizeT Try.prog 42 = some 1 := by kernel_rfl
theorem ty_zero_42 : zeroT Try.prog 42 = some [.slice none 0 0] := by kernel_rfl
theorem ty_sl_42 : slT Try.prog 42 = some (24, 1, 24, [.slice none 0 0]) := by kernel_rfl
theorem ty_agg_43 : aggT Try.prog 43 = true := by kernel_rfl
theorem ty_bld_43 : bldT Try.prog 43 = some ([(0, 1), (1, 1)], [.string ByteArray.empty, .int .i64 0]) := by kernel_rfl
theorem ty_field_43_0 : fieldT Try.prog 43 0 = some (0, 0 + 1) := by kernel_rfl
theorem ty_field_43_1 : fieldT Try.prog 43 1 = some (1, 0 + 1) := by kernel_rfl
theorem ty_size_43 : sizeT Try.prog 43 = some 2 := by kernel_rfl
theorem ty_zero_43 : zeroT Try.prog 43 = some [.string ByteArray.empty, .int .i64 0] := by kernel_rfl
theorem ty_agg_44 : aggT Try.prog 44 = true := by kernel_rfl
theorem ty_bld_44 : bldT Try.prog 44 = some ([(0, 1), (1, 1)], [.string ByteArray.empty, .int .i64 0]) := by kernel_rfl
theorem ty_field_44_0 : fieldT Try.prog 44 0 = some (0, 0 + 1) := by kernel_rfl
theorem ty_field_44_1 : fieldT Try.prog 44 1 = some (1, 0 + 1) := by kernel_rfl
theorem ty_size_44 : sizeT Try.prog 44 = some 2 := by kernel_rfl
theorem ty_zero_44 : zeroT Try.prog 44 = some [.string ByteArray.empty, .int .i64 0] := by kernel_rfl
theorem ty_agg_45 : aggT Try.prog 45 = true := by kernel_rfl
theorem ty_bld_45 : bldT Try.prog 45 = some ([(0, 2), (2, 1)], [.string ByteArray.empty, .int .i64 0, .slice none 0 0]) := by kernel_rfl
theorem ty_field_45_0 : fieldT Try.prog 45 0 = some (0, 1 + 1) := by kernel_rfl
theorem ty_field_45_1 : fieldT Try.prog 45 1 = some (2, 0 + 1) := by kernel_rfl
theorem ty_size_45 : sizeT Try.prog 45 = some 3 := by kernel_rfl
theorem ty_zero_45 : zeroT Try.prog 45 = some [.string ByteArray.empty, .int .i64 0, .slice none 0 0] := by kernel_rfl
theorem ty_agg_46 : aggT Try.prog 46 = true := by kernel_rfl
theorem ty_bld_46 : bldT Try.prog 46 = some ([(0, 2), (2, 1)], [.string ByteArray.empty, .int .i64 0, .slice none 0 0]) := by kernel_rfl
theorem ty_field_46_0 : fieldT Try.prog 46 0 = some (0, 1 + 1) := by kernel_rfl
theorem ty_field_46_1 : fieldT Try.prog 46 1 = some (2, 0 + 1) := by kernel_rfl
theorem ty_size_46 : sizeT Try.prog 46 = some 3 := by kernel_rfl
theorem ty_zero_46 : zeroT Try.prog 46 = some [.string ByteArray.empty, .int .i64 0, .slice none 0 0] := by kernel_rfl
theorem ty_agg_47 : aggT Try.prog 47 = true := by kernel_rfl
theorem ty_bld_47 : bldT Try.prog 47 = some ([(0, 1), (1, 1), (2, 1), (3, 1), (4, 3), (7, 1)], [.string ByteArray.empty, .int .i64 0, .slice none 0 0, .slice none 0 0, .string ByteArray.empty, .int .i64 0, .slice none 0 0, .slice none 0 0]) := by kernel_rfl
theorem ty_field_47_0 : fieldT Try.prog 47 0 = some (0, 0 + 1) := by kernel_rfl
theorem ty_field_47_1 : fieldT Try.prog 47 1 = some (1, 0 + 1) := by kernel_rfl
theorem ty_field_47_2 : fieldT Try.prog 47 2 = some (2, 0 + 1) := by kernel_rfl
theorem ty_field_47_3 : fieldT Try.prog 47 3 = some (3, 0 + 1) := by kernel_rfl
theorem ty_field_47_4 : fieldT Try.prog 47 4 = some (4, 2 + 1) := by kernel_rfl
theorem ty_field_47_5 : fieldT Try.prog 47 5 = some (7, 0 + 1) := by kernel_rfl
theorem ty_size_47 : sizeT Try.prog 47 = some 8 := by kernel_rfl
theorem ty_zero_47 : zeroT Try.prog 47 = some [.string ByteArray.empty, .int .i64 0, .slice none 0 0, .slice none 0 0, .string ByteArray.empty, .int .i64 0, .slice none 0 0, .slice none 0 0] := by kernel_rfl
theorem ty_agg_48 : aggT Try.prog 48 = true := by kernel_rfl
theorem ty_bld_48 : bldT Try.prog 48 = some ([(0, 1), (1, 1), (2, 1), (3, 1), (4, 3), (7, 1)], [.string ByteArray.empty, .int .i64 0, .slice none 0 0, .slice none 0 0, .string ByteArray.empty, .int .i64 0, .slice none 0 0, .slice none 0 0]) := by kernel_rfl
theorem ty_field_48_0 : fieldT Try.prog 48 0 = some (0, 0 + 1) := by kernel_rfl
theorem ty_field_48_1 : fieldT Try.prog 48 1 = some (1, 0 + 1) := by kernel_rfl
theorem ty_field_48_2 : fieldT Try.prog 48 2 = some (2, 0 + 1) := by kernel_rfl
theorem ty_field_48_3 : fieldT Try.prog 48 3 = some (3, 0 + 1) := by kernel_rfl
theorem ty_field_48_4 : fieldT Try.prog 48 4 = some (4, 2 + 1) := by kernel_rfl
theorem ty_field_48_5 : fieldT Try.prog 48 5 = some (7, 0 + 1) := by kernel_rfl
theorem ty_size_48 : sizeT Try.prog 48 = some 8 := by kernel_rfl
theorem ty_zero_48 : zeroT Try.prog 48 = some [.string ByteArray.empty, .int .i64 0, .slice none 0 0, .slice none 0 0, .string ByteArray.empty, .int .i64 0, .slice none 0 0, .slice none 0 0] := by kernel_rfl
theorem ty_plain_49 : plainT Try.prog 49 = true := by kernel_rfl
theorem ty_size_49 : sizeT Try.prog 49 = some 1 := by kernel_rfl
theorem ty_zero_49 : zeroT Try.prog 49 = some [.nilFunc] := by kernel_rfl
theorem ty_plain_51 : plainT Try.prog 51 = true := by kernel_rfl
theorem ty_size_51 : sizeT Try.prog 51 = some 1 := by kernel_rfl
theorem ty_zero_51 : zeroT Try.prog 51 = some [.nilFunc] := by kernel_rfl
theorem ty_plain_52 : plainT Try.prog 52 = true := by kernel_rfl
theorem ty_size_52 : sizeT Try.prog 52 = some 1 := by kernel_rfl
theorem ty_zero_52 : zeroT Try.prog 52 = some [.nilFunc] := by kernel_rfl
theorem ty_plain_53 : plainT Try.prog 53 = true := by kernel_rfl
theorem ty_size_53 : sizeT Try.prog 53 = some 1 := by kernel_rfl
theorem ty_zero_53 : zeroT Try.prog 53 = some [.nilFunc] := by kernel_rfl
theorem ty_plain_54 : plainT Try.prog 54 = true := by kernel_rfl
theorem ty_size_54 : sizeT Try.prog 54 = some 1 := by kernel_rfl
theorem ty_zero_54 : zeroT Try.prog 54 = some [.nilFunc] := by kernel_rfl
theorem ty_plain_56 : plainT Try.prog 56 = true := by kernel_rfl
theorem ty_size_56 : sizeT Try.prog 56 = some 1 := by kernel_rfl
theorem ty_zero_56 : zeroT Try.prog 56 = some [.nilFunc] := by kernel_rfl
theorem ty_plain_58 : plainT Try.prog 58 = true := by kernel_rfl
theorem ty_size_58 : sizeT Try.prog 58 = some 1 := by kernel_rfl
theorem ty_zero_58 : zeroT Try.prog 58 = some [.nilFunc] := by kernel_rfl
theorem ty_plain_59 : plainT Try.prog 59 = true := by kernel_rfl
theorem ty_size_59 : sizeT Try.prog 59 = some 1 := by kernel_rfl
theorem ty_zero_59 : zeroT Try.prog 59 = some [.nilFunc] := by kernel_rfl
theorem ty_plain_61 : plainT Try.prog 61 = true := by kernel_rfl
theorem ty_size_61 : sizeT Try.prog 61 = some 1 := by kernel_rfl
theorem ty_zero_61 : zeroT Try.prog 61 = some [.nilFunc] := by kernel_rfl
theorem ty_plain_62 : plainT Try.prog 62 = true := by kernel_rfl
theorem ty_size_62 : sizeT Try.prog 62 = some 1 := by kernel_rfl
theorem ty_zero_62 : zeroT Try.prog 62 = some [.nilFunc] := by kernel_rfl
theorem ty_plain_63 : plainT Try.prog 63 = true := by kernel_rfl
theorem ty_size_63 : sizeT Try.prog 63 = some 1 := by kernel_rfl
theorem ty_zero_63 : zeroT Try.prog 63 = some [.nilFunc] := by kernel_rfl
theorem ty_plain_65 : plainT Try.prog 65 = true := by kernel_rfl
theorem ty_size_65 : sizeT Try.prog 65 = some 1 := by kernel_rfl
theorem ty_zero_65 : zeroT Try.prog 65 = some [.nilFunc] := by kernel_rfl
theorem ty_plain_66 : plainT Try.prog 66 = true := by kernel_rfl
theorem ty_size_66 : sizeT Try.prog 66 = some 1 := by kernel_rfl
theorem ty_zero_66 : zeroT Try.prog 66 = some [.nilFunc] := by kernel_rfl
theorem ty_plain_67 : plainT Try.prog 67 = true := by kernel_rfl
theorem ty_size_67 : sizeT Try.prog 67 = some 1 := by kernel_rfl
theorem ty_zero_67 : zeroT Try.prog 67 = some [.nilFunc] := by kernel_rfl
theorem ty_plain_68 : plainT Try.prog 68 = true := by kernel_rfl
theorem ty_size_68 : sizeT Try.prog 68 = some 1 := by kernel_rfl
theorem ty_zero_68 : zeroT Try.prog 68 = some [.nilFunc] := by kernel_rfl
theorem ty_plain_69 : plainT Try.prog 69 = true := by kernel_rfl
theorem ty_size_69 : sizeT Try.prog 69 = some 1 := by kernel_rfl
theorem ty_zero_69 : zeroT Try.prog 69 = some [.nilFunc] := by kernel_rfl
theorem ty_plain_70 : plainT Try.prog 70 = true := by kernel_rfl
theorem ty_size_70 : sizeT Try.prog 70 = some 1 := by kernel_rfl
theorem ty_zero_70 : zeroT Try.prog 70 = some [.nilFunc] := by kernel_rfl
theorem ty_agg_71 : aggT Try.prog 71 = true := by kernel_rfl
theorem ty_arr_71 : arrT Try.prog 71 = some (1, [.int .u64 0, .int .u64 0, .int .u64 0]) := by kernel_rfl
theorem ty_size_71 : sizeT Try.prog 71 = some 3 := by kernel_rfl
theorem ty_zero_71 : zeroT Try.prog 71 = some [.int .u64 0, .int .u64 0, .int .u64 0] := by kernel_rfl
theorem ty_plain_72 : plainT Try.prog 72 = true := by kernel_rfl
theorem ty_size_72 : sizeT Try.prog 72 = some 1 := by kernel_rfl
theorem ty_zero_72 : zeroT Try.prog 72 = some [.slice none 0 0] := by kernel_rfl
theorem ty_sl_72 : slT Try.prog 72 = some (41, 1, 8, [.int .u64 0]) := by kernel_rfl
theorem ty_plain_73 : plainT Try.prog 73 = true := by kernel_rfl
theorem ty_size_73 : sizeT Try.prog 73 = some 1 := by kernel_rfl
theorem ty_zero_73 : zeroT Try.prog 73 = some [.nilFunc] := by kernel_rfl
theorem ty_plain_74 : plainT Try.prog 74 = true := by kernel_rfl
theorem ty_size_74 : sizeT Try.prog 74 = some 1 := by kernel_rfl
theorem ty_zero_74 : zeroT Try.prog 74 = some [.nilFunc] := by kernel_rfl
theorem ty_plain_76 : plainT Try.prog 76 = true := by kernel_rfl
theorem ty_size_76 : sizeT Try.prog 76 = some 1 := by kernel_rfl
theorem ty_zero_76 : zeroT Try.prog 76 = some [.pointer none] := by kernel_rfl
theorem ty_agg_77 : aggT Try.prog 77 = true := by kernel_rfl
theorem ty_bld_77 : bldT Try.prog 77 = some ([(0, 1), (1, 1)], [.slice none 0 0, .slice none 0 0]) := by kernel_rfl
theorem ty_field_77_0 : fieldT Try.prog 77 0 = some (0, 0 + 1) := by kernel_rfl
theorem ty_field_77_1 : fieldT Try.prog 77 1 = some (1, 0 + 1) := by kernel_rfl
theorem ty_size_77 : sizeT Try.prog 77 = some 2 := by kernel_rfl
theorem ty_zero_77 : zeroT Try.prog 77 = some [.slice none 0 0, .slice none 0 0] := by kernel_rfl
theorem ty_agg_78 : aggT Try.prog 78 = true := by kernel_rfl
theorem ty_bld_78 : bldT Try.prog 78 = some ([(0, 1), (1, 1)], [.slice none 0 0, .slice none 0 0]) := by kernel_rfl
theorem ty_field_78_0 : fieldT Try.prog 78 0 = some (0, 0 + 1) := by kernel_rfl
theorem ty_field_78_1 : fieldT Try.prog 78 1 = some (1, 0 + 1) := by kernel_rfl
theorem ty_size_78 : sizeT Try.prog 78 = some 2 := by kernel_rfl
theorem ty_zero_78 : zeroT Try.prog 78 = some [.slice none 0 0, .slice none 0 0] := by kernel_rfl
theorem ty_plain_79 : plainT Try.prog 79 = true := by kernel_rfl
theorem ty_size_79 : sizeT Try.prog 79 = some 1 := by kernel_rfl
theorem ty_zero_79 : zeroT Try.prog 79 = some [.nilFunc] := by kernel_rfl
theorem ty_plain_80 : plainT Try.prog 80 = true := by kernel_rfl
theorem ty_size_80 : sizeT Try.prog 80 = some 1 := by kernel_rfl
theorem ty_zero_80 : zeroT Try.prog 80 = some [.nilFunc] := by kernel_rfl
theorem ty_plain_81 : plainT Try.prog 81 = true := by kernel_rfl
theorem ty_size_81 : sizeT Try.prog 81 = some 1 := by kernel_rfl
theorem ty_zero_81 : zeroT Try.prog 81 = some [.nilFunc] := by kernel_rfl
theorem ty_plain_82 : plainT Try.prog 82 = true := by kernel_rfl
theorem ty_size_82 : sizeT Try.prog 82 = some 1 := by kernel_rfl
theorem ty_zero_82 : zeroT Try.prog 82 = some [.nilFunc] := by kernel_rfl
theorem ty_plain_83 : plainT Try.prog 83 = true := by kernel_rfl
theorem ty_size_83 : sizeT Try.prog 83 = some 1 := by kernel_rfl
theorem ty_zero_83 : zeroT Try.prog 83 = some [.nilFunc] := by kernel_rfl
theorem ty_plain_84 : plainT Try.prog 84 = true := by kernel_rfl
theorem ty_size_84 : sizeT Try.prog 84 = some 1 := by kernel_rfl
theorem ty_zero_84 : zeroT Try.prog 84 = some [.nilFunc] := by kernel_rfl
theorem ty_plain_85 : plainT Try.prog 85 = true := by kernel_rfl
theorem ty_size_85 : sizeT Try.prog 85 = some 1 := by kernel_rfl
theorem ty_zero_85 : zeroT Try.prog 85 = some [.pointer none] := by kernel_rfl
theorem ty_plain_86 : plainT Try.prog 86 = true := by kernel_rfl
theorem ty_size_86 : sizeT Try.prog 86 = some 1 := by kernel_rfl
theorem ty_zero_86 : zeroT Try.prog 86 = some [.nilFunc] := by kernel_rfl
theorem ty_plain_87 : plainT Try.prog 87 = true := by kernel_rfl
theorem ty_size_87 : sizeT Try.prog 87 = some 1 := by kernel_rfl
theorem ty_zero_87 : zeroT Try.prog 87 = some [.nilFunc] := by kernel_rfl
theorem ty_agg_88 : aggT Try.prog 88 = true := by kernel_rfl
theorem ty_bld_88 : bldT Try.prog 88 = some ([(0, 3)], [.string ByteArray.empty, .int .i64 0, .slice none 0 0]) := by kernel_rfl
theorem ty_field_88_0 : fieldT Try.prog 88 0 = some (0, 2 + 1) := by kernel_rfl
theorem ty_size_88 : sizeT Try.prog 88 = some 3 := by kernel_rfl
theorem ty_zero_88 : zeroT Try.prog 88 = some [.string ByteArray.empty, .int .i64 0, .slice none 0 0] := by kernel_rfl
theorem ty_agg_89 : aggT Try.prog 89 = true := by kernel_rfl
theorem ty_bld_89 : bldT Try.prog 89 = some ([(0, 3)], [.string ByteArray.empty, .int .i64 0, .slice none 0 0]) := by kernel_rfl
theorem ty_field_89_0 : fieldT Try.prog 89 0 = some (0, 2 + 1) := by kernel_rfl
theorem ty_size_89 : sizeT Try.prog 89 = some 3 := by kernel_rfl
theorem ty_zero_89 : zeroT Try.prog 89 = some [.string ByteArray.empty, .int .i64 0, .slice none 0 0] := by kernel_rfl
theorem ty_agg_90 : aggT Try.prog 90 = true := by kernel_rfl
theorem ty_bld_90 : bldT Try.prog 90 = some ([(0, 8), (8, 3)], [.string ByteArray.empty, .int .i64 0, .slice none 0 0, .slice none 0 0, .string ByteArray.empty, .int .i64 0, .slice none 0 0, .slice none 0 0, .string ByteArray.empty, .int .i64 0, .slice none 0 0]) := by kernel_rfl
theorem ty_field_90_0 : fieldT Try.prog 90 0 = some (0, 7 + 1) := by kernel_rfl
theorem ty_field_90_1 : fieldT Try.prog 90 1 = some (8, 2 + 1) := by kernel_rfl
theorem ty_size_90 : sizeT Try.prog 90 = some 11 := by kernel_rfl
theorem ty_zero_90 : zeroT Try.prog 90 = some [.string ByteArray.empty, .int .i64 0, .slice none 0 0, .slice none 0 0, .string ByteArray.empty, .int .i64 0, .slice none 0 0, .slice none 0 0, .string ByteArray.empty, .int .i64 0, .slice none 0 0] := by kernel_rfl
theorem ty_agg_91 : aggT Try.prog 91 = true := by kernel_rfl
theorem ty_bld_91 : bldT Try.prog 91 = some ([(0, 8), (8, 3)], [.string ByteArray.empty, .int .i64 0, .slice none 0 0, .slice none 0 0, .string ByteArray.empty, .int .i64 0, .slice none 0 0, .slice none 0 0, .string ByteArray.empty, .int .i64 0, .slice none 0 0]) := by kernel_rfl
theorem ty_field_91_0 : fieldT Try.prog 91 0 = some (0, 7 + 1) := by kernel_rfl
theorem ty_field_91_1 : fieldT Try.prog 91 1 = some (8, 2 + 1) := by kernel_rfl
theorem ty_size_91 : sizeT Try.prog 91 = some 11 := by kernel_rfl
theorem ty_zero_91 : zeroT Try.prog 91 = some [.string ByteArray.empty, .int .i64 0, .slice none 0 0, .slice none 0 0, .string ByteArray.empty, .int .i64 0, .slice none 0 0, .slice none 0 0, .string ByteArray.empty, .int .i64 0, .slice none 0 0] := by kernel_rfl
theorem ty_plain_92 : plainT Try.prog 92 = true := by kernel_rfl
theorem ty_size_92 : sizeT Try.prog 92 = some 1 := by kernel_rfl
theorem ty_zero_92 : zeroT Try.prog 92 = some [.nilFunc] := by kernel_rfl
theorem ty_plain_93 : plainT Try.prog 93 = true := by kernel_rfl
theorem ty_size_93 : sizeT Try.prog 93 = some 1 := by kernel_rfl
theorem ty_zero_93 : zeroT Try.prog 93 = some [.nilFunc] := by kernel_rfl
theorem ty_plain_94 : plainT Try.prog 94 = true := by kernel_rfl
theorem ty_size_94 : sizeT Try.prog 94 = some 1 := by kernel_rfl
theorem ty_zero_94 : zeroT Try.prog 94 = some [.nilFunc] := by kernel_rfl
theorem ty_plain_96 : plainT Try.prog 96 = true := by kernel_rfl
theorem ty_size_96 : sizeT Try.prog 96 = some 1 := by kernel_rfl
theorem ty_zero_96 : zeroT Try.prog 96 = some [.nilFunc] := by kernel_rfl
theorem ty_plain_97 : plainT Try.prog 97 = true := by kernel_rfl
theorem ty_size_97 : sizeT Try.prog 97 = some 1 := by kernel_rfl
theorem ty_zero_97 : zeroT Try.prog 97 = some [.nilFunc] := by kernel_rfl
theorem ty_plain_98 : plainT Try.prog 98 = true := by kernel_rfl
theorem ty_size_98 : sizeT Try.prog 98 = some 1 := by kernel_rfl
theorem ty_zero_98 : zeroT Try.prog 98 = some [.nilFunc] := by kernel_rfl
theorem ty_plain_100 : plainT Try.prog 100 = true := by kernel_rfl
theorem ty_size_100 : sizeT Try.prog 100 = some 1 := by kernel_rfl
theorem ty_zero_100 : zeroT Try.prog 100 = some [.nilFunc] := by kernel_rfl
theorem ty_plain_102 : plainT Try.prog 102 = true := by kernel_rfl
theorem ty_size_102 : sizeT Try.prog 102 = some 1 := by kernel_rfl
theorem ty_zero_102 : zeroT Try.prog 102 = some [.nilFunc] := by kernel_rfl
theorem ty_plain_103 : plainT Try.prog 103 = true := by kernel_rfl
theorem ty_size_103 : sizeT Try.prog 103 = some 1 := by kernel_rfl
theorem ty_zero_103 : zeroT Try.prog 103 = some [.nilFunc] := by kernel_rfl
theorem ty_plain_104 : plainT Try.prog 104 = true := by kernel_rfl
theorem ty_size_104 : sizeT Try.prog 104 = some 1 := by kernel_rfl
theorem ty_zero_104 : zeroT Try.prog 104 = some [.nilFunc] := by kernel_rfl
theorem ty_plain_105 : plainT Try.prog 105 = true := by kernel_rfl
theorem ty_size_105 : sizeT Try.prog 105 = some 1 := by kernel_rfl
theorem ty_zero_105 : zeroT Try.prog 105 = some [.nilFunc] := by kernel_rfl
theorem ty_plain_106 : plainT Try.prog 106 = true := by kernel_rfl
theorem ty_size_106 : sizeT Try.prog 106 = some 1 := by kernel_rfl
theorem ty_zero_106 : zeroT Try.prog 106 = some [.nilFunc] := by kernel_rfl
theorem ty_plain_107 : plainT Try.prog 107 = true := by kernel_rfl
theorem ty_size_107 : sizeT Try.prog 107 = some 1 := by kernel_rfl
theorem ty_zero_107 : zeroT Try.prog 107 = some [.slice none 0 0] := by kernel_rfl
theorem ty_sl_107 : slT Try.prog 107 = some (5, 1, 1, [.int .u8 0]) := by kernel_rfl
theorem ty_bytes_107 : bytesT Try.prog 107 = some 5 := by kernel_rfl
theorem ty_plain_108 : plainT Try.prog 108 = true := by kernel_rfl
theorem ty_size_108 : sizeT Try.prog 108 = some 1 := by kernel_rfl
theorem ty_zero_108 : zeroT Try.prog 108 = some [.nilFunc] := by kernel_rfl
theorem ty_plain_109 : plainT Try.prog 109 = true := by kernel_rfl
theorem ty_size_109 : sizeT Try.prog 109 = some 1 := by kernel_rfl
theorem ty_zero_109 : zeroT Try.prog 109 = some [.nilFunc] := by kernel_rfl
theorem ty_plain_110 : plainT Try.prog 110 = true := by kernel_rfl
theorem ty_size_110 : sizeT Try.prog 110 = some 1 := by kernel_rfl
theorem ty_zero_110 : zeroT Try.prog 110 = some [.nilFunc] := by kernel_rfl
theorem ty_plain_111 : plainT Try.prog 111 = true := by kernel_rfl
theorem ty_size_111 : sizeT Try.prog 111 = some 1 := by kernel_rfl
theorem ty_zero_111 : zeroT Try.prog 111 = some [.nilFunc] := by kernel_rfl
theorem ty_plain_112 : plainT Try.prog 112 = true := by kernel_rfl
theorem ty_size_112 : sizeT Try.prog 112 = some 1 := by kernel_rfl
theorem ty_zero_112 : zeroT Try.prog 112 = some [.nilFunc] := by kernel_rfl
theorem ty_plain_113 : plainT Try.prog 113 = true := by kernel_rfl
theorem ty_size_113 : sizeT Try.prog 113 = some 1 := by kernel_rfl
theorem ty_zero_113 : zeroT Try.prog 113 = some [.nilFunc] := by kernel_rfl
theorem ty_plain_114 : plainT Try.prog 114 = true := by kernel_rfl
theorem ty_size_114 : sizeT Try.prog 114 = some 1 := by kernel_rfl
theorem ty_zero_114 : zeroT Try.prog 114 = some [.nilFunc] := by kernel_rfl
theorem ty_plain_115 : plainT Try.prog 115 = true := by kernel_rfl
theorem ty_size_115 : sizeT Try.prog 115 = some 1 := by kernel_rfl
theorem ty_zero_115 : zeroT Try.prog 115 = some [.nilFunc] := by kernel_rfl
theorem ty_plain_116 : plainT Try.prog 116 = true := by kernel_rfl
theorem ty_size_116 : sizeT Try.prog 116 = some 1 := by kernel_rfl
theorem ty_zero_116 : zeroT Try.prog 116 = some [.nilFunc] := by kernel_rfl
theorem ty_plain_117 : plainT Try.prog 117 = true := by kernel_rfl
theorem ty_size_117 : sizeT Try.prog 117 = some 1 := by kernel_rfl
theorem ty_zero_117 : zeroT Try.prog 117 = some [.nilFunc] := by kernel_rfl
theorem ty_plain_118 : plainT Try.prog 118 = true := by kernel_rfl
theorem ty_size_118 : sizeT Try.prog 118 = some 1 := by kernel_rfl
theorem ty_zero_118 : zeroT Try.prog 118 = some [.nilFunc] := by kernel_rfl
theorem ty_plain_119 : plainT Try.prog 119 = true := by kernel_rfl
theorem ty_size_119 : sizeT Try.prog 119 = some 1 := by kernel_rfl
theorem ty_zero_119 : zeroT Try.prog 119 = some [.nilFunc] := by kernel_rfl
theorem ty_plain_120 : plainT Try.prog 120 = true := by kernel_rfl
theorem ty_size_120 : sizeT Try.prog 120 = some 1 := by kernel_rfl
theorem ty_zero_120 : zeroT Try.prog 120 = some [.nilFunc] := by kernel_rfl
theorem ty_plain_121 : plainT Try.prog 121 = true := by kernel_rfl
theorem ty_size_121 : sizeT Try.prog 121 = some 1 := by kernel_rfl
theorem ty_zero_121 : zeroT Try.prog 121 = some [.slice none 0 0] := by kernel_rfl
theorem ty_sl_121 : slT Try.prog 121 = some (76, 1, 8, [.pointer none]) := by kernel_rfl
theorem ty_plain_122 : plainT Try.prog 122 = true := by kernel_rfl
theorem ty_size_122 : sizeT Try.prog 122 = some 1 := by kernel_rfl
theorem ty_zero_122 : zeroT Try.prog 122 = some [.nilFunc] := by kernel_rfl
theorem ty_plain_123 : plainT Try.prog 123 = true := by kernel_rfl
theorem ty_size_123 : sizeT Try.prog 123 = some 1 := by kernel_rfl
theorem ty_zero_123 : zeroT Try.prog 123 = some [.nilFunc] := by kernel_rfl
theorem ty_plain_124 : plainT Try.prog 124 = true := by kernel_rfl
theorem ty_size_124 : sizeT Try.prog 124 = some 1 := by kernel_rfl
theorem ty_zero_124 : zeroT Try.prog 124 = some [.nilFunc] := by kernel_rfl
theorem ty_plain_125 : plainT Try.prog 125 = true := by kernel_rfl
theorem ty_size_125 : sizeT Try.prog 125 = some 1 := by kernel_rfl
theorem ty_zero_125 : zeroT Try.prog 125 = some [.nilFunc] := by kernel_rfl
theorem ty_plain_126 : plainT Try.prog 126 = true := by kernel_rfl
theorem ty_size_126 : sizeT Try.prog 126 = some 1 := by kernel_rfl
theorem ty_zero_126 : zeroT Try.prog 126 = some [.nilFunc] := by kernel_rfl
theorem ty_plain_127 : plainT Try.prog 127 = true := by kernel_rfl
theorem ty_size_127 : sizeT Try.prog 127 = some 1 := by kernel_rfl
theorem ty_zero_127 : zeroT Try.prog 127 = some [.pointer none] := by kernel_rfl
theorem ty_agg_128 : aggT Try.prog 128 = true := by kernel_rfl
theorem ty_bld_128 : bldT Try.prog 128 = some ([(0, 1), (1, 1), (2, 1)], [.slice none 0 0, .int .u64 0, .int .i64 0]) := by kernel_rfl
theorem ty_field_128_0 : fieldT Try.prog 128 0 = some (0, 0 + 1) := by kernel_rfl
theorem ty_field_128_1 : fieldT Try.prog 128 1 = some (1, 0 + 1) := by kernel_rfl
theorem ty_field_128_2 : fieldT Try.prog 128 2 = some (2, 0 + 1) := by kernel_rfl
theorem ty_size_128 : sizeT Try.prog 128 = some 3 := by kernel_rfl
theorem ty_zero_128 : zeroT Try.prog 128 = some [.slice none 0 0, .int .u64 0, .int .i64 0] := by kernel_rfl
theorem ty_agg_129 : aggT Try.prog 129 = true := by kernel_rfl
theorem ty_bld_129 : bldT Try.prog 129 = some ([(0, 1), (1, 1), (2, 1)], [.slice none 0 0, .int .u64 0, .int .i64 0]) := by kernel_rfl
theorem ty_field_129_0 : fieldT Try.prog 129 0 = some (0, 0 + 1) := by kernel_rfl
theorem ty_field_129_1 : fieldT Try.prog 129 1 = some (1, 0 + 1) := by kernel_rfl
theorem ty_field_129_2 : fieldT Try.prog 129 2 = some (2, 0 + 1) := by kernel_rfl
theorem ty_size_129 : sizeT Try.prog 129 = some 3 := by kernel_rfl
theorem ty_zero_129 : zeroT Try.prog 129 = some [.slice none 0 0, .int .u64 0, .int .i64 0] := by kernel_rfl
theorem ty_plain_130 : plainT Try.prog 130 = true := by kernel_rfl
theorem ty_size_130 : sizeT Try.prog 130 = some 1 := by kernel_rfl
theorem ty_zero_130 : zeroT Try.prog 130 = some [.nilFunc] := by kernel_rfl
theorem ty_plain_131 : plainT Try.prog 131 = true := by kernel_rfl
theorem ty_size_131 : sizeT Try.prog 131 = some 1 := by kernel_rfl
theorem ty_zero_131 : zeroT Try.prog 131 = some [.nilFunc] := by kernel_rfl
theorem ty_plain_132 : plainT Try.prog 132 = true := by kernel_rfl
theorem ty_size_132 : sizeT Try.prog 132 = some 1 := by kernel_rfl
theorem ty_zero_132 : zeroT Try.prog 132 = some [.nilFunc] := by kernel_rfl
theorem ty_plain_133 : plainT Try.prog 133 = true := by kernel_rfl
theorem ty_size_133 : sizeT Try.prog 133 = some 1 := by kernel_rfl
theorem ty_zero_133 : zeroT Try.prog 133 = some [.nilFunc] := by kernel_rfl
theorem ty_plain_134 : plainT Try.prog 134 = true := by kernel_rfl
theorem ty_size_134 : sizeT Try.prog 134 = some 1 := by kernel_rfl
theorem ty_zero_134 : zeroT Try.prog 134 = some [.nilFunc] := by kernel_rfl
theorem ty_plain_135 : plainT Try.prog 135 = true := by kernel_rfl
theorem ty_size_135 : sizeT Try.prog 135 = some 1 := by kernel_rfl
theorem ty_zero_135 : zeroT Try.prog 135 = some [.nilFunc] := by kernel_rfl
theorem ty_plain_136 : plainT Try.prog 136 = true := by kernel_rfl
theorem ty_size_136 : sizeT Try.prog 136 = some 1 := by kernel_rfl
theorem ty_zero_136 : zeroT Try.prog 136 = some [.nilFunc] := by kernel_rfl
theorem ty_plain_137 : plainT Try.prog 137 = true := by kernel_rfl
theorem ty_size_137 : sizeT Try.prog 137 = some 1 := by kernel_rfl
theorem ty_zero_137 : zeroT Try.prog 137 = some [.nilFunc] := by kernel_rfl
theorem ty_plain_138 : plainT Try.prog 138 = true := by kernel_rfl
theorem ty_size_138 : sizeT Try.prog 138 = some 1 := by kernel_rfl
theorem ty_zero_138 : zeroT Try.prog 138 = some [.nilFunc] := by kernel_rfl
theorem ty_plain_139 : plainT Try.prog 139 = true := by kernel_rfl
theorem ty_size_139 : sizeT Try.prog 139 = some 1 := by kernel_rfl
theorem ty_zero_139 : zeroT Try.prog 139 = some [.int .u64 0] := by kernel_rfl
theorem ty_plain_140 : plainT Try.prog 140 = true := by kernel_rfl
theorem ty_size_140 : sizeT Try.prog 140 = some 1 := by kernel_rfl
theorem ty_zero_140 : zeroT Try.prog 140 = some [.nilFunc] := by kernel_rfl
theorem ty_plain_141 : plainT Try.prog 141 = true := by kernel_rfl
theorem ty_size_141 : sizeT Try.prog 141 = some 1 := by kernel_rfl
theorem ty_zero_141 : zeroT Try.prog 141 = some [.nilFunc] := by kernel_rfl
theorem ty_plain_142 : plainT Try.prog 142 = true := by kernel_rfl
theorem ty_size_142 : sizeT Try.prog 142 = some 1 := by kernel_rfl
theorem ty_zero_142 : zeroT Try.prog 142 = some [.nilFunc] := by kernel_rfl
theorem ty_plain_144 : plainT Try.prog 144 = true := by kernel_rfl
theorem ty_size_144 : sizeT Try.prog 144 = some 1 := by kernel_rfl
theorem ty_zero_144 : zeroT Try.prog 144 = some [.nilFunc] := by kernel_rfl
theorem ty_plain_146 : plainT Try.prog 146 = true := by kernel_rfl
theorem ty_size_146 : sizeT Try.prog 146 = some 1 := by kernel_rfl
theorem ty_zero_146 : zeroT Try.prog 146 = some [.nilFunc] := by kernel_rfl
theorem ty_plain_147 : plainT Try.prog 147 = true := by kernel_rfl
theorem ty_size_147 : sizeT Try.prog 147 = some 1 := by kernel_rfl
theorem ty_zero_147 : zeroT Try.prog 147 = some [.nilFunc] := by kernel_rfl
theorem ty_plain_148 : plainT Try.prog 148 = true := by kernel_rfl
theorem ty_size_148 : sizeT Try.prog 148 = some 1 := by kernel_rfl
theorem ty_zero_148 : zeroT Try.prog 148 = some [.nilFunc] := by kernel_rfl
theorem ty_plain_149 : plainT Try.prog 149 = true := by kernel_rfl
theorem ty_size_149 : sizeT Try.prog 149 = some 1 := by kernel_rfl
theorem ty_zero_149 : zeroT Try.prog 149 = some [.nilFunc] := by kernel_rfl
theorem ty_agg_150 : aggT Try.prog 150 = true := by kernel_rfl
theorem ty_size_150 : sizeT Try.prog 150 = some 257 := by kernel_rfl
theorem ty_plain_151 : plainT Try.prog 151 = true := by kernel_rfl
theorem ty_size_151 : sizeT Try.prog 151 = some 1 := by kernel_rfl
theorem ty_zero_151 : zeroT Try.prog 151 = some [.nilFunc] := by kernel_rfl
theorem ty_plain_152 : plainT Try.prog 152 = true := by kernel_rfl
theorem ty_size_152 : sizeT Try.prog 152 = some 1 := by kernel_rfl
theorem ty_zero_152 : zeroT Try.prog 152 = some [.nilFunc] := by kernel_rfl
theorem ty_plain_153 : plainT Try.prog 153 = true := by kernel_rfl
theorem ty_size_153 : sizeT Try.prog 153 = some 1 := by kernel_rfl
theorem ty_zero_153 : zeroT Try.prog 153 = some [.nilFunc] := by kernel_rfl
theorem ty_plain_154 : plainT Try.prog 154 = true := by kernel_rfl
theorem ty_size_154 : sizeT Try.prog 154 = some 1 := by kernel_rfl
theorem ty_zero_154 : zeroT Try.prog 154 = some [.nilFunc] := by kernel_rfl
theorem ty_plain_155 : plainT Try.prog 155 = true := by kernel_rfl
theorem ty_size_155 : sizeT Try.prog 155 = some 1 := by kernel_rfl
theorem ty_zero_155 : zeroT Try.prog 155 = some [.nilFunc] := by kernel_rfl
theorem ty_plain_156 : plainT Try.prog 156 = true := by kernel_rfl
theorem ty_size_156 : sizeT Try.prog 156 = some 1 := by kernel_rfl
theorem ty_zero_156 : zeroT Try.prog 156 = some [.pointer none] := by kernel_rfl
theorem ty_plain_157 : plainT Try.prog 157 = true := by kernel_rfl
theorem ty_size_157 : sizeT Try.prog 157 = some 1 := by kernel_rfl
theorem ty_zero_157 : zeroT Try.prog 157 = some [.nilFunc] := by kernel_rfl
theorem ty_plain_158 : plainT Try.prog 158 = true := by kernel_rfl
theorem ty_size_158 : sizeT Try.prog 158 = some 1 := by kernel_rfl
theorem ty_zero_158 : zeroT Try.prog 158 = some [.nilFunc] := by kernel_rfl
theorem ty_plain_159 : plainT Try.prog 159 = true := by kernel_rfl
theorem ty_size_159 : sizeT Try.prog 159 = some 1 := by kernel_rfl
theorem ty_zero_159 : zeroT Try.prog 159 = some [.nilFunc] := by kernel_rfl
theorem ty_plain_160 : plainT Try.prog 160 = true := by kernel_rfl
theorem ty_size_160 : sizeT Try.prog 160 = some 1 := by kernel_rfl
theorem ty_zero_160 : zeroT Try.prog 160 = some [.int .i64 0] := by kernel_rfl
theorem ty_plain_162 : plainT Try.prog 162 = true := by kernel_rfl
theorem ty_size_162 : sizeT Try.prog 162 = some 1 := by kernel_rfl
theorem ty_zero_162 : zeroT Try.prog 162 = some [.nilFunc] := by kernel_rfl
theorem ty_plain_163 : plainT Try.prog 163 = true := by kernel_rfl
theorem ty_size_163 : sizeT Try.prog 163 = some 1 := by kernel_rfl
theorem ty_zero_163 : zeroT Try.prog 163 = some [.nilFunc] := by kernel_rfl
theorem ty_plain_164 : plainT Try.prog 164 = true := by kernel_rfl
theorem ty_size_164 : sizeT Try.prog 164 = some 1 := by kernel_rfl
theorem ty_zero_164 : zeroT Try.prog 164 = some [.nilFunc] := by kernel_rfl
theorem ty_plain_165 : plainT Try.prog 165 = true := by kernel_rfl
theorem ty_size_165 : sizeT Try.prog 165 = some 1 := by kernel_rfl
theorem ty_zero_165 : zeroT Try.prog 165 = some [.nilFunc] := by kernel_rfl
theorem ty_plain_166 : plainT Try.prog 166 = true := by kernel_rfl
theorem ty_size_166 : sizeT Try.prog 166 = some 1 := by kernel_rfl
theorem ty_zero_166 : zeroT Try.prog 166 = some [.int .u32 0] := by kernel_rfl
theorem ty_plain_167 : plainT Try.prog 167 = true := by kernel_rfl
theorem ty_size_167 : sizeT Try.prog 167 = some 1 := by kernel_rfl
theorem ty_zero_167 : zeroT Try.prog 167 = some [.nilFunc] := by kernel_rfl
theorem ty_plain_168 : plainT Try.prog 168 = true := by kernel_rfl
theorem ty_size_168 : sizeT Try.prog 168 = some 1 := by kernel_rfl
theorem ty_zero_168 : zeroT Try.prog 168 = some [.pointer none] := by kernel_rfl
theorem ty_plain_169 : plainT Try.prog 169 = true := by kernel_rfl
theorem ty_size_169 : sizeT Try.prog 169 = some 1 := by kernel_rfl
theorem ty_zero_169 : zeroT Try.prog 169 = some [.nilFunc] := by kernel_rfl
theorem ty_plain_170 : plainT Try.prog 170 = true := by kernel_rfl
theorem ty_size_170 : sizeT Try.prog 170 = some 1 := by kernel_rfl
theorem ty_zero_170 : zeroT Try.prog 170 = some [.nilFunc] := by kernel_rfl
theorem ty_plain_172 : plainT Try.prog 172 = true := by kernel_rfl
theorem ty_size_172 : sizeT Try.prog 172 = some 1 := by kernel_rfl
theorem ty_zero_172 : zeroT Try.prog 172 = some [.nilFunc] := by kernel_rfl
theorem ty_plain_174 : plainT Try.prog 174 = true := by kernel_rfl
theorem ty_size_174 : sizeT Try.prog 174 = some 1 := by kernel_rfl
theorem ty_zero_174 : zeroT Try.prog 174 = some [.nilFunc] := by kernel_rfl
theorem ty_plain_175 : plainT Try.prog 175 = true := by kernel_rfl
theorem ty_size_175 : sizeT Try.prog 175 = some 1 := by kernel_rfl
theorem ty_zero_175 : zeroT Try.prog 175 = some [.nilFunc] := by kernel_rfl
theorem ty_plain_176 : plainT Try.prog 176 = true := by kernel_rfl
theorem ty_size_176 : sizeT Try.prog 176 = some 1 := by kernel_rfl
theorem ty_zero_176 : zeroT Try.prog 176 = some [.nilFunc] := by kernel_rfl
theorem ty_plain_177 : plainT Try.prog 177 = true := by kernel_rfl
theorem ty_size_177 : sizeT Try.prog 177 = some 1 := by kernel_rfl
theorem ty_zero_177 : zeroT Try.prog 177 = some [.nilFunc] := by kernel_rfl
theorem ty_plain_178 : plainT Try.prog 178 = true := by kernel_rfl
theorem ty_size_178 : sizeT Try.prog 178 = some 1 := by kernel_rfl
theorem ty_zero_178 : zeroT Try.prog 178 = some [.nilFunc] := by kernel_rfl
theorem ty_plain_179 : plainT Try.prog 179 = true := by kernel_rfl
theorem ty_size_179 : sizeT Try.prog 179 = some 1 := by kernel_rfl
theorem ty_zero_179 : zeroT Try.prog 179 = some [.nilFunc] := by kernel_rfl
theorem ty_plain_180 : plainT Try.prog 180 = true := by kernel_rfl
theorem ty_size_180 : sizeT Try.prog 180 = some 1 := by kernel_rfl
theorem ty_zero_180 : zeroT Try.prog 180 = some [.nilFunc] := by kernel_rfl
theorem ty_plain_181 : plainT Try.prog 181 = true := by kernel_rfl
theorem ty_size_181 : sizeT Try.prog 181 = some 1 := by kernel_rfl
theorem ty_zero_181 : zeroT Try.prog 181 = some [.nilFunc] := by kernel_rfl
theorem ty_plain_182 : plainT Try.prog 182 = true := by kernel_rfl
theorem ty_size_182 : sizeT Try.prog 182 = some 1 := by kernel_rfl
theorem ty_zero_182 : zeroT Try.prog 182 = some [.nilFunc] := by kernel_rfl
theorem ty_plain_183 : plainT Try.prog 183 = true := by kernel_rfl
theorem ty_size_183 : sizeT Try.prog 183 = some 1 := by kernel_rfl
theorem ty_zero_183 : zeroT Try.prog 183 = some [.nilFunc] := by kernel_rfl
theorem ty_agg_184 : aggT Try.prog 184 = true := by kernel_rfl
theorem ty_bld_184 : bldT Try.prog 184 = some ([(0, 2)], [.string ByteArray.empty, .int .i64 0]) := by kernel_rfl
theorem ty_field_184_0 : fieldT Try.prog 184 0 = some (0, 1 + 1) := by kernel_rfl
theorem ty_size_184 : sizeT Try.prog 184 = some 2 := by kernel_rfl
theorem ty_zero_184 : zeroT Try.prog 184 = some [.string ByteArray.empty, .int .i64 0] := by kernel_rfl
theorem ty_agg_185 : aggT Try.prog 185 = true := by kernel_rfl
theorem ty_bld_185 : bldT Try.prog 185 = some ([(0, 2)], [.string ByteArray.empty, .int .i64 0]) := by kernel_rfl
theorem ty_field_185_0 : fieldT Try.prog 185 0 = some (0, 1 + 1) := by kernel_rfl
theorem ty_size_185 : sizeT Try.prog 185 = some 2 := by kernel_rfl
theorem ty_zero_185 : zeroT Try.prog 185 = some [.string ByteArray.empty, .int .i64 0] := by kernel_rfl
theorem ty_plain_186 : plainT Try.prog 186 = true := by kernel_rfl
theorem ty_size_186 : sizeT Try.prog 186 = some 1 := by kernel_rfl
theorem ty_zero_186 : zeroT Try.prog 186 = some [.nilFunc] := by kernel_rfl
theorem ty_plain_187 : plainT Try.prog 187 = true := by kernel_rfl
theorem ty_size_187 : sizeT Try.prog 187 = some 1 := by kernel_rfl
theorem ty_zero_187 : zeroT Try.prog 187 = some [.nilFunc] := by kernel_rfl
theorem ty_plain_188 : plainT Try.prog 188 = true := by kernel_rfl
theorem ty_size_188 : sizeT Try.prog 188 = some 1 := by kernel_rfl
theorem ty_zero_188 : zeroT Try.prog 188 = some [.int .u64 0] := by kernel_rfl
theorem ty_plain_189 : plainT Try.prog 189 = true := by kernel_rfl
theorem ty_size_189 : sizeT Try.prog 189 = some 1 := by kernel_rfl
theorem ty_zero_189 : zeroT Try.prog 189 = some [.nilFunc] := by kernel_rfl
theorem ty_plain_190 : plainT Try.prog 190 = true := by kernel_rfl
theorem ty_size_190 : sizeT Try.prog 190 = some 1 := by kernel_rfl
theorem ty_zero_190 : zeroT Try.prog 190 = some [.nilFunc] := by kernel_rfl
theorem ty_plain_191 : plainT Try.prog 191 = true := by kernel_rfl
theorem ty_size_191 : sizeT Try.prog 191 = some 1 := by kernel_rfl
theorem ty_zero_191 : zeroT Try.prog 191 = some [.nilFunc] := by kernel_rfl
theorem ty_plain_192 : plainT Try.prog 192 = true := by kernel_rfl
theorem ty_size_192 : sizeT Try.prog 192 = some 1 := by kernel_rfl
theorem ty_zero_192 : zeroT Try.prog 192 = some [.pointer none] := by kernel_rfl
theorem ty_plain_193 : plainT Try.prog 193 = true := by kernel_rfl
theorem ty_size_193 : sizeT Try.prog 193 = some 1 := by kernel_rfl
theorem ty_zero_193 : zeroT Try.prog 193 = some [.nilFunc] := by kernel_rfl
theorem ty_plain_194 : plainT Try.prog 194 = true := by kernel_rfl
theorem ty_size_194 : sizeT Try.prog 194 = some 1 := by kernel_rfl
theorem ty_zero_194 : zeroT Try.prog 194 = some [.nilFunc] := by kernel_rfl
theorem ty_plain_195 : plainT Try.prog 195 = true := by kernel_rfl
theorem ty_size_195 : sizeT Try.prog 195 = some 1 := by kernel_rfl
theorem ty_zero_195 : zeroT Try.prog 195 = some [.nilFunc] := by kernel_rfl
theorem ty_plain_196 : plainT Try.prog 196 = true := by kernel_rfl
theorem ty_size_196 : sizeT Try.prog 196 = some 1 := by kernel_rfl
theorem ty_zero_196 : zeroT Try.prog 196 = some [.nilFunc] := by kernel_rfl
theorem ty_plain_197 : plainT Try.prog 197 = true := by kernel_rfl
theorem ty_size_197 : sizeT Try.prog 197 = some 1 := by kernel_rfl
theorem ty_zero_197 : zeroT Try.prog 197 = some [.nilFunc] := by kernel_rfl
theorem ty_plain_198 : plainT Try.prog 198 = true := by kernel_rfl
theorem ty_size_198 : sizeT Try.prog 198 = some 1 := by kernel_rfl
theorem ty_zero_198 : zeroT Try.prog 198 = some [.nilFunc] := by kernel_rfl
theorem ty_plain_199 : plainT Try.prog 199 = true := by kernel_rfl
theorem ty_size_199 : sizeT Try.prog 199 = some 1 := by kernel_rfl
theorem ty_zero_199 : zeroT Try.prog 199 = some [.nilFunc] := by kernel_rfl
theorem ty_plain_200 : plainT Try.prog 200 = true := by kernel_rfl
theorem ty_size_200 : sizeT Try.prog 200 = some 1 := by kernel_rfl
theorem ty_zero_200 : zeroT Try.prog 200 = some [.nilFunc] := by kernel_rfl
theorem ty_plain_201 : plainT Try.prog 201 = true := by kernel_rfl
theorem ty_size_201 : sizeT Try.prog 201 = some 1 := by kernel_rfl
theorem ty_zero_201 : zeroT Try.prog 201 = some [.nilFunc] := by kernel_rfl
theorem ty_plain_202 : plainT Try.prog 202 = true := by kernel_rfl
theorem ty_size_202 : sizeT Try.prog 202 = some 1 := by kernel_rfl
theorem ty_zero_202 : zeroT Try.prog 202 = some [.nilFunc] := by kernel_rfl
theorem ty_plain_203 : plainT Try.prog 203 = true := by kernel_rfl
theorem ty_size_203 : sizeT Try.prog 203 = some 1 := by kernel_rfl
theorem ty_zero_203 : zeroT Try.prog 203 = some [.nilFunc] := by kernel_rfl
theorem ty_plain_204 : plainT Try.prog 204 = true := by kernel_rfl
theorem ty_size_204 : sizeT Try.prog 204 = some 1 := by kernel_rfl
theorem ty_zero_204 : zeroT Try.prog 204 = some [.nilFunc] := by kernel_rfl
theorem ty_plain_205 : plainT Try.prog 205 = true := by kernel_rfl
theorem ty_size_205 : sizeT Try.prog 205 = some 1 := by kernel_rfl
theorem ty_zero_205 : zeroT Try.prog 205 = some [.pointer none] := by kernel_rfl
theorem ty_plain_206 : plainT Try.prog 206 = true := by kernel_rfl
theorem ty_size_206 : sizeT Try.prog 206 = some 1 := by kernel_rfl
theorem ty_zero_206 : zeroT Try.prog 206 = some [.nilFunc] := by kernel_rfl
theorem ty_plain_207 : plainT Try.prog 207 = true := by kernel_rfl
theorem ty_size_207 : sizeT Try.prog 207 = some 1 := by kernel_rfl
theorem ty_zero_207 : zeroT Try.prog 207 = some [.nilFunc] := by kernel_rfl
theorem ty_plain_208 : plainT Try.prog 208 = true := by kernel_rfl
theorem ty_size_208 : sizeT Try.prog 208 = some 1 := by kernel_rfl
theorem ty_zero_208 : zeroT Try.prog 208 = some [.nilFunc] := by kernel_rfl
theorem ty_plain_209 : plainT Try.prog 209 = true := by kernel_rfl
theorem ty_size_209 : sizeT Try.prog 209 = some 1 := by kernel_rfl
theorem ty_zero_209 : zeroT Try.prog 209 = some [.nilFunc] := by kernel_rfl
theorem ty_plain_210 : plainT Try.prog 210 = true := by kernel_rfl
theorem ty_size_210 : sizeT Try.prog 210 = some 1 := by kernel_rfl
theorem ty_zero_210 : zeroT Try.prog 210 = some [.nilFunc] := by kernel_rfl
theorem ty_plain_211 : plainT Try.prog 211 = true := by kernel_rfl
theorem ty_size_211 : sizeT Try.prog 211 = some 1 := by kernel_rfl
theorem ty_zero_211 : zeroT Try.prog 211 = some [.nilFunc] := by kernel_rfl
theorem ty_plain_212 : plainT Try.prog 212 = true := by kernel_rfl
theorem ty_size_212 : sizeT Try.prog 212 = some 1 := by kernel_rfl
theorem ty_zero_212 : zeroT Try.prog 212 = some [.nilFunc] := by kernel_rfl
theorem ty_plain_213 : plainT Try.prog 213 = true := by kernel_rfl
theorem ty_size_213 : sizeT Try.prog 213 = some 1 := by kernel_rfl
theorem ty_zero_213 : zeroT Try.prog 213 = some [.nilFunc] := by kernel_rfl
theorem ty_plain_214 : plainT Try.prog 214 = true := by kernel_rfl
theorem ty_size_214 : sizeT Try.prog 214 = some 1 := by kernel_rfl
theorem ty_zero_214 : zeroT Try.prog 214 = some [.nilFunc] := by kernel_rfl
theorem ty_agg_215 : aggT Try.prog 215 = true := by kernel_rfl
theorem ty_bld_215 : bldT Try.prog 215 = some ([(0, 1), (1, 1), (2, 1), (3, 1)], [.pointer none, .pointer none, .pointer none, .string ByteArray.empty]) := by kernel_rfl
theorem ty_field_215_0 : fieldT Try.prog 215 0 = some (0, 0 + 1) := by kernel_rfl
theorem ty_field_215_1 : fieldT Try.prog 215 1 = some (1, 0 + 1) := by kernel_rfl
theorem ty_field_215_2 : fieldT Try.prog 215 2 = some (2, 0 + 1) := by kernel_rfl
theorem ty_field_215_3 : fieldT Try.prog 215 3 = some (3, 0 + 1) := by kernel_rfl
theorem ty_size_215 : sizeT Try.prog 215 = some 4 := by kernel_rfl
theorem ty_zero_215 : zeroT Try.prog 215 = some [.pointer none, .pointer none, .pointer none, .string ByteArray.empty] := by kernel_rfl
theorem ty_agg_216 : aggT Try.prog 216 = true := by kernel_rfl
theorem ty_bld_216 : bldT Try.prog 216 = some ([(0, 1), (1, 1), (2, 1), (3, 1)], [.pointer none, .pointer none, .pointer none, .string ByteArray.empty]) := by kernel_rfl
theorem ty_field_216_0 : fieldT Try.prog 216 0 = some (0, 0 + 1) := by kernel_rfl
theorem ty_field_216_1 : fieldT Try.prog 216 1 = some (1, 0 + 1) := by kernel_rfl
theorem ty_field_216_2 : fieldT Try.prog 216 2 = some (2, 0 + 1) := by kernel_rfl
theorem ty_field_216_3 : fieldT Try.prog 216 3 = some (3, 0 + 1) := by kernel_rfl
theorem ty_size_216 : sizeT Try.prog 216 = some 4 := by kernel_rfl
theorem ty_zero_216 : zeroT Try.prog 216 = some [.pointer none, .pointer none, .pointer none, .string ByteArray.empty] := by kernel_rfl
theorem ty_agg_217 : aggT Try.prog 217 = true := by kernel_rfl
theorem ty_arr_217 : arrT Try.prog 217 = some (1, []) := by kernel_rfl
theorem ty_size_217 : sizeT Try.prog 217 = some 0 := by kernel_rfl
theorem ty_zero_217 : zeroT Try.prog 217 = some [] := by kernel_rfl
theorem ty_agg_218 : aggT Try.prog 218 = true := by kernel_rfl
theorem ty_bld_218 : bldT Try.prog 218 = some ([(0, 0)], []) := by kernel_rfl
theorem ty_size_218 : sizeT Try.prog 218 = some 0 := by kernel_rfl
theorem ty_zero_218 : zeroT Try.prog 218 = some [] := by kernel_rfl
theorem ty_agg_219 : aggT Try.prog 219 = true := by kernel_rfl
theorem ty_bld_219 : bldT Try.prog 219 = some ([(0, 0)], []) := by kernel_rfl
theorem ty_size_219 : sizeT Try.prog 219 = some 0 := by kernel_rfl
theorem ty_zero_219 : zeroT Try.prog 219 = some [] := by kernel_rfl
theorem ty_plain_220 : plainT Try.prog 220 = true := by kernel_rfl
theorem ty_size_220 : sizeT Try.prog 220 = some 1 := by kernel_rfl
theorem ty_zero_220 : zeroT Try.prog 220 = some [.int .u8 0] := by kernel_rfl
theorem ty_plain_221 : plainT Try.prog 221 = true := by kernel_rfl
theorem ty_size_221 : sizeT Try.prog 221 = some 1 := by kernel_rfl
theorem ty_zero_221 : zeroT Try.prog 221 = some [.int .u8 0] := by kernel_rfl
theorem ty_plain_222 : plainT Try.prog 222 = true := by kernel_rfl
theorem ty_size_222 : sizeT Try.prog 222 = some 1 := by kernel_rfl
theorem ty_zero_222 : zeroT Try.prog 222 = some [.nilFunc] := by kernel_rfl
theorem ty_plain_223 : plainT Try.prog 223 = true := by kernel_rfl
theorem ty_size_223 : sizeT Try.prog 223 = some 1 := by kernel_rfl
theorem ty_zero_223 : zeroT Try.prog 223 = some [.int .i32 0] := by kernel_rfl
theorem ty_plain_224 : plainT Try.prog 224 = true := by kernel_rfl
theorem ty_size_224 : sizeT Try.prog 224 = some 1 := by kernel_rfl
theorem ty_zero_224 : zeroT Try.prog 224 = some [.int .i32 0] := by kernel_rfl
theorem ty_agg_225 : aggT Try.prog 225 = true := by kernel_rfl
theorem ty_bld_225 : bldT Try.prog 225 = some ([(0, 1), (1, 1), (2, 1), (3, 1), (4, 1), (5, 1), (6, 1), (7, 1), (8, 1), (9, 1), (10, 1)], [.int .u64 0, .int .u64 0, .int .u32 0, .int .u8 0, .int .u8 0, .int .u8 0, .int .u8 0, .nilFunc, .pointer none, .int .i32 0, .int .i32 0]) := by kernel_rfl
theorem ty_field_225_0 : fieldT Try.prog 225 0 = some (0, 0 + 1) := by kernel_rfl
theorem ty_field_225_1 : fieldT Try.prog 225 1 = some (1, 0 + 1) := by kernel_rfl
theorem ty_field_225_2 : fieldT Try.prog 225 2 = some (2, 0 + 1) := by kernel_rfl
theorem ty_field_225_3 : fieldT Try.prog 225 3 = some (3, 0 + 1) := by kernel_rfl
theorem ty_field_225_4 : fieldT Try.prog 225 4 = some (4, 0 + 1) := by kernel_rfl
theorem ty_field_225_5 : fieldT Try.prog 225 5 = some (5, 0 + 1) := by kernel_rfl
theorem ty_field_225_6 : fieldT Try.prog 225 6 = some (6, 0 + 1) := by kernel_rfl
theorem ty_field_225_7 : fieldT Try.prog 225 7 = some (7, 0 + 1) := by kernel_rfl
theorem ty_field_225_8 : fieldT Try.prog 225 8 = some (8, 0 + 1) := by kernel_rfl
theorem ty_field_225_9 : fieldT Try.prog 225 9 = some (9, 0 + 1) := by kernel_rfl
theorem ty_field_225_10 : fieldT Try.prog 225 10 = some (10, 0 + 1) := by kernel_rfl
theorem ty_size_225 : sizeT Try.prog 225 = some 11 := by kernel_rfl
theorem ty_zero_225 : zeroT Try.prog 225 = some [.int .u64 0, .int .u64 0, .int .u32 0, .int .u8 0, .int .u8 0, .int .u8 0, .int .u8 0, .nilFunc, .pointer none, .int .i32 0, .int .i32 0] := by kernel_rfl
theorem ty_agg_226 : aggT Try.prog 226 = true := by kernel_rfl
theorem ty_bld_226 : bldT Try.prog 226 = some ([(0, 1), (1, 1), (2, 1), (3, 1), (4, 1), (5, 1), (6, 1), (7, 1), (8, 1), (9, 1), (10, 1)], [.int .u64 0, .int .u64 0, .int .u32 0, .int .u8 0, .int .u8 0, .int .u8 0, .int .u8 0, .nilFunc, .pointer none, .int .i32 0, .int .i32 0]) := by kernel_rfl
theorem ty_field_226_0 : fieldT Try.prog 226 0 = some (0, 0 + 1) := by kernel_rfl
theorem ty_field_226_1 : fieldT Try.prog 226 1 = some (1, 0 + 1) := by kernel_rfl
theorem ty_field_226_2 : fieldT Try.prog 226 2 = some (2, 0 + 1) := by kernel_rfl
theorem ty_field_226_3 : fieldT Try.prog 226 3 = some (3, 0 + 1) := by kernel_rfl
theorem ty_field_226_4 : fieldT Try.prog 226 4 = some (4, 0 + 1) := by kernel_rfl
theorem ty_field_226_5 : fieldT Try.prog 226 5 = some (5, 0 + 1) := by kernel_rfl
theorem ty_field_226_6 : fieldT Try.prog 226 6 = some (6, 0 + 1) := by kernel_rfl
theorem ty_field_226_7 : fieldT Try.prog 226 7 = some (7, 0 + 1) := by kernel_rfl
theorem ty_field_226_8 : fieldT Try.prog 226 8 = some (8, 0 + 1) := by kernel_rfl
theorem ty_field_226_9 : fieldT Try.prog 226 9 = some (9, 0 + 1) := by kernel_rfl
theorem ty_field_226_10 : fieldT Try.prog 226 10 = some (10, 0 + 1) := by kernel_rfl
theorem ty_size_226 : sizeT Try.prog 226 = some 11 := by kernel_rfl
theorem ty_zero_226 : zeroT Try.prog 226 = some [.int .u64 0, .int .u64 0, .int .u32 0, .int .u8 0, .int .u8 0, .int .u8 0, .int .u8 0, .nilFunc, .pointer none, .int .i32 0, .int .i32 0] := by kernel_rfl
theorem ty_size_227 : sizeT Try.prog 227 = some 1 := by kernel_rfl
theorem ty_zero_227 : zeroT Try.prog 227 = some [.pointer none] := by kernel_rfl
theorem go_3 : goFn Try.prog 3 = true := by kernel_rfl
theorem go_4 : goFn Try.prog 4 = true := by kernel_rfl
theorem go_5 : goFn Try.prog 5 = true := by kernel_rfl
theorem go_6 : goFn Try.prog 6 = true := by kernel_rfl
theorem go_7 : goFn Try.prog 7 = true := by kernel_rfl
theorem go_8 : goFn Try.prog 8 = true := by kernel_rfl
theorem go_9 : goFn Try.prog 9 = true := by kernel_rfl
theorem go_10 : goFn Try.prog 10 = true := by kernel_rfl
theorem go_11 : goFn Try.prog 11 = true := by kernel_rfl
theorem go_12 : goFn Try.prog 12 = true := by kernel_rfl
theorem go_13 : goFn Try.prog 13 = true := by kernel_rfl
theorem go_14 : goFn Try.prog 14 = true := by kernel_rfl
theorem go_15 : goFn Try.prog 15 = true := by kernel_rfl
theorem go_16 : goFn Try.prog 16 = true := by kernel_rfl
theorem go_17 : goFn Try.prog 17 = true := by kernel_rfl
theorem go_18 : goFn Try.prog 18 = true := by kernel_rfl
theorem go_19 : goFn Try.prog 19 = true := by kernel_rfl
theorem go_20 : goFn Try.prog 20 = true := by kernel_rfl
theorem go_21 : goFn Try.prog 21 = true := by kernel_rfl
theorem go_22 : goFn Try.prog 22 = true := by kernel_rfl
theorem go_23 : goFn Try.prog 23 = true := by kernel_rfl
theorem go_24 : goFn Try.prog 24 = true := by kernel_rfl
theorem go_25 : goFn Try.prog 25 = true := by kernel_rfl
theorem go_26 : goFn Try.prog 26 = true := by kernel_rfl
theorem go_27 : goFn Try.prog 27 = true := by kernel_rfl
theorem go_28 : goFn Try.prog 28 = true := by kernel_rfl
theorem go_29 : goFn Try.prog 29 = true := by kernel_rfl
theorem go_30 : goFn Try.prog 30 = true := by kernel_rfl
theorem go_31 : goFn Try.prog 31 = true := by kernel_rfl
theorem go_32 : goFn Try.prog 32 = true := by kernel_rfl
theorem go_33 : goFn Try.prog 33 = true := by kernel_rfl
theorem go_34 : goFn Try.prog 34 = true := by kernel_rfl
theorem go_35 : goFn Try.prog 35 = true := by kernel_rfl
theorem go_36 : goFn Try.prog 36 = true := by kernel_rfl
theorem go_37 : goFn Try.prog 37 = true := by kernel_rfl
theorem go_38 : goFn Try.prog 38 = true := by kernel_rfl
theorem go_39 : goFn Try.prog 39 = true := by kernel_rfl
theorem go_40 : goFn Try.prog 40 = true := by kernel_rfl
theorem go_41 : goFn Try.prog 41 = true := by kernel_rfl
theorem go_42 : goFn Try.prog 42 = true := by kernel_rfl
theorem go_43 : goFn Try.prog 43 = true := by kernel_rfl
theorem go_44 : goFn Try.prog 44 = true := by kernel_rfl
theorem go_45 : goFn Try.prog 45 = true := by kernel_rfl
theorem go_46 : goFn Try.prog 46 = true := by kernel_rfl
theorem go_47 : goFn Try.prog 47 = true := by kernel_rfl
theorem go_48 : goFn Try.prog 48 = true := by kernel_rfl
theorem go_49 : goFn Try.prog 49 = true := by kernel_rfl
theorem go_50 : goFn Try.prog 50 = true := by kernel_rfl
theorem go_51 : goFn Try.prog 51 = true := by kernel_rfl
theorem go_52 : goFn Try.prog 52 = true := by kernel_rfl
theorem go_53 : goFn Try.prog 53 = true := by kernel_rfl
theorem go_54 : goFn Try.prog 54 = true := by kernel_rfl
theorem go_55 : goFn Try.prog 55 = true := by kernel_rfl
theorem go_56 : goFn Try.prog 56 = true := by kernel_rfl
theorem go_57 : goFn Try.prog 57 = true := by kernel_rfl
theorem go_58 : goFn Try.prog 58 = true := by kernel_rfl
theorem go_59 : goFn Try.prog 59 = true := by kernel_rfl
theorem go_60 : goFn Try.prog 60 = true := by kernel_rfl
theorem go_61 : goFn Try.prog 61 = true := by kernel_rfl
theorem go_62 : goFn Try.prog 62 = true := by kernel_rfl
theorem go_63 : goFn Try.prog 63 = true := by kernel_rfl
theorem go_64 : goFn Try.prog 64 = true := by kernel_rfl
theorem go_65 : goFn Try.prog 65 = true := by kernel_rfl
theorem go_66 : goFn Try.prog 66 = true := by kernel_rfl
theorem go_67 : goFn Try.prog 67 = true := by kernel_rfl
theorem go_68 : goFn Try.prog 68 = true := by kernel_rfl
theorem go_69 : goFn Try.prog 69 = true := by kernel_rfl
theorem go_70 : goFn Try.prog 70 = true := by kernel_rfl
theorem go_71 : goFn Try.prog 71 = true := by kernel_rfl
theorem go_72 : goFn Try.prog 72 = true := by kernel_rfl
theorem go_73 : goFn Try.prog 73 = true := by kernel_rfl
theorem go_74 : goFn Try.prog 74 = true := by kernel_rfl
theorem go_75 : goFn Try.prog 75 = true := by kernel_rfl
theorem go_76 : goFn Try.prog 76 = true := by kernel_rfl
theorem go_77 : goFn Try.prog 77 = true := by kernel_rfl
theorem go_78 : goFn Try.prog 78 = true := by kernel_rfl
theorem go_79 : goFn Try.prog 79 = true := by kernel_rfl
theorem go_80 : goFn Try.prog 80 = true := by kernel_rfl
theorem go_81 : goFn Try.prog 81 = true := by kernel_rfl
theorem go_82 : goFn Try.prog 82 = true := by kernel_rfl
theorem go_83 : goFn Try.prog 83 = true := by kernel_rfl
theorem go_84 : goFn Try.prog 84 = true := by kernel_rfl
theorem go_85 : goFn Try.prog 85 = true := by kernel_rfl
theorem go_86 : goFn Try.prog 86 = true := by kernel_rfl
theorem go_87 : goFn Try.prog 87 = true := by kernel_rfl
theorem go_88 : goFn Try.prog 88 = true := by kernel_rfl
theorem go_89 : goFn Try.prog 89 = true := by kernel_rfl
theorem go_90 : goFn Try.prog 90 = true := by kernel_rfl
theorem go_91 : goFn Try.prog 91 = true := by kernel_rfl
theorem go_92 : goFn Try.prog 92 = true := by kernel_rfl
theorem go_93 : goFn Try.prog 93 = true := by kernel_rfl
theorem go_94 : goFn Try.prog 94 = true := by kernel_rfl
theorem go_95 : goFn Try.prog 95 = true := by kernel_rfl
theorem go_96 : goFn Try.prog 96 = true := by kernel_rfl
theorem go_97 : goFn Try.prog 97 = true := by kernel_rfl
theorem go_98 : goFn Try.prog 98 = true := by kernel_rfl
theorem go_99 : goFn Try.prog 99 = true := by kernel_rfl
theorem go_100 : goFn Try.prog 100 = true := by kernel_rfl
theorem go_101 : goFn Try.prog 101 = true := by kernel_rfl
theorem go_102 : goFn Try.prog 102 = true := by kernel_rfl
theorem go_103 : goFn Try.prog 103 = true := by kernel_rfl
theorem go_104 : goFn Try.prog 104 = true := by kernel_rfl
theorem go_105 : goFn Try.prog 105 = true := by kernel_rfl
theorem go_106 : goFn Try.prog 106 = true := by kernel_rfl
theorem go_107 : goFn Try.prog 107 = true := by kernel_rfl
theorem go_108 : goFn Try.prog 108 = true := by kernel_rfl
theorem go_109 : goFn Try.prog 109 = true := by kernel_rfl
theorem go_110 : goFn Try.prog 110 = true := by kernel_rfl
theorem go_111 : goFn Try.prog 111 = true := by kernel_rfl
theorem go_112 : goFn Try.prog 112 = true := by kernel_rfl
theorem go_113 : goFn Try.prog 113 = true := by kernel_rfl
theorem go_114 : goFn Try.prog 114 = true := by kernel_rfl
theorem go_115 : goFn Try.prog 115 = true := by kernel_rfl
theorem go_116 : goFn Try.prog 116 = true := by kernel_rfl
theorem go_117 : goFn Try.prog 117 = true := by kernel_rfl
theorem go_118 : goFn Try.prog 118 = true := by kernel_rfl
theorem go_119 : goFn Try.prog 119 = true := by kernel_rfl
theorem go_120 : goFn Try.prog 120 = true := by kernel_rfl
theorem go_121 : goFn Try.prog 121 = true := by kernel_rfl
theorem go_122 : goFn Try.prog 122 = true := by kernel_rfl
theorem go_123 : goFn Try.prog 123 = true := by kernel_rfl
theorem go_124 : goFn Try.prog 124 = true := by kernel_rfl
theorem go_125 : goFn Try.prog 125 = true := by kernel_rfl
theorem go_126 : goFn Try.prog 126 = true := by kernel_rfl
theorem go_127 : goFn Try.prog 127 = true := by kernel_rfl
theorem go_128 : goFn Try.prog 128 = true := by kernel_rfl
theorem go_129 : goFn Try.prog 129 = true := by kernel_rfl
theorem go_130 : goFn Try.prog 130 = true := by kernel_rfl
theorem go_131 : goFn Try.prog 131 = true := by kernel_rfl
theorem go_132 : goFn Try.prog 132 = true := by kernel_rfl
theorem go_133 : goFn Try.prog 133 = true := by kernel_rfl
theorem go_134 : goFn Try.prog 134 = true := by kernel_rfl
theorem go_135 : goFn Try.prog 135 = true := by kernel_rfl
theorem go_136 : goFn Try.prog 136 = true := by kernel_rfl
theorem go_137 : goFn Try.prog 137 = true := by kernel_rfl
theorem go_138 : goFn Try.prog 138 = true := by kernel_rfl
theorem go_139 : goFn Try.prog 139 = true := by kernel_rfl
theorem go_140 : goFn Try.prog 140 = true := by kernel_rfl
theorem go_141 : goFn Try.prog 141 = true := by kernel_rfl
theorem go_142 : goFn Try.prog 142 = true := by kernel_rfl
theorem go_143 : goFn Try.prog 143 = true := by kernel_rfl
theorem go_144 : goFn Try.prog 144 = true := by kernel_rfl
theorem go_145 : goFn Try.prog 145 = true := by kernel_rfl
theorem go_146 : goFn Try.prog 146 = true := by kernel_rfl
theorem go_147 : goFn Try.prog 147 = true := by kernel_rfl
theorem go_148 : goFn Try.prog 148 = true := by kernel_rfl
theorem go_149 : goFn Try.prog 149 = true := by kernel_rfl
theorem go_150 : goFn Try.prog 150 = true := by kernel_rfl
theorem go_151 : goFn Try.prog 151 = true := by kernel_rfl
theorem go_152 : goFn Try.prog 152 = true := by kernel_rfl
theorem go_153 : goFn Try.prog 153 = true := by kernel_rfl
theorem go_154 : goFn Try.prog 154 = true := by kernel_rfl
theorem go_155 : goFn Try.prog 155 = true := by kernel_rfl
theorem go_156 : goFn Try.prog 156 = true := by kernel_rfl
theorem go_157 : goFn Try.prog 157 = true := by kernel_rfl
theorem go_158 : goFn Try.prog 158 = true := by kernel_rfl
theorem go_159 : goFn Try.prog 159 = true := by kernel_rfl
theorem go_160 : goFn Try.prog 160 = true := by kernel_rfl
theorem go_161 : goFn Try.prog 161 = true := by kernel_rfl
theorem go_162 : goFn Try.prog 162 = true := by kernel_rfl
theorem go_163 : goFn Try.prog 163 = true := by kernel_rfl
theorem go_164 : goFn Try.prog 164 = true := by kernel_rfl
theorem go_165 : goFn Try.prog 165 = true := by kernel_rfl
theorem go_166 : goFn Try.prog 166 = true := by kernel_rfl
theorem go_167 : goFn Try.prog 167 = true := by kernel_rfl
theorem go_168 : goFn Try.prog 168 = true := by kernel_rfl
theorem go_169 : goFn Try.prog 169 = true := by kernel_rfl
theorem go_170 : goFn Try.prog 170 = true := by kernel_rfl
theorem go_171 : goFn Try.prog 171 = true := by kernel_rfl
theorem go_172 : goFn Try.prog 172 = true := by kernel_rfl
theorem go_173 : goFn Try.prog 173 = true := by kernel_rfl
theorem go_174 : goFn Try.prog 174 = true := by kernel_rfl
theorem go_175 : goFn Try.prog 175 = true := by kernel_rfl
theorem go_176 : goFn Try.prog 176 = true := by kernel_rfl
theorem go_177 : goFn Try.prog 177 = true := by kernel_rfl
theorem go_178 : goFn Try.prog 178 = true := by kernel_rfl
theorem go_179 : goFn Try.prog 179 = true := by kernel_rfl
theorem go_180 : goFn Try.prog 180 = true := by kernel_rfl
theorem go_181 : goFn Try.prog 181 = true := by kernel_rfl
theorem go_182 : goFn Try.prog 182 = true := by kernel_rfl
theorem go_183 : goFn Try.prog 183 = true := by kernel_rfl
theorem go_184 : goFn Try.prog 184 = true := by kernel_rfl
theorem go_185 : goFn Try.prog 185 = true := by kernel_rfl
theorem go_186 : goFn Try.prog 186 = true := by kernel_rfl
theorem go_187 : goFn Try.prog 187 = true := by kernel_rfl
theorem go_188 : goFn Try.prog 188 = true := by kernel_rfl
theorem go_189 : goFn Try.prog 189 = true := by kernel_rfl
theorem go_190 : goFn Try.prog 190 = true := by kernel_rfl
theorem go_191 : goFn Try.prog 191 = true := by kernel_rfl
theorem go_192 : goFn Try.prog 192 = true := by kernel_rfl
theorem go_193 : goFn Try.prog 193 = true := by kernel_rfl
theorem go_194 : goFn Try.prog 194 = true := by kernel_rfl
theorem go_195 : goFn Try.prog 195 = true := by kernel_rfl
theorem go_196 : goFn Try.prog 196 = true := by kernel_rfl
theorem go_197 : goFn Try.prog 197 = true := by kernel_rfl
theorem go_198 : goFn Try.prog 198 = true := by kernel_rfl
theorem go_199 : goFn Try.prog 199 = true := by kernel_rfl
theorem go_200 : goFn Try.prog 200 = true := by kernel_rfl
theorem go_201 : goFn Try.prog 201 = true := by kernel_rfl
theorem go_202 : goFn Try.prog 202 = true := by kernel_rfl
theorem go_203 : goFn Try.prog 203 = true := by kernel_rfl
theorem go_204 : goFn Try.prog 204 = true := by kernel_rfl
theorem go_205 : goFn Try.prog 205 = true := by kernel_rfl
theorem go_206 : goFn Try.prog 206 = true := by kernel_rfl
theorem go_207 : goFn Try.prog 207 = true := by kernel_rfl
theorem go_208 : goFn Try.prog 208 = true := by kernel_rfl
theorem go_209 : goFn Try.prog 209 = true := by kernel_rfl
theorem go_210 : goFn Try.prog 210 = true := by kernel_rfl
theorem go_211 : goFn Try.prog 211 = true := by kernel_rfl
theorem go_212 : goFn Try.prog 212 = true := by kernel_rfl
end Mv
end Go.Proofs.Ytgidjbpgkeemiaa
