/-
  What the program's types and functions are: closed facts, printed by walk.py.
-/
import Derived.Test.YtddabbfjoejalaaMem
namespace Go.Proofs.Ytddabbfjoejalaa
open Mv
namespace Mv
theorem mixed : Try.prog.follows .mixedOrders = true := by kernel_rfl
theorem ty_plain_1 : plainT Try.prog 1 = true := by kernel_rfl
theorem ty_size_1 : sizeT Try.prog 1 = some 1 := by kernel_rfl
theorem ty_zero_1 : zeroT Try.prog 1 = some [.nilFunc] := by kernel_rfl
theorem ty_plain_2 : plainT Try.prog 2 = true := by kernel_rfl
theorem ty_size_2 : sizeT Try.prog 2 = some 1 := by kernel_rfl
theorem ty_zero_2 : zeroT Try.prog 2 = some [.int .i64 0] := by kernel_rfl
theorem ty_plain_3 : plainT Try.prog 3 = true := by kernel_rfl
theorem ty_size_3 : sizeT Try.prog 3 = some 1 := by kernel_rfl
theorem ty_zero_3 : zeroT Try.prog 3 = some [.int .i64 0] := by kernel_rfl
theorem ty_plain_4 : plainT Try.prog 4 = true := by kernel_rfl
theorem ty_size_4 : sizeT Try.prog 4 = some 1 := by kernel_rfl
theorem ty_zero_4 : zeroT Try.prog 4 = some [.bool false] := by kernel_rfl
theorem ty_plain_5 : plainT Try.prog 5 = true := by kernel_rfl
theorem ty_size_5 : sizeT Try.prog 5 = some 1 := by kernel_rfl
theorem ty_zero_5 : zeroT Try.prog 5 = some [.int .u8 0] := by kernel_rfl
theorem ty_plain_6 : plainT Try.prog 6 = true := by kernel_rfl
theorem ty_size_6 : sizeT Try.prog 6 = some 1 := by kernel_rfl
theorem ty_zero_6 : zeroT Try.prog 6 = some [.int .u8 0] := by kernel_rfl
theorem ty_agg_7 : aggT Try.prog 7 = true := by kernel_rfl
theorem ty_bld_7 : bldT Try.prog 7 = some ([(0, 1), (1, 1), (2, 1), (3, 1)], [.int .i64 0, .int .i64 0, .bool false, .int .u8 0]) := by kernel_rfl
theorem ty_field_7_0 : fieldT Try.prog 7 0 = some (0, 0 + 1) := by kernel_rfl
theorem ty_field_7_1 : fieldT Try.prog 7 1 = some (1, 0 + 1) := by kernel_rfl
theorem ty_field_7_2 : fieldT Try.prog 7 2 = some (2, 0 + 1) := by kernel_rfl
theorem ty_field_7_3 : fieldT Try.prog 7 3 = some (3, 0 + 1) := by kernel_rfl
theorem ty_size_7 : sizeT Try.prog 7 = some 4 := by kernel_rfl
theorem ty_zero_7 : zeroT Try.prog 7 = some [.int .i64 0, .int .i64 0, .bool false, .int .u8 0] := by kernel_rfl
theorem ty_agg_8 : aggT Try.prog 8 = true := by kernel_rfl
theorem ty_bld_8 : bldT Try.prog 8 = some ([(0, 1), (1, 1), (2, 1), (3, 1)], [.int .i64 0, .int .i64 0, .bool false, .int .u8 0]) := by kernel_rfl
theorem ty_field_8_0 : fieldT Try.prog 8 0 = some (0, 0 + 1) := by kernel_rfl
theorem ty_field_8_1 : fieldT Try.prog 8 1 = some (1, 0 + 1) := by kernel_rfl
theorem ty_field_8_2 : fieldT Try.prog 8 2 = some (2, 0 + 1) := by kernel_rfl
theorem ty_field_8_3 : fieldT Try.prog 8 3 = some (3, 0 + 1) := by kernel_rfl
theorem ty_size_8 : sizeT Try.prog 8 = some 4 := by kernel_rfl
theorem ty_zero_8 : zeroT Try.prog 8 = some [.int .i64 0, .int .i64 0, .bool false, .int .u8 0] := by kernel_rfl
theorem ty_plain_9 : plainT Try.prog 9 = true := by kernel_rfl
theorem ty_size_9 : sizeT Try.prog 9 = some 1 := by kernel_rfl
theorem ty_str_9 : strT Try.prog 9 = true := by kernel_rfl
theorem ty_zero_9 : zeroT Try.prog 9 = some [.string ByteArray.empty] := by kernel_rfl
theorem ty_plain_10 : plainT Try.prog 10 = true := by kernel_rfl
theorem ty_size_10 : sizeT Try.prog 10 = some 1 := by kernel_rfl
theorem ty_str_10 : strT Try.prog 10 = true := by kernel_rfl
theorem ty_zero_10 : zeroT Try.prog 10 = some [.string ByteArray.empty] := by kernel_rfl
theorem ty_plain_11 : plainT Try.prog 11 = true := by kernel_rfl
theorem ty_size_11 : sizeT Try.prog 11 = some 1 := by kernel_rfl
theorem ty_str_11 : strT Try.prog 11 = true := by kernel_rfl
theorem ty_zero_11 : zeroT Try.prog 11 = some [.string ByteArray.empty] := by kernel_rfl
theorem ty_plain_12 : plainT Try.prog 12 = true := by kernel_rfl
theorem ty_size_12 : sizeT Try.prog 12 = some 1 := by kernel_rfl
theorem ty_zero_12 : zeroT Try.prog 12 = some [.int .u64 0] := by kernel_rfl
theorem ty_agg_13 : aggT Try.prog 13 = true := by kernel_rfl
theorem ty_bld_13 : bldT Try.prog 13 = some ([(0, 1), (1, 1)], [.string ByteArray.empty, .int .u64 0]) := by kernel_rfl
theorem ty_field_13_0 : fieldT Try.prog 13 0 = some (0, 0 + 1) := by kernel_rfl
theorem ty_field_13_1 : fieldT Try.prog 13 1 = some (1, 0 + 1) := by kernel_rfl
theorem ty_size_13 : sizeT Try.prog 13 = some 2 := by kernel_rfl
theorem ty_zero_13 : zeroT Try.prog 13 = some [.string ByteArray.empty, .int .u64 0] := by kernel_rfl
theorem ty_agg_14 : aggT Try.prog 14 = true := by kernel_rfl
theorem ty_bld_14 : bldT Try.prog 14 = some ([(0, 1), (1, 1)], [.string ByteArray.empty, .int .u64 0]) := by kernel_rfl
theorem ty_field_14_0 : fieldT Try.prog 14 0 = some (0, 0 + 1) := by kernel_rfl
theorem ty_field_14_1 : fieldT Try.prog 14 1 = some (1, 0 + 1) := by kernel_rfl
theorem ty_size_14 : sizeT Try.prog 14 = some 2 := by kernel_rfl
theorem ty_zero_14 : zeroT Try.prog 14 = some [.string ByteArray.empty, .int .u64 0] := by kernel_rfl
theorem ty_plain_15 : plainT Try.prog 15 = true := by kernel_rfl
theorem ty_size_15 : sizeT Try.prog 15 = some 1 := by kernel_rfl
theorem ty_zero_15 : zeroT Try.prog 15 = some [.pointer none] := by kernel_rfl
theorem ty_plain_16 : plainT Try.prog 16 = true := by kernel_rfl
theorem ty_size_16 : sizeT Try.prog 16 = some 1 := by kernel_rfl
theorem ty_zero_16 : zeroT Try.prog 16 = some [.pointer none] := by kernel_rfl
theorem ty_plain_17 : plainT Try.prog 17 = true := by kernel_rfl
theorem ty_size_17 : sizeT Try.prog 17 = some 1 := by kernel_rfl
theorem ty_zero_17 : zeroT Try.prog 17 = some [.pointer none] := by kernel_rfl
theorem ty_agg_18 : aggT Try.prog 18 = true := by kernel_rfl
theorem ty_bld_18 : bldT Try.prog 18 = some ([(0, 1)], [.pointer none]) := by kernel_rfl
theorem ty_field_18_0 : fieldT Try.prog 18 0 = some (0, 0 + 1) := by kernel_rfl
theorem ty_size_18 : sizeT Try.prog 18 = some 1 := by kernel_rfl
theorem ty_zero_18 : zeroT Try.prog 18 = some [.pointer none] := by kernel_rfl
theorem ty_agg_19 : aggT Try.prog 19 = true := by kernel_rfl
theorem ty_bld_19 : bldT Try.prog 19 = some ([(0, 1)], [.pointer none]) := by kernel_rfl
theorem ty_field_19_0 : fieldT Try.prog 19 0 = some (0, 0 + 1) := by kernel_rfl
theorem ty_size_19 : sizeT Try.prog 19 = some 1 := by kernel_rfl
theorem ty_zero_19 : zeroT Try.prog 19 = some [.pointer none] := by kernel_rfl
theorem ty_plain_20 : plainT Try.prog 20 = true := by kernel_rfl
theorem ty_size_20 : sizeT Try.prog 20 = some 1 := by kernel_rfl
theorem ty_zero_20 : zeroT Try.prog 20 = some [.nilIface] := by kernel_rfl
theorem ty_plain_21 : plainT Try.prog 21 = true := by kernel_rfl
theorem ty_size_21 : sizeT Try.prog 21 = some 1 := by kernel_rfl
theorem ty_zero_21 : zeroT Try.prog 21 = some [.int .i32 0] := by kernel_rfl
theorem ty_plain_22 : plainT Try.prog 22 = true := by kernel_rfl
theorem ty_size_22 : sizeT Try.prog 22 = some 1 := by kernel_rfl
theorem ty_zero_22 : zeroT Try.prog 22 = some [.slice none 0 0] := by kernel_rfl
theorem ty_sl_22 : slT Try.prog 22 = some (32, 1, 24, [.slice none 0 0]) := by kernel_rfl
theorem ty_plain_23 : plainT Try.prog 23 = true := by kernel_rfl
theorem ty_size_23 : sizeT Try.prog 23 = some 1 := by kernel_rfl
theorem ty_zero_23 : zeroT Try.prog 23 = some [.slice none 0 0] := by kernel_rfl
theorem ty_sl_23 : slT Try.prog 23 = some (3, 1, 8, [.int .i64 0]) := by kernel_rfl
theorem ty_agg_24 : aggT Try.prog 24 = true := by kernel_rfl
theorem ty_bld_24 : bldT Try.prog 24 = some ([(0, 1), (1, 1)], [.slice none 0 0, .slice none 0 0]) := by kernel_rfl
theorem ty_field_24_0 : fieldT Try.prog 24 0 = some (0, 0 + 1) := by kernel_rfl
theorem ty_field_24_1 : fieldT Try.prog 24 1 = some (1, 0 + 1) := by kernel_rfl
theorem ty_size_24 : sizeT Try.prog 24 = some 2 := by kernel_rfl
theorem ty_zero_24 : zeroT Try.prog 24 = some [.slice none 0 0, .slice none 0 0] := by kernel_rfl
theorem ty_agg_25 : aggT Try.prog 25 = true := by kernel_rfl
theorem ty_bld_25 : bldT Try.prog 25 = some ([(0, 1), (1, 1)], [.slice none 0 0, .slice none 0 0]) := by kernel_rfl
theorem ty_field_25_0 : fieldT Try.prog 25 0 = some (0, 0 + 1) := by kernel_rfl
theorem ty_field_25_1 : fieldT Try.prog 25 1 = some (1, 0 + 1) := by kernel_rfl
theorem ty_size_25 : sizeT Try.prog 25 = some 2 := by kernel_rfl
theorem ty_zero_25 : zeroT Try.prog 25 = some [.slice none 0 0, .slice none 0 0] := by kernel_rfl
theorem ty_plain_26 : plainT Try.prog 26 = true := by kernel_rfl
theorem ty_size_26 : sizeT Try.prog 26 = some 1 := by kernel_rfl
theorem ty_zero_26 : zeroT Try.prog 26 = some [.int .i64 0] := by kernel_rfl
theorem ty_plain_28 : plainT Try.prog 28 = true := by kernel_rfl
theorem ty_size_28 : sizeT Try.prog 28 = some 1 := by kernel_rfl
theorem ty_zero_28 : zeroT Try.prog 28 = some [.nilFunc] := by kernel_rfl
theorem ty_plain_29 : plainT Try.prog 29 = true := by kernel_rfl
theorem ty_size_29 : sizeT Try.prog 29 = some 1 := by kernel_rfl
theorem ty_zero_29 : zeroT Try.prog 29 = some [.nilFunc] := by kernel_rfl
theorem ty_plain_30 : plainT Try.prog 30 = true := by kernel_rfl
theorem ty_size_30 : sizeT Try.prog 30 = some 1 := by kernel_rfl
theorem ty_zero_30 : zeroT Try.prog 30 = some [.nilFunc] := by kernel_rfl
theorem ty_plain_31 : plainT Try.prog 31 = true := by kernel_rfl
theorem ty_size_31 : sizeT Try.prog 31 = some 1 := by kernel_rfl
theorem ty_zero_31 : zeroT Try.prog 31 = some [.nilFunc] := by kernel_rfl
theorem ty_plain_32 : plainT Try.prog 32 = true := by kernel_rfl
theorem ty_size_32 : sizeT Try.prog 32 = some 1 := by kernel_rfl
theorem ty_zero_32 : zeroT Try.prog 32 = some [.slice none 0 0] := by kernel_rfl
theorem ty_sl_32 : slT Try.prog 32 = some (59, 1, 8, [.int .u64 0]) := by kernel_rfl
theorem ty_plain_33 : plainT Try.prog 33 = true := by kernel_rfl
theorem ty_size_33 : sizeT Try.prog 33 = some 1 := by kernel_rfl
theorem ty_zero_33 : zeroT Try.prog 33 = some [.nilFunc] := by kernel_rfl
theorem ty_plain_35 : plainT Try.prog 35 = true := by kernel_rfl
theorem ty_size_35 : sizeT Try.prog 35 = some 1 := by kernel_rfl
theorem ty_zero_35 : zeroT Try.prog 35 = some [.nilFunc] := by kernel_rfl
theorem ty_plain_36 : plainT Try.prog 36 = true := by kernel_rfl
theorem ty_size_36 : sizeT Try.prog 36 = some 1 := by kernel_rfl
theorem ty_zero_36 : zeroT Try.prog 36 = some [.nilFunc] := by kernel_rfl
theorem ty_plain_38 : plainT Try.prog 38 = true := by kernel_rfl
theorem ty_size_38 : sizeT Try.prog 38 = some 1 := by kernel_rfl
theorem ty_zero_38 : zeroT Try.prog 38 = some [.nilFunc] := by kernel_rfl
theorem ty_plain_39 : plainT Try.prog 39 = true := by kernel_rfl
theorem ty_size_39 : sizeT Try.prog 39 = some 1 := by kernel_rfl
theorem ty_zero_39 : zeroT Try.prog 39 = some [.nilFunc] := by kernel_rfl
theorem ty_plain_40 : plainT Try.prog 40 = true := by kernel_rfl
theorem ty_size_40 : sizeT Try.prog 40 = some 1 := by kernel_rfl
theorem ty_zero_40 : zeroT Try.prog 40 = some [.nilFunc] := by kernel_rfl
theorem ty_plain_41 : plainT Try.prog 41 = true := by kernel_rfl
theorem ty_size_41 : sizeT Try.prog 41 = some 1 := by kernel_rfl
theorem ty_zero_41 : zeroT Try.prog 41 = some [.nilFunc] := by kernel_rfl
theorem ty_plain_42 : plainT Try.prog 42 = true := by kernel_rfl
theorem ty_size_42 : sizeT Try.prog 42 = some 1 := by kernel_rfl
theorem ty_zero_42 : zeroT Try.prog 42 = some [.nilFunc] := by kernel_rfl
theorem ty_plain_43 : plainT Try.prog 43 = true := by kernel_rfl
theorem ty_size_43 : sizeT Try.prog 43 = some 1 := by kernel_rfl
theorem ty_zero_43 : zeroT Try.prog 43 = some [.slice none 0 0] := by kernel_rfl
theorem ty_sl_43 : slT Try.prog 43 = some (4, 1, 1, [.bool false]) := by kernel_rfl
theorem ty_plain_44 : plainT Try.prog 44 = true := by kernel_rfl
theorem ty_size_44 : sizeT Try.prog 44 = some 1 := by kernel_rfl
theorem ty_zero_44 : zeroT Try.prog 44 = some [.nilFunc] := by kernel_rfl
theorem ty_plain_45 : plainT Try.prog 45 = true := by kernel_rfl
theorem ty_size_45 : sizeT Try.prog 45 = some 1 := by kernel_rfl
theorem ty_zero_45 : zeroT Try.prog 45 = some [.nilFunc] := by kernel_rfl
theorem ty_agg_46 : aggT Try.prog 46 = true := by kernel_rfl
theorem ty_bld_46 : bldT Try.prog 46 = some ([(0, 1), (1, 1)], [.string ByteArray.empty, .int .i64 0]) := by kernel_rfl
theorem ty_field_46_0 : fieldT Try.prog 46 0 = some (0, 0 + 1) := by kernel_rfl
theorem ty_field_46_1 : fieldT Try.prog 46 1 = some (1, 0 + 1) := by kernel_rfl
theorem ty_size_46 : sizeT Try.prog 46 = some 2 := by kernel_rfl
theorem ty_zero_46 : zeroT Try.prog 46 = some [.string ByteArray.empty, .int .i64 0] := by kernel_rfl
theorem ty_agg_47 : aggT Try.prog 47 = true := by kernel_rfl
theorem ty_bld_47 : bldT Try.prog 47 = some ([(0, 1), (1, 1)], [.string ByteArray.empty, .int .i64 0]) := by kernel_rfl
theorem ty_field_47_0 : fieldT Try.prog 47 0 = some (0, 0 + 1) := by kernel_rfl
theorem ty_field_47_1 : fieldT Try.prog 47 1 = some (1, 0 + 1) := by kernel_rfl
theorem ty_size_47 : sizeT Try.prog 47 = some 2 := by kernel_rfl
theorem ty_zero_47 : zeroT Try.prog 47 = some [.string ByteArray.empty, .int .i64 0] := by kernel_rfl
theorem ty_agg_48 : aggT Try.prog 48 = true := by kernel_rfl
theorem ty_bld_48 : bldT Try.prog 48 = some ([(0, 2), (2, 1)], [.string ByteArray.empty, .int .i64 0, .slice none 0 0]) := by kernel_rfl
theorem ty_field_48_0 : fieldT Try.prog 48 0 = some (0, 1 + 1) := by kernel_rfl
theorem ty_field_48_1 : fieldT Try.prog 48 1 = some (2, 0 + 1) := by kernel_rfl
theorem ty_size_48 : sizeT Try.prog 48 = some 3 := by kernel_rfl
theorem ty_zero_48 : zeroT Try.prog 48 = some [.string ByteArray.empty, .int .i64 0, .slice none 0 0] := by kernel_rfl
theorem ty_agg_49 : aggT Try.prog 49 = true := by kernel_rfl
theorem ty_bld_49 : bldT Try.prog 49 = some ([(0, 2), (2, 1)], [.string ByteArray.empty, .int .i64 0, .slice none 0 0]) := by kernel_rfl
theorem ty_field_49_0 : fieldT Try.prog 49 0 = some (0, 1 + 1) := by kernel_rfl
theorem ty_field_49_1 : fieldT Try.prog 49 1 = some (2, 0 + 1) := by kernel_rfl
theorem ty_size_49 : sizeT Try.prog 49 = some 3 := by kernel_rfl
theorem ty_zero_49 : zeroT Try.prog 49 = some [.string ByteArray.empty, .int .i64 0, .slice none 0 0] := by kernel_rfl
theorem ty_plain_51 : plainT Try.prog 51 = true := by kernel_rfl
theorem ty_size_51 : sizeT Try.prog 51 = some 1 := by kernel_rfl
theorem ty_zero_51 : zeroT Try.prog 51 = some [.nilFunc] := by kernel_rfl
theorem ty_plain_52 : plainT Try.prog 52 = true := by kernel_rfl
theorem ty_size_52 : sizeT Try.prog 52 = some 1 := by kernel_rfl
theorem ty_zero_52 : zeroT Try.prog 52 = some [.nilFunc] := by kernel_rfl
theorem ty_plain_53 : plainT Try.prog 53 = true := by kernel_rfl
theorem ty_size_53 : sizeT Try.prog 53 = some 1 := by kernel_rfl
theorem ty_zero_53 : zeroT Try.prog 53 = some [.nilFunc] := by kernel_rfl
theorem ty_plain_54 : plainT Try.prog 54 = true := by kernel_rfl
theorem ty_size_54 : sizeT Try.prog 54 = some 1 := by kernel_rfl
theorem ty_zero_54 : zeroT Try.prog 54 = some [.nilFunc] := by kernel_rfl
theorem ty_plain_55 : plainT Try.prog 55 = true := by kernel_rfl
theorem ty_size_55 : sizeT Try.prog 55 = some 1 := by kernel_rfl
theorem ty_zero_55 : zeroT Try.prog 55 = some [.nilFunc] := by kernel_rfl
theorem ty_plain_57 : plainT Try.prog 57 = true := by kernel_rfl
theorem ty_size_57 : sizeT Try.prog 57 = some 1 := by kernel_rfl
theorem ty_zero_57 : zeroT Try.prog 57 = some [.nilFunc] := by kernel_rfl
theorem ty_plain_58 : plainT Try.prog 58 = true := by kernel_rfl
theorem ty_size_58 : sizeT Try.prog 58 = some 1 := by kernel_rfl
theorem ty_zero_58 : zeroT Try.prog 58 = some [.nilFunc] := by kernel_rfl
theorem ty_plain_59 : plainT Try.prog 59 = true := by kernel_rfl
theorem ty_size_59 : sizeT Try.prog 59 = some 1 := by kernel_rfl
theorem ty_zero_59 : zeroT Try.prog 59 = some [.int .u64 0] := by kernel_rfl
theorem ty_plain_61 : plainT Try.prog 61 = true := by kernel_rfl
theorem ty_size_61 : sizeT Try.prog 61 = some 1 := by kernel_rfl
theorem ty_zero_61 : zeroT Try.prog 61 = some [.nilFunc] := by kernel_rfl
theorem ty_plain_62 : plainT Try.prog 62 = true := by kernel_rfl
theorem ty_size_62 : sizeT Try.prog 62 = some 1 := by kernel_rfl
theorem ty_zero_62 : zeroT Try.prog 62 = some [.nilFunc] := by kernel_rfl
theorem ty_agg_63 : aggT Try.prog 63 = true := by kernel_rfl
theorem ty_bld_63 : bldT Try.prog 63 = some ([(0, 2)], [.slice none 0 0, .slice none 0 0]) := by kernel_rfl
theorem ty_field_63_0 : fieldT Try.prog 63 0 = some (0, 1 + 1) := by kernel_rfl
theorem ty_size_63 : sizeT Try.prog 63 = some 2 := by kernel_rfl
theorem ty_zero_63 : zeroT Try.prog 63 = some [.slice none 0 0, .slice none 0 0] := by kernel_rfl
theorem ty_agg_64 : aggT Try.prog 64 = true := by kernel_rfl
theorem ty_bld_64 : bldT Try.prog 64 = some ([(0, 2)], [.slice none 0 0, .slice none 0 0]) := by kernel_rfl
theorem ty_field_64_0 : fieldT Try.prog 64 0 = some (0, 1 + 1) := by kernel_rfl
theorem ty_size_64 : sizeT Try.prog 64 = some 2 := by kernel_rfl
theorem ty_zero_64 : zeroT Try.prog 64 = some [.slice none 0 0, .slice none 0 0] := by kernel_rfl
theorem ty_plain_65 : plainT Try.prog 65 = true := by kernel_rfl
theorem ty_size_65 : sizeT Try.prog 65 = some 1 := by kernel_rfl
theorem ty_zero_65 : zeroT Try.prog 65 = some [.pointer none] := by kernel_rfl
theorem ty_plain_66 : plainT Try.prog 66 = true := by kernel_rfl
theorem ty_size_66 : sizeT Try.prog 66 = some 1 := by kernel_rfl
theorem ty_zero_66 : zeroT Try.prog 66 = some [.nilFunc] := by kernel_rfl
theorem ty_plain_67 : plainT Try.prog 67 = true := by kernel_rfl
theorem ty_size_67 : sizeT Try.prog 67 = some 1 := by kernel_rfl
theorem ty_zero_67 : zeroT Try.prog 67 = some [.nilFunc] := by kernel_rfl
theorem ty_plain_68 : plainT Try.prog 68 = true := by kernel_rfl
theorem ty_size_68 : sizeT Try.prog 68 = some 1 := by kernel_rfl
theorem ty_zero_68 : zeroT Try.prog 68 = some [.nilFunc] := by kernel_rfl
theorem ty_plain_69 : plainT Try.prog 69 = true := by kernel_rfl
theorem ty_size_69 : sizeT Try.prog 69 = some 1 := by kernel_rfl
theorem ty_zero_69 : zeroT Try.prog 69 = some [.nilFunc] := by kernel_rfl
theorem ty_plain_71 : plainT Try.prog 71 = true := by kernel_rfl
theorem ty_size_71 : sizeT Try.prog 71 = some 1 := by kernel_rfl
theorem ty_zero_71 : zeroT Try.prog 71 = some [.nilFunc] := by kernel_rfl
theorem ty_plain_72 : plainT Try.prog 72 = true := by kernel_rfl
theorem ty_size_72 : sizeT Try.prog 72 = some 1 := by kernel_rfl
theorem ty_zero_72 : zeroT Try.prog 72 = some [.nilFunc] := by kernel_rfl
theorem ty_plain_73 : plainT Try.prog 73 = true := by kernel_rfl
theorem ty_size_73 : sizeT Try.prog 73 = some 1 := by kernel_rfl
theorem ty_zero_73 : zeroT Try.prog 73 = some [.nilFunc] := by kernel_rfl
theorem ty_plain_74 : plainT Try.prog 74 = true := by kernel_rfl
theorem ty_size_74 : sizeT Try.prog 74 = some 1 := by kernel_rfl
theorem ty_zero_74 : zeroT Try.prog 74 = some [.nilFunc] := by kernel_rfl
theorem ty_plain_75 : plainT Try.prog 75 = true := by kernel_rfl
theorem ty_size_75 : sizeT Try.prog 75 = some 1 := by kernel_rfl
theorem ty_zero_75 : zeroT Try.prog 75 = some [.nilFunc] := by kernel_rfl
theorem ty_plain_76 : plainT Try.prog 76 = true := by kernel_rfl
theorem ty_size_76 : sizeT Try.prog 76 = some 1 := by kernel_rfl
theorem ty_zero_76 : zeroT Try.prog 76 = some [.nilFunc] := by kernel_rfl
theorem ty_plain_77 : plainT Try.prog 77 = true := by kernel_rfl
theorem ty_size_77 : sizeT Try.prog 77 = some 1 := by kernel_rfl
theorem ty_zero_77 : zeroT Try.prog 77 = some [.nilFunc] := by kernel_rfl
theorem ty_plain_78 : plainT Try.prog 78 = true := by kernel_rfl
theorem ty_size_78 : sizeT Try.prog 78 = some 1 := by kernel_rfl
theorem ty_zero_78 : zeroT Try.prog 78 = some [.pointer none] := by kernel_rfl
theorem ty_plain_79 : plainT Try.prog 79 = true := by kernel_rfl
theorem ty_size_79 : sizeT Try.prog 79 = some 1 := by kernel_rfl
theorem ty_zero_79 : zeroT Try.prog 79 = some [.slice none 0 0] := by kernel_rfl
theorem ty_sl_79 : slT Try.prog 79 = some (5, 1, 1, [.int .u8 0]) := by kernel_rfl
theorem ty_bytes_79 : bytesT Try.prog 79 = some 5 := by kernel_rfl
theorem ty_agg_80 : aggT Try.prog 80 = true := by kernel_rfl
theorem ty_bld_80 : bldT Try.prog 80 = some ([(0, 1), (1, 1), (2, 1)], [.slice none 0 0, .int .u64 0, .int .i64 0]) := by kernel_rfl
theorem ty_field_80_0 : fieldT Try.prog 80 0 = some (0, 0 + 1) := by kernel_rfl
theorem ty_field_80_1 : fieldT Try.prog 80 1 = some (1, 0 + 1) := by kernel_rfl
theorem ty_field_80_2 : fieldT Try.prog 80 2 = some (2, 0 + 1) := by kernel_rfl
theorem ty_size_80 : sizeT Try.prog 80 = some 3 := by kernel_rfl
theorem ty_zero_80 : zeroT Try.prog 80 = some [.slice none 0 0, .int .u64 0, .int .i64 0] := by kernel_rfl
theorem ty_agg_81 : aggT Try.prog 81 = true := by kernel_rfl
theorem ty_bld_81 : bldT Try.prog 81 = some ([(0, 1), (1, 1), (2, 1)], [.slice none 0 0, .int .u64 0, .int .i64 0]) := by kernel_rfl
theorem ty_field_81_0 : fieldT Try.prog 81 0 = some (0, 0 + 1) := by kernel_rfl
theorem ty_field_81_1 : fieldT Try.prog 81 1 = some (1, 0 + 1) := by kernel_rfl
theorem ty_field_81_2 : fieldT Try.prog 81 2 = some (2, 0 + 1) := by kernel_rfl
theorem ty_size_81 : sizeT Try.prog 81 = some 3 := by kernel_rfl
theorem ty_zero_81 : zeroT Try.prog 81 = some [.slice none 0 0, .int .u64 0, .int .i64 0] := by kernel_rfl
theorem ty_plain_82 : plainT Try.prog 82 = true := by kernel_rfl
theorem ty_size_82 : sizeT Try.prog 82 = some 1 := by kernel_rfl
theorem ty_zero_82 : zeroT Try.prog 82 = some [.nilFunc] := by kernel_rfl
theorem ty_plain_83 : plainT Try.prog 83 = true := by kernel_rfl
theorem ty_size_83 : sizeT Try.prog 83 = some 1 := by kernel_rfl
theorem ty_zero_83 : zeroT Try.prog 83 = some [.nilFunc] := by kernel_rfl
theorem ty_plain_84 : plainT Try.prog 84 = true := by kernel_rfl
theorem ty_size_84 : sizeT Try.prog 84 = some 1 := by kernel_rfl
theorem ty_zero_84 : zeroT Try.prog 84 = some [.nilFunc] := by kernel_rfl
theorem ty_plain_85 : plainT Try.prog 85 = true := by kernel_rfl
theorem ty_size_85 : sizeT Try.prog 85 = some 1 := by kernel_rfl
theorem ty_zero_85 : zeroT Try.prog 85 = some [.pointer none] := by kernel_rfl
theorem ty_plain_87 : plainT Try.prog 87 = true := by kernel_rfl
theorem ty_size_87 : sizeT Try.prog 87 = some 1 := by kernel_rfl
theorem ty_zero_87 : zeroT Try.prog 87 = some [.nilFunc] := by kernel_rfl
theorem ty_plain_88 : plainT Try.prog 88 = true := by kernel_rfl
theorem ty_size_88 : sizeT Try.prog 88 = some 1 := by kernel_rfl
theorem ty_zero_88 : zeroT Try.prog 88 = some [.nilFunc] := by kernel_rfl
theorem ty_plain_89 : plainT Try.prog 89 = true := by kernel_rfl
theorem ty_size_89 : sizeT Try.prog 89 = some 1 := by kernel_rfl
theorem ty_zero_89 : zeroT Try.prog 89 = some [.nilFunc] := by kernel_rfl
theorem ty_plain_90 : plainT Try.prog 90 = true := by kernel_rfl
theorem ty_size_90 : sizeT Try.prog 90 = some 1 := by kernel_rfl
theorem ty_zero_90 : zeroT Try.prog 90 = some [.nilFunc] := by kernel_rfl
theorem ty_agg_91 : aggT Try.prog 91 = true := by kernel_rfl
theorem ty_bld_91 : bldT Try.prog 91 = some ([(0, 3)], [.string ByteArray.empty, .int .i64 0, .slice none 0 0]) := by kernel_rfl
theorem ty_field_91_0 : fieldT Try.prog 91 0 = some (0, 2 + 1) := by kernel_rfl
theorem ty_size_91 : sizeT Try.prog 91 = some 3 := by kernel_rfl
theorem ty_zero_91 : zeroT Try.prog 91 = some [.string ByteArray.empty, .int .i64 0, .slice none 0 0] := by kernel_rfl
theorem ty_agg_92 : aggT Try.prog 92 = true := by kernel_rfl
theorem ty_bld_92 : bldT Try.prog 92 = some ([(0, 3)], [.string ByteArray.empty, .int .i64 0, .slice none 0 0]) := by kernel_rfl
theorem ty_field_92_0 : fieldT Try.prog 92 0 = some (0, 2 + 1) := by kernel_rfl
theorem ty_size_92 : sizeT Try.prog 92 = some 3 := by kernel_rfl
theorem ty_zero_92 : zeroT Try.prog 92 = some [.string ByteArray.empty, .int .i64 0, .slice none 0 0] := by kernel_rfl
theorem ty_plain_93 : plainT Try.prog 93 = true := by kernel_rfl
theorem ty_size_93 : sizeT Try.prog 93 = some 1 := by kernel_rfl
theorem ty_zero_93 : zeroT Try.prog 93 = some [.nilFunc] := by kernel_rfl
theorem ty_plain_94 : plainT Try.prog 94 = true := by kernel_rfl
theorem ty_size_94 : sizeT Try.prog 94 = some 1 := by kernel_rfl
theorem ty_zero_94 : zeroT Try.prog 94 = some [.nilFunc] := by kernel_rfl
theorem ty_plain_95 : plainT Try.prog 95 = true := by kernel_rfl
theorem ty_size_95 : sizeT Try.prog 95 = some 1 := by kernel_rfl
theorem ty_zero_95 : zeroT Try.prog 95 = some [.nilFunc] := by kernel_rfl
theorem ty_plain_96 : plainT Try.prog 96 = true := by kernel_rfl
theorem ty_size_96 : sizeT Try.prog 96 = some 1 := by kernel_rfl
theorem ty_zero_96 : zeroT Try.prog 96 = some [.nilFunc] := by kernel_rfl
theorem ty_plain_97 : plainT Try.prog 97 = true := by kernel_rfl
theorem ty_size_97 : sizeT Try.prog 97 = some 1 := by kernel_rfl
theorem ty_zero_97 : zeroT Try.prog 97 = some [.nilFunc] := by kernel_rfl
theorem ty_plain_98 : plainT Try.prog 98 = true := by kernel_rfl
theorem ty_size_98 : sizeT Try.prog 98 = some 1 := by kernel_rfl
theorem ty_zero_98 : zeroT Try.prog 98 = some [.nilFunc] := by kernel_rfl
theorem ty_plain_100 : plainT Try.prog 100 = true := by kernel_rfl
theorem ty_size_100 : sizeT Try.prog 100 = some 1 := by kernel_rfl
theorem ty_zero_100 : zeroT Try.prog 100 = some [.nilFunc] := by kernel_rfl
theorem ty_plain_101 : plainT Try.prog 101 = true := by kernel_rfl
theorem ty_size_101 : sizeT Try.prog 101 = some 1 := by kernel_rfl
theorem ty_zero_101 : zeroT Try.prog 101 = some [.nilFunc] := by kernel_rfl
theorem ty_plain_102 : plainT Try.prog 102 = true := by kernel_rfl
theorem ty_size_102 : sizeT Try.prog 102 = some 1 := by kernel_rfl
theorem ty_zero_102 : zeroT Try.prog 102 = some [.nilFunc] := by kernel_rfl
theorem ty_plain_103 : plainT Try.prog 103 = true := by kernel_rfl
theorem ty_size_103 : sizeT Try.prog 103 = some 1 := by kernel_rfl
theorem ty_zero_103 : zeroT Try.prog 103 = some [.nilFunc] := by kernel_rfl
theorem ty_plain_104 : plainT Try.prog 104 = true := by kernel_rfl
theorem ty_size_104 : sizeT Try.prog 104 = some 1 := by kernel_rfl
theorem ty_zero_104 : zeroT Try.prog 104 = some [.nilFunc] := by kernel_rfl
theorem ty_plain_105 : plainT Try.prog 105 = true := by kernel_rfl
theorem ty_size_105 : sizeT Try.prog 105 = some 1 := by kernel_rfl
theorem ty_zero_105 : zeroT Try.prog 105 = some [.int .u64 0] := by kernel_rfl
theorem ty_plain_106 : plainT Try.prog 106 = true := by kernel_rfl
theorem ty_size_106 : sizeT Try.prog 106 = some 1 := by kernel_rfl
theorem ty_zero_106 : zeroT Try.prog 106 = some [.nilFunc] := by kernel_rfl
theorem ty_agg_107 : aggT Try.prog 107 = true := by kernel_rfl
theorem ty_bld_107 : bldT Try.prog 107 = some ([(0, 2)], [.string ByteArray.empty, .int .i64 0]) := by kernel_rfl
theorem ty_field_107_0 : fieldT Try.prog 107 0 = some (0, 1 + 1) := by kernel_rfl
theorem ty_size_107 : sizeT Try.prog 107 = some 2 := by kernel_rfl
theorem ty_zero_107 : zeroT Try.prog 107 = some [.string ByteArray.empty, .int .i64 0] := by kernel_rfl
theorem ty_agg_108 : aggT Try.prog 108 = true := by kernel_rfl
theorem ty_bld_108 : bldT Try.prog 108 = some ([(0, 2)], [.string ByteArray.empty, .int .i64 0]) := by kernel_rfl
theorem ty_field_108_0 : fieldT Try.prog 108 0 = some (0, 1 + 1) := by kernel_rfl
theorem ty_size_108 : sizeT Try.prog 108 = some 2 := by kernel_rfl
theorem ty_zero_108 : zeroT Try.prog 108 = some [.string ByteArray.empty, .int .i64 0] := by kernel_rfl
theorem ty_plain_109 : plainT Try.prog 109 = true := by kernel_rfl
theorem ty_size_109 : sizeT Try.prog 109 = some 1 := by kernel_rfl
theorem ty_zero_109 : zeroT Try.prog 109 = some [.nilFunc] := by kernel_rfl
theorem ty_plain_110 : plainT Try.prog 110 = true := by kernel_rfl
theorem ty_size_110 : sizeT Try.prog 110 = some 1 := by kernel_rfl
theorem ty_zero_110 : zeroT Try.prog 110 = some [.nilFunc] := by kernel_rfl
theorem ty_plain_111 : plainT Try.prog 111 = true := by kernel_rfl
theorem ty_size_111 : sizeT Try.prog 111 = some 1 := by kernel_rfl
theorem ty_zero_111 : zeroT Try.prog 111 = some [.nilFunc] := by kernel_rfl
theorem ty_plain_112 : plainT Try.prog 112 = true := by kernel_rfl
theorem ty_size_112 : sizeT Try.prog 112 = some 1 := by kernel_rfl
theorem ty_zero_112 : zeroT Try.prog 112 = some [.nilFunc] := by kernel_rfl
theorem ty_plain_113 : plainT Try.prog 113 = true := by kernel_rfl
theorem ty_size_113 : sizeT Try.prog 113 = some 1 := by kernel_rfl
theorem ty_zero_113 : zeroT Try.prog 113 = some [.pointer none] := by kernel_rfl
theorem ty_plain_114 : plainT Try.prog 114 = true := by kernel_rfl
theorem ty_size_114 : sizeT Try.prog 114 = some 1 := by kernel_rfl
theorem ty_zero_114 : zeroT Try.prog 114 = some [.nilFunc] := by kernel_rfl
theorem ty_plain_115 : plainT Try.prog 115 = true := by kernel_rfl
theorem ty_size_115 : sizeT Try.prog 115 = some 1 := by kernel_rfl
theorem ty_zero_115 : zeroT Try.prog 115 = some [.nilFunc] := by kernel_rfl
theorem ty_agg_116 : aggT Try.prog 116 = true := by kernel_rfl
theorem ty_bld_116 : bldT Try.prog 116 = some ([(0, 1), (1, 1), (2, 1), (3, 1)], [.pointer none, .pointer none, .pointer none, .string ByteArray.empty]) := by kernel_rfl
theorem ty_field_116_0 : fieldT Try.prog 116 0 = some (0, 0 + 1) := by kernel_rfl
theorem ty_field_116_1 : fieldT Try.prog 116 1 = some (1, 0 + 1) := by kernel_rfl
theorem ty_field_116_2 : fieldT Try.prog 116 2 = some (2, 0 + 1) := by kernel_rfl
theorem ty_field_116_3 : fieldT Try.prog 116 3 = some (3, 0 + 1) := by kernel_rfl
theorem ty_size_116 : sizeT Try.prog 116 = some 4 := by kernel_rfl
theorem ty_zero_116 : zeroT Try.prog 116 = some [.pointer none, .pointer none, .pointer none, .string ByteArray.empty] := by kernel_rfl
theorem ty_agg_117 : aggT Try.prog 117 = true := by kernel_rfl
theorem ty_bld_117 : bldT Try.prog 117 = some ([(0, 1), (1, 1), (2, 1), (3, 1)], [.pointer none, .pointer none, .pointer none, .string ByteArray.empty]) := by kernel_rfl
theorem ty_field_117_0 : fieldT Try.prog 117 0 = some (0, 0 + 1) := by kernel_rfl
theorem ty_field_117_1 : fieldT Try.prog 117 1 = some (1, 0 + 1) := by kernel_rfl
theorem ty_field_117_2 : fieldT Try.prog 117 2 = some (2, 0 + 1) := by kernel_rfl
theorem ty_field_117_3 : fieldT Try.prog 117 3 = some (3, 0 + 1) := by kernel_rfl
theorem ty_size_117 : sizeT Try.prog 117 = some 4 := by kernel_rfl
theorem ty_zero_117 : zeroT Try.prog 117 = some [.pointer none, .pointer none, .pointer none, .string ByteArray.empty] := by kernel_rfl
theorem ty_agg_118 : aggT Try.prog 118 = true := by kernel_rfl
theorem ty_arr_118 : arrT Try.prog 118 = some (1, []) := by kernel_rfl
theorem ty_size_118 : sizeT Try.prog 118 = some 0 := by kernel_rfl
theorem ty_zero_118 : zeroT Try.prog 118 = some [] := by kernel_rfl
theorem ty_agg_119 : aggT Try.prog 119 = true := by kernel_rfl
theorem ty_bld_119 : bldT Try.prog 119 = some ([(0, 0)], []) := by kernel_rfl
theorem ty_size_119 : sizeT Try.prog 119 = some 0 := by kernel_rfl
theorem ty_zero_119 : zeroT Try.prog 119 = some [] := by kernel_rfl
theorem ty_agg_120 : aggT Try.prog 120 = true := by kernel_rfl
theorem ty_bld_120 : bldT Try.prog 120 = some ([(0, 0)], []) := by kernel_rfl
theorem ty_size_120 : sizeT Try.prog 120 = some 0 := by kernel_rfl
theorem ty_zero_120 : zeroT Try.prog 120 = some [] := by kernel_rfl
theorem ty_plain_121 : plainT Try.prog 121 = true := by kernel_rfl
theorem ty_size_121 : sizeT Try.prog 121 = some 1 := by kernel_rfl
theorem ty_zero_121 : zeroT Try.prog 121 = some [.int .u32 0] := by kernel_rfl
theorem ty_plain_122 : plainT Try.prog 122 = true := by kernel_rfl
theorem ty_size_122 : sizeT Try.prog 122 = some 1 := by kernel_rfl
theorem ty_zero_122 : zeroT Try.prog 122 = some [.int .u8 0] := by kernel_rfl
theorem ty_plain_123 : plainT Try.prog 123 = true := by kernel_rfl
theorem ty_size_123 : sizeT Try.prog 123 = some 1 := by kernel_rfl
theorem ty_zero_123 : zeroT Try.prog 123 = some [.int .u8 0] := by kernel_rfl
theorem ty_plain_124 : plainT Try.prog 124 = true := by kernel_rfl
theorem ty_size_124 : sizeT Try.prog 124 = some 1 := by kernel_rfl
theorem ty_zero_124 : zeroT Try.prog 124 = some [.nilFunc] := by kernel_rfl
theorem ty_plain_125 : plainT Try.prog 125 = true := by kernel_rfl
theorem ty_size_125 : sizeT Try.prog 125 = some 1 := by kernel_rfl
theorem ty_zero_125 : zeroT Try.prog 125 = some [.int .i32 0] := by kernel_rfl
theorem ty_plain_126 : plainT Try.prog 126 = true := by kernel_rfl
theorem ty_size_126 : sizeT Try.prog 126 = some 1 := by kernel_rfl
theorem ty_zero_126 : zeroT Try.prog 126 = some [.int .i32 0] := by kernel_rfl
theorem ty_agg_127 : aggT Try.prog 127 = true := by kernel_rfl
theorem ty_bld_127 : bldT Try.prog 127 = some ([(0, 1), (1, 1), (2, 1), (3, 1), (4, 1), (5, 1), (6, 1), (7, 1), (8, 1), (9, 1), (10, 1)], [.int .u64 0, .int .u64 0, .int .u32 0, .int .u8 0, .int .u8 0, .int .u8 0, .int .u8 0, .nilFunc, .pointer none, .int .i32 0, .int .i32 0]) := by kernel_rfl
theorem ty_field_127_0 : fieldT Try.prog 127 0 = some (0, 0 + 1) := by kernel_rfl
theorem ty_field_127_1 : fieldT Try.prog 127 1 = some (1, 0 + 1) := by kernel_rfl
theorem ty_field_127_2 : fieldT Try.prog 127 2 = some (2, 0 + 1) := by kernel_rfl
theorem ty_field_127_3 : fieldT Try.prog 127 3 = some (3, 0 + 1) := by kernel_rfl
theorem ty_field_127_4 : fieldT Try.prog 127 4 = some (4, 0 + 1) := by kernel_rfl
theorem ty_field_127_5 : fieldT Try.prog 127 5 = some (5, 0 + 1) := by kernel_rfl
theorem ty_field_127_6 : fieldT Try.prog 127 6 = some (6, 0 + 1) := by kernel_rfl
theorem ty_field_127_7 : fieldT Try.prog 127 7 = some (7, 0 + 1) := by kernel_rfl
theorem ty_field_127_8 : fieldT Try.prog 127 8 = some (8, 0 + 1) := by kernel_rfl
theorem ty_field_127_9 : fieldT Try.prog 127 9 = some (9, 0 + 1) := by kernel_rfl
theorem ty_field_127_10 : fieldT Try.prog 127 10 = some (10, 0 + 1) := by kernel_rfl
theorem ty_size_127 : sizeT Try.prog 127 = some 11 := by kernel_rfl
theorem ty_zero_127 : zeroT Try.prog 127 = some [.int .u64 0, .int .u64 0, .int .u32 0, .int .u8 0, .int .u8 0, .int .u8 0, .int .u8 0, .nilFunc, .pointer none, .int .i32 0, .int .i32 0] := by kernel_rfl
theorem ty_agg_128 : aggT Try.prog 128 = true := by kernel_rfl
theorem ty_bld_128 : bldT Try.prog 128 = some ([(0, 1), (1, 1), (2, 1), (3, 1), (4, 1), (5, 1), (6, 1), (7, 1), (8, 1), (9, 1), (10, 1)], [.int .u64 0, .int .u64 0, .int .u32 0, .int .u8 0, .int .u8 0, .int .u8 0, .int .u8 0, .nilFunc, .pointer none, .int .i32 0, .int .i32 0]) := by kernel_rfl
theorem ty_field_128_0 : fieldT Try.prog 128 0 = some (0, 0 + 1) := by kernel_rfl
theorem ty_field_128_1 : fieldT Try.prog 128 1 = some (1, 0 + 1) := by kernel_rfl
theorem ty_field_128_2 : fieldT Try.prog 128 2 = some (2, 0 + 1) := by kernel_rfl
theorem ty_field_128_3 : fieldT Try.prog 128 3 = some (3, 0 + 1) := by kernel_rfl
theorem ty_field_128_4 : fieldT Try.prog 128 4 = some (4, 0 + 1) := by kernel_rfl
theorem ty_field_128_5 : fieldT Try.prog 128 5 = some (5, 0 + 1) := by kernel_rfl
theorem ty_field_128_6 : fieldT Try.prog 128 6 = some (6, 0 + 1) := by kernel_rfl
theorem ty_field_128_7 : fieldT Try.prog 128 7 = some (7, 0 + 1) := by kernel_rfl
theorem ty_field_128_8 : fieldT Try.prog 128 8 = some (8, 0 + 1) := by kernel_rfl
theorem ty_field_128_9 : fieldT Try.prog 128 9 = some (9, 0 + 1) := by kernel_rfl
theorem ty_field_128_10 : fieldT Try.prog 128 10 = some (10, 0 + 1) := by kernel_rfl
theorem ty_size_128 : sizeT Try.prog 128 = some 11 := by kernel_rfl
theorem ty_zero_128 : zeroT Try.prog 128 = some [.int .u64 0, .int .u64 0, .int .u32 0, .int .u8 0, .int .u8 0, .int .u8 0, .int .u8 0, .nilFunc, .pointer none, .int .i32 0, .int .i32 0] := by kernel_rfl
theorem ty_size_129 : sizeT Try.prog 129 = some 1 := by kernel_rfl
theorem ty_zero_129 : zeroT Try.prog 129 = some [.pointer none] := by kernel_rfl
theorem go_3 : goFn Try.prog 3 = true := by kernel_rfl
theorem go_4 : goFn Try.prog 4 = true := by kernel_rfl
theorem go_5 : goFn Try.prog 5 = true := by kernel_rfl
theorem go_6 : goFn Try.prog 6 = true := by kernel_rfl
theorem go_7 : goFn Try.prog 7 = true := by kernel_rfl
theorem go_8 : goFn Try.prog 8 = true := by kernel_rfl
theorem go_9 : goFn Try.prog 9 = true := by kernel_rfl
theorem go_10 : goFn Try.prog 10 = true := by kernel_rfl
theorem go_11 : goFn Try.prog 11 = true := by kernel_rfl
theorem go_12 : goFn Try.prog 12 = true := by kernel_rfl
theorem go_13 : goFn Try.prog 13 = true := by kernel_rfl
theorem go_14 : goFn Try.prog 14 = true := by kernel_rfl
theorem go_15 : goFn Try.prog 15 = true := by kernel_rfl
theorem go_16 : goFn Try.prog 16 = true := by kernel_rfl
theorem go_17 : goFn Try.prog 17 = true := by kernel_rfl
theorem go_18 : goFn Try.prog 18 = true := by kernel_rfl
theorem go_19 : goFn Try.prog 19 = true := by kernel_rfl
theorem go_20 : goFn Try.prog 20 = true := by kernel_rfl
theorem go_21 : goFn Try.prog 21 = true := by kernel_rfl
theorem go_22 : goFn Try.prog 22 = true := by kernel_rfl
theorem go_23 : goFn Try.prog 23 = true := by kernel_rfl
theorem go_24 : goFn Try.prog 24 = true := by kernel_rfl
theorem go_25 : goFn Try.prog 25 = true := by kernel_rfl
theorem go_26 : goFn Try.prog 26 = true := by kernel_rfl
theorem go_27 : goFn Try.prog 27 = true := by kernel_rfl
theorem go_28 : goFn Try.prog 28 = true := by kernel_rfl
theorem go_29 : goFn Try.prog 29 = true := by kernel_rfl
theorem go_30 : goFn Try.prog 30 = true := by kernel_rfl
theorem go_31 : goFn Try.prog 31 = true := by kernel_rfl
theorem go_32 : goFn Try.prog 32 = true := by kernel_rfl
theorem go_33 : goFn Try.prog 33 = true := by kernel_rfl
theorem go_34 : goFn Try.prog 34 = true := by kernel_rfl
theorem go_35 : goFn Try.prog 35 = true := by kernel_rfl
theorem go_36 : goFn Try.prog 36 = true := by kernel_rfl
theorem go_37 : goFn Try.prog 37 = true := by kernel_rfl
theorem go_38 : goFn Try.prog 38 = true := by kernel_rfl
theorem go_39 : goFn Try.prog 39 = true := by kernel_rfl
theorem go_40 : goFn Try.prog 40 = true := by kernel_rfl
theorem go_41 : goFn Try.prog 41 = true := by kernel_rfl
theorem go_42 : goFn Try.prog 42 = true := by kernel_rfl
theorem go_43 : goFn Try.prog 43 = true := by kernel_rfl
theorem go_44 : goFn Try.prog 44 = true := by kernel_rfl
theorem go_45 : goFn Try.prog 45 = true := by kernel_rfl
theorem go_46 : goFn Try.prog 46 = true := by kernel_rfl
theorem go_47 : goFn Try.prog 47 = true := by kernel_rfl
theorem go_48 : goFn Try.prog 48 = true := by kernel_rfl
theorem go_49 : goFn Try.prog 49 = true := by kernel_rfl
theorem go_50 : goFn Try.prog 50 = true := by kernel_rfl
theorem go_51 : goFn Try.prog 51 = true := by kernel_rfl
theorem go_52 : goFn Try.prog 52 = true := by kernel_rfl
theorem go_53 : goFn Try.prog 53 = true := by kernel_rfl
theorem go_54 : goFn Try.prog 54 = true := by kernel_rfl
theorem go_55 : goFn Try.prog 55 = true := by kernel_rfl
theorem go_56 : goFn Try.prog 56 = true := by kernel_rfl
theorem go_57 : goFn Try.prog 57 = true := by kernel_rfl
theorem go_58 : goFn Try.prog 58 = true := by kernel_rfl
theorem go_59 : goFn Try.prog 59 = true := by kernel_rfl
theorem go_60 : goFn Try.prog 60 = true := by kernel_rfl
theorem go_61 : goFn Try.prog 61 = true := by kernel_rfl
theorem go_62 : goFn Try.prog 62 = true := by kernel_rfl
theorem go_63 : goFn Try.prog 63 = true := by kernel_rfl
theorem go_64 : goFn Try.prog 64 = true := by kernel_rfl
theorem go_65 : goFn Try.prog 65 = true := by kernel_rfl
theorem go_66 : goFn Try.prog 66 = true := by kernel_rfl
theorem go_67 : goFn Try.prog 67 = true := by kernel_rfl
theorem go_68 : goFn Try.prog 68 = true := by kernel_rfl
theorem go_69 : goFn Try.prog 69 = true := by kernel_rfl
theorem go_70 : goFn Try.prog 70 = true := by kernel_rfl
theorem go_71 : goFn Try.prog 71 = true := by kernel_rfl
theorem go_72 : goFn Try.prog 72 = true := by kernel_rfl
theorem go_73 : goFn Try.prog 73 = true := by kernel_rfl
theorem go_74 : goFn Try.prog 74 = true := by kernel_rfl
theorem go_75 : goFn Try.prog 75 = true := by kernel_rfl
theorem go_76 : goFn Try.prog 76 = true := by kernel_rfl
theorem go_77 : goFn Try.prog 77 = true := by kernel_rfl
theorem go_78 : goFn Try.prog 78 = true := by kernel_rfl
theorem go_79 : goFn Try.prog 79 = true := by kernel_rfl
theorem go_80 : goFn Try.prog 80 = true := by kernel_rfl
theorem go_81 : goFn Try.prog 81 = true := by kernel_rfl
theorem go_82 : goFn Try.prog 82 = true := by kernel_rfl
theorem go_83 : goFn Try.prog 83 = true := by kernel_rfl
theorem go_84 : goFn Try.prog 84 = true := by kernel_rfl
theorem go_85 : goFn Try.prog 85 = true := by kernel_rfl
theorem go_86 : goFn Try.prog 86 = true := by kernel_rfl
theorem go_87 : goFn Try.prog 87 = true := by kernel_rfl
end Mv
end Go.Proofs.Ytddabbfjoejalaa
