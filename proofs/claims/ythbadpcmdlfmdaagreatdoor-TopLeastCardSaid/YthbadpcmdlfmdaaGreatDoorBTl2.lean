/-
  Texts that belong together: Types, NumMath, NumBase, VNum5, LoserMath, LoserMath2, VLos1, VLos2, VLos3, VLos4, VLos5, VLos6, VLos7, VLos8, VLos11.
-/
import Derived.Test.YthbadpcmdlfmdaaGreatDoorBTl1
import Derived.Test.YthbadpcmdlfmdaaGreatDoorBase
import Derived.Laws.BitsLemmas
set_option linter.unusedVariables false
set_option linter.unusedSimpArgs false
set_option linter.unusedSectionVars false
namespace Go.Proofs.YthbadpcmdlfmdaaGreatDoor
open Mv
namespace Mv
theorem mixed : Tryz.prog.follows .mixedOrders = true := by kernel_rfl
instance : TMix Tryz.prog := ⟨mixed⟩
theorem ty_plain_1 : plainT Tryz.prog 1 = true := by kernel_rfl
theorem ty_size_1 : sizeT Tryz.prog 1 = some 1 := by kernel_rfl
theorem ty_plain_2 : plainT Tryz.prog 2 = true := by kernel_rfl
theorem ty_size_2 : sizeT Tryz.prog 2 = some 1 := by kernel_rfl
theorem ty_plain_3 : plainT Tryz.prog 3 = true := by kernel_rfl
theorem ty_size_3 : sizeT Tryz.prog 3 = some 1 := by kernel_rfl
theorem ty_plain_4 : plainT Tryz.prog 4 = true := by kernel_rfl
theorem ty_size_4 : sizeT Tryz.prog 4 = some 1 := by kernel_rfl
theorem ty_plain_5 : plainT Tryz.prog 5 = true := by kernel_rfl
theorem ty_size_5 : sizeT Tryz.prog 5 = some 1 := by kernel_rfl
theorem ty_plain_6 : plainT Tryz.prog 6 = true := by kernel_rfl
theorem ty_size_6 : sizeT Tryz.prog 6 = some 1 := by kernel_rfl
theorem ty_agg_7 : aggT Tryz.prog 7 = true := by kernel_rfl
theorem ty_bld_7 : bldT Tryz.prog 7 = some ([(0, 1), (1, 1), (2, 1), (3, 1)], [.int .i64 0, .int .i64 0, .bool false, .int .u8 0]) := by kernel_rfl
theorem ty_field_7_0 : fieldT Tryz.prog 7 0 = some (0, 0 + 1) := by kernel_rfl
theorem ty_field_7_1 : fieldT Tryz.prog 7 1 = some (1, 0 + 1) := by kernel_rfl
theorem ty_field_7_2 : fieldT Tryz.prog 7 2 = some (2, 0 + 1) := by kernel_rfl
theorem ty_field_7_3 : fieldT Tryz.prog 7 3 = some (3, 0 + 1) := by kernel_rfl
theorem ty_size_7 : sizeT Tryz.prog 7 = some 4 := by kernel_rfl
theorem ty_agg_8 : aggT Tryz.prog 8 = true := by kernel_rfl
theorem ty_bld_8 : bldT Tryz.prog 8 = some ([(0, 1), (1, 1), (2, 1), (3, 1)], [.int .i64 0, .int .i64 0, .bool false, .int .u8 0]) := by kernel_rfl
theorem ty_field_8_0 : fieldT Tryz.prog 8 0 = some (0, 0 + 1) := by kernel_rfl
theorem ty_field_8_1 : fieldT Tryz.prog 8 1 = some (1, 0 + 1) := by kernel_rfl
theorem ty_field_8_2 : fieldT Tryz.prog 8 2 = some (2, 0 + 1) := by kernel_rfl
theorem ty_field_8_3 : fieldT Tryz.prog 8 3 = some (3, 0 + 1) := by kernel_rfl
theorem ty_size_8 : sizeT Tryz.prog 8 = some 4 := by kernel_rfl
theorem ty_plain_9 : plainT Tryz.prog 9 = true := by kernel_rfl
theorem ty_size_9 : sizeT Tryz.prog 9 = some 1 := by kernel_rfl
theorem ty_str_9 : strT Tryz.prog 9 = true := by kernel_rfl
theorem ty_plain_10 : plainT Tryz.prog 10 = true := by kernel_rfl
theorem ty_size_10 : sizeT Tryz.prog 10 = some 1 := by kernel_rfl
theorem ty_str_10 : strT Tryz.prog 10 = true := by kernel_rfl
theorem ty_plain_11 : plainT Tryz.prog 11 = true := by kernel_rfl
theorem ty_size_11 : sizeT Tryz.prog 11 = some 1 := by kernel_rfl
theorem ty_str_11 : strT Tryz.prog 11 = true := by kernel_rfl
theorem ty_plain_12 : plainT Tryz.prog 12 = true := by kernel_rfl
theorem ty_size_12 : sizeT Tryz.prog 12 = some 1 := by kernel_rfl
theorem ty_agg_13 : aggT Tryz.prog 13 = true := by kernel_rfl
theorem ty_bld_13 : bldT Tryz.prog 13 = some ([(0, 1), (1, 1)], [.string ByteArray.empty, .int .u64 0]) := by kernel_rfl
theorem ty_field_13_0 : fieldT Tryz.prog 13 0 = some (0, 0 + 1) := by kernel_rfl
theorem ty_field_13_1 : fieldT Tryz.prog 13 1 = some (1, 0 + 1) := by kernel_rfl
theorem ty_size_13 : sizeT Tryz.prog 13 = some 2 := by kernel_rfl
theorem ty_agg_14 : aggT Tryz.prog 14 = true := by kernel_rfl
theorem ty_bld_14 : bldT Tryz.prog 14 = some ([(0, 1), (1, 1)], [.string ByteArray.empty, .int .u64 0]) := by kernel_rfl
theorem ty_field_14_0 : fieldT Tryz.prog 14 0 = some (0, 0 + 1) := by kernel_rfl
theorem ty_field_14_1 : fieldT Tryz.prog 14 1 = some (1, 0 + 1) := by kernel_rfl
theorem ty_size_14 : sizeT Tryz.prog 14 = some 2 := by kernel_rfl
theorem ty_plain_15 : plainT Tryz.prog 15 = true := by kernel_rfl
theorem ty_size_15 : sizeT Tryz.prog 15 = some 1 := by kernel_rfl
theorem ty_plain_16 : plainT Tryz.prog 16 = true := by kernel_rfl
theorem ty_size_16 : sizeT Tryz.prog 16 = some 1 := by kernel_rfl
theorem ty_plain_17 : plainT Tryz.prog 17 = true := by kernel_rfl
theorem ty_size_17 : sizeT Tryz.prog 17 = some 1 := by kernel_rfl
theorem ty_agg_18 : aggT Tryz.prog 18 = true := by kernel_rfl
theorem ty_bld_18 : bldT Tryz.prog 18 = some ([(0, 1)], [.pointer none]) := by kernel_rfl
theorem ty_field_18_0 : fieldT Tryz.prog 18 0 = some (0, 0 + 1) := by kernel_rfl
theorem ty_size_18 : sizeT Tryz.prog 18 = some 1 := by kernel_rfl
theorem ty_agg_19 : aggT Tryz.prog 19 = true := by kernel_rfl
theorem ty_bld_19 : bldT Tryz.prog 19 = some ([(0, 1)], [.pointer none]) := by kernel_rfl
theorem ty_field_19_0 : fieldT Tryz.prog 19 0 = some (0, 0 + 1) := by kernel_rfl
theorem ty_size_19 : sizeT Tryz.prog 19 = some 1 := by kernel_rfl
theorem ty_plain_20 : plainT Tryz.prog 20 = true := by kernel_rfl
theorem ty_size_20 : sizeT Tryz.prog 20 = some 1 := by kernel_rfl
theorem ty_plain_21 : plainT Tryz.prog 21 = true := by kernel_rfl
theorem ty_size_21 : sizeT Tryz.prog 21 = some 1 := by kernel_rfl
theorem ty_plain_22 : plainT Tryz.prog 22 = true := by kernel_rfl
theorem ty_size_22 : sizeT Tryz.prog 22 = some 1 := by kernel_rfl
theorem ty_sl_22 : slT Tryz.prog 22 = some (40, 1, 24, [.slice none 0 0]) := by kernel_rfl
theorem ty_plain_23 : plainT Tryz.prog 23 = true := by kernel_rfl
theorem ty_size_23 : sizeT Tryz.prog 23 = some 1 := by kernel_rfl
theorem ty_plain_24 : plainT Tryz.prog 24 = true := by kernel_rfl
theorem ty_size_24 : sizeT Tryz.prog 24 = some 1 := by kernel_rfl
theorem ty_plain_25 : plainT Tryz.prog 25 = true := by kernel_rfl
theorem ty_size_25 : sizeT Tryz.prog 25 = some 1 := by kernel_rfl
theorem ty_sl_25 : slT Tryz.prog 25 = some (130, 2, 32, [.string ByteArray.empty, .string ByteArray.empty]) := by kernel_rfl
theorem ty_plain_26 : plainT Tryz.prog 26 = true := by kernel_rfl
theorem ty_size_26 : sizeT Tryz.prog 26 = some 1 := by kernel_rfl
theorem ty_sl_26 : slT Tryz.prog 26 = some (134, 3, 40, [.string ByteArray.empty, .int .i64 0, .string ByteArray.empty]) := by kernel_rfl
theorem ty_agg_27 : aggT Tryz.prog 27 = true := by kernel_rfl
theorem ty_bld_27 : bldT Tryz.prog 27 = some ([(0, 1), (1, 1), (2, 1), (3, 1), (4, 1)], [.int .i64 0, .slice none 0 0, .slice none 0 0, .int .i64 0, .bool false]) := by kernel_rfl
theorem ty_field_27_0 : fieldT Tryz.prog 27 0 = some (0, 0 + 1) := by kernel_rfl
theorem ty_field_27_1 : fieldT Tryz.prog 27 1 = some (1, 0 + 1) := by kernel_rfl
theorem ty_field_27_2 : fieldT Tryz.prog 27 2 = some (2, 0 + 1) := by kernel_rfl
theorem ty_field_27_3 : fieldT Tryz.prog 27 3 = some (3, 0 + 1) := by kernel_rfl
theorem ty_field_27_4 : fieldT Tryz.prog 27 4 = some (4, 0 + 1) := by kernel_rfl
theorem ty_size_27 : sizeT Tryz.prog 27 = some 5 := by kernel_rfl
theorem ty_agg_28 : aggT Tryz.prog 28 = true := by kernel_rfl
theorem ty_bld_28 : bldT Tryz.prog 28 = some ([(0, 1), (1, 1), (2, 1), (3, 1), (4, 1)], [.int .i64 0, .slice none 0 0, .slice none 0 0, .int .i64 0, .bool false]) := by kernel_rfl
theorem ty_field_28_0 : fieldT Tryz.prog 28 0 = some (0, 0 + 1) := by kernel_rfl
theorem ty_field_28_1 : fieldT Tryz.prog 28 1 = some (1, 0 + 1) := by kernel_rfl
theorem ty_field_28_2 : fieldT Tryz.prog 28 2 = some (2, 0 + 1) := by kernel_rfl
theorem ty_field_28_3 : fieldT Tryz.prog 28 3 = some (3, 0 + 1) := by kernel_rfl
theorem ty_field_28_4 : fieldT Tryz.prog 28 4 = some (4, 0 + 1) := by kernel_rfl
theorem ty_size_28 : sizeT Tryz.prog 28 = some 5 := by kernel_rfl
theorem ty_zero_28 : zeroT Tryz.prog 28 = some [.int .i64 0, .slice none 0 0, .slice none 0 0, .int .i64 0, .bool false] := by kernel_rfl
theorem ty_plain_29 : plainT Tryz.prog 29 = true := by kernel_rfl
theorem ty_size_29 : sizeT Tryz.prog 29 = some 1 := by kernel_rfl
theorem ty_plain_31 : plainT Tryz.prog 31 = true := by kernel_rfl
theorem ty_size_31 : sizeT Tryz.prog 31 = some 1 := by kernel_rfl
theorem ty_plain_32 : plainT Tryz.prog 32 = true := by kernel_rfl
theorem ty_size_32 : sizeT Tryz.prog 32 = some 1 := by kernel_rfl
theorem ty_plain_34 : plainT Tryz.prog 34 = true := by kernel_rfl
theorem ty_size_34 : sizeT Tryz.prog 34 = some 1 := by kernel_rfl
theorem ty_plain_35 : plainT Tryz.prog 35 = true := by kernel_rfl
theorem ty_size_35 : sizeT Tryz.prog 35 = some 1 := by kernel_rfl
theorem ty_sl_35 : slT Tryz.prog 35 = some (3, 1, 8, [.int .i64 0]) := by kernel_rfl
theorem ty_agg_36 : aggT Tryz.prog 36 = true := by kernel_rfl
theorem ty_bld_36 : bldT Tryz.prog 36 = some ([(0, 1), (1, 1)], [.slice none 0 0, .slice none 0 0]) := by kernel_rfl
theorem ty_field_36_0 : fieldT Tryz.prog 36 0 = some (0, 0 + 1) := by kernel_rfl
theorem ty_field_36_1 : fieldT Tryz.prog 36 1 = some (1, 0 + 1) := by kernel_rfl
theorem ty_size_36 : sizeT Tryz.prog 36 = some 2 := by kernel_rfl
theorem ty_agg_37 : aggT Tryz.prog 37 = true := by kernel_rfl
theorem ty_bld_37 : bldT Tryz.prog 37 = some ([(0, 1), (1, 1)], [.slice none 0 0, .slice none 0 0]) := by kernel_rfl
theorem ty_field_37_0 : fieldT Tryz.prog 37 0 = some (0, 0 + 1) := by kernel_rfl
theorem ty_field_37_1 : fieldT Tryz.prog 37 1 = some (1, 0 + 1) := by kernel_rfl
theorem ty_size_37 : sizeT Tryz.prog 37 = some 2 := by kernel_rfl
theorem ty_zero_37 : zeroT Tryz.prog 37 = some [.slice none 0 0, .slice none 0 0] := by kernel_rfl
theorem ty_plain_39 : plainT Tryz.prog 39 = true := by kernel_rfl
theorem ty_size_39 : sizeT Tryz.prog 39 = some 1 := by kernel_rfl
theorem ty_plain_40 : plainT Tryz.prog 40 = true := by kernel_rfl
theorem ty_size_40 : sizeT Tryz.prog 40 = some 1 := by kernel_rfl
theorem ty_sl_40 : slT Tryz.prog 40 = some (50, 1, 8, [.int .u64 0]) := by kernel_rfl
theorem ty_plain_42 : plainT Tryz.prog 42 = true := by kernel_rfl
theorem ty_size_42 : sizeT Tryz.prog 42 = some 1 := by kernel_rfl
theorem ty_plain_43 : plainT Tryz.prog 43 = true := by kernel_rfl
theorem ty_size_43 : sizeT Tryz.prog 43 = some 1 := by kernel_rfl
theorem ty_plain_44 : plainT Tryz.prog 44 = true := by kernel_rfl
theorem ty_size_44 : sizeT Tryz.prog 44 = some 1 := by kernel_rfl
theorem ty_plain_45 : plainT Tryz.prog 45 = true := by kernel_rfl
theorem ty_size_45 : sizeT Tryz.prog 45 = some 1 := by kernel_rfl
theorem ty_agg_46 : aggT Tryz.prog 46 = true := by kernel_rfl
theorem ty_bld_46 : bldT Tryz.prog 46 = some ([(0, 1), (1, 1)], [.string ByteArray.empty, .int .i64 0]) := by kernel_rfl
theorem ty_field_46_0 : fieldT Tryz.prog 46 0 = some (0, 0 + 1) := by kernel_rfl
theorem ty_field_46_1 : fieldT Tryz.prog 46 1 = some (1, 0 + 1) := by kernel_rfl
theorem ty_size_46 : sizeT Tryz.prog 46 = some 2 := by kernel_rfl
theorem ty_agg_47 : aggT Tryz.prog 47 = true := by kernel_rfl
theorem ty_bld_47 : bldT Tryz.prog 47 = some ([(0, 1), (1, 1)], [.string ByteArray.empty, .int .i64 0]) := by kernel_rfl
theorem ty_field_47_0 : fieldT Tryz.prog 47 0 = some (0, 0 + 1) := by kernel_rfl
theorem ty_field_47_1 : fieldT Tryz.prog 47 1 = some (1, 0 + 1) := by kernel_rfl
theorem ty_size_47 : sizeT Tryz.prog 47 = some 2 := by kernel_rfl
theorem ty_zero_47 : zeroT Tryz.prog 47 = some [.string ByteArray.empty, .int .i64 0] := by kernel_rfl
theorem ty_plain_49 : plainT Tryz.prog 49 = true := by kernel_rfl
theorem ty_size_49 : sizeT Tryz.prog 49 = some 1 := by kernel_rfl
theorem ty_plain_50 : plainT Tryz.prog 50 = true := by kernel_rfl
theorem ty_size_50 : sizeT Tryz.prog 50 = some 1 := by kernel_rfl
theorem ty_plain_52 : plainT Tryz.prog 52 = true := by kernel_rfl
theorem ty_size_52 : sizeT Tryz.prog 52 = some 1 := by kernel_rfl
theorem ty_plain_53 : plainT Tryz.prog 53 = true := by kernel_rfl
theorem ty_size_53 : sizeT Tryz.prog 53 = some 1 := by kernel_rfl
theorem ty_plain_54 : plainT Tryz.prog 54 = true := by kernel_rfl
theorem ty_size_54 : sizeT Tryz.prog 54 = some 1 := by kernel_rfl
theorem ty_plain_55 : plainT Tryz.prog 55 = true := by kernel_rfl
theorem ty_size_55 : sizeT Tryz.prog 55 = some 1 := by kernel_rfl
theorem ty_sl_55 : slT Tryz.prog 55 = some (5, 1, 1, [.int .u8 0]) := by kernel_rfl
theorem ty_bytes_55 : bytesT Tryz.prog 55 = some 5 := by kernel_rfl
theorem ty_agg_56 : aggT Tryz.prog 56 = true := by kernel_rfl
theorem ty_bld_56 : bldT Tryz.prog 56 = some ([(0, 1), (1, 1)], [.pointer none, .slice none 0 0]) := by kernel_rfl
theorem ty_field_56_0 : fieldT Tryz.prog 56 0 = some (0, 0 + 1) := by kernel_rfl
theorem ty_field_56_1 : fieldT Tryz.prog 56 1 = some (1, 0 + 1) := by kernel_rfl
theorem ty_size_56 : sizeT Tryz.prog 56 = some 2 := by kernel_rfl
theorem ty_agg_57 : aggT Tryz.prog 57 = true := by kernel_rfl
theorem ty_bld_57 : bldT Tryz.prog 57 = some ([(0, 1), (1, 1)], [.pointer none, .slice none 0 0]) := by kernel_rfl
theorem ty_field_57_0 : fieldT Tryz.prog 57 0 = some (0, 0 + 1) := by kernel_rfl
theorem ty_field_57_1 : fieldT Tryz.prog 57 1 = some (1, 0 + 1) := by kernel_rfl
theorem ty_size_57 : sizeT Tryz.prog 57 = some 2 := by kernel_rfl
theorem ty_zero_57 : zeroT Tryz.prog 57 = some [.pointer none, .slice none 0 0] := by kernel_rfl
theorem ty_plain_59 : plainT Tryz.prog 59 = true := by kernel_rfl
theorem ty_size_59 : sizeT Tryz.prog 59 = some 1 := by kernel_rfl
theorem ty_plain_60 : plainT Tryz.prog 60 = true := by kernel_rfl
theorem ty_size_60 : sizeT Tryz.prog 60 = some 1 := by kernel_rfl
theorem ty_plain_61 : plainT Tryz.prog 61 = true := by kernel_rfl
theorem ty_size_61 : sizeT Tryz.prog 61 = some 1 := by kernel_rfl
theorem ty_plain_63 : plainT Tryz.prog 63 = true := by kernel_rfl
theorem ty_size_63 : sizeT Tryz.prog 63 = some 1 := by kernel_rfl
theorem ty_plain_64 : plainT Tryz.prog 64 = true := by kernel_rfl
theorem ty_size_64 : sizeT Tryz.prog 64 = some 1 := by kernel_rfl
theorem ty_plain_65 : plainT Tryz.prog 65 = true := by kernel_rfl
theorem ty_size_65 : sizeT Tryz.prog 65 = some 1 := by kernel_rfl
theorem ty_plain_67 : plainT Tryz.prog 67 = true := by kernel_rfl
theorem ty_size_67 : sizeT Tryz.prog 67 = some 1 := by kernel_rfl
theorem ty_plain_69 : plainT Tryz.prog 69 = true := by kernel_rfl
theorem ty_size_69 : sizeT Tryz.prog 69 = some 1 := by kernel_rfl
theorem ty_agg_70 : aggT Tryz.prog 70 = true := by kernel_rfl
theorem ty_bld_70 : bldT Tryz.prog 70 = some ([(0, 2)], [.slice none 0 0, .slice none 0 0]) := by kernel_rfl
theorem ty_field_70_0 : fieldT Tryz.prog 70 0 = some (0, 1 + 1) := by kernel_rfl
theorem ty_size_70 : sizeT Tryz.prog 70 = some 2 := by kernel_rfl
theorem ty_agg_71 : aggT Tryz.prog 71 = true := by kernel_rfl
theorem ty_bld_71 : bldT Tryz.prog 71 = some ([(0, 2)], [.slice none 0 0, .slice none 0 0]) := by kernel_rfl
theorem ty_field_71_0 : fieldT Tryz.prog 71 0 = some (0, 1 + 1) := by kernel_rfl
theorem ty_size_71 : sizeT Tryz.prog 71 = some 2 := by kernel_rfl
theorem ty_plain_72 : plainT Tryz.prog 72 = true := by kernel_rfl
theorem ty_size_72 : sizeT Tryz.prog 72 = some 1 := by kernel_rfl
theorem ty_plain_73 : plainT Tryz.prog 73 = true := by kernel_rfl
theorem ty_size_73 : sizeT Tryz.prog 73 = some 1 := by kernel_rfl
theorem ty_plain_74 : plainT Tryz.prog 74 = true := by kernel_rfl
theorem ty_size_74 : sizeT Tryz.prog 74 = some 1 := by kernel_rfl
theorem ty_plain_75 : plainT Tryz.prog 75 = true := by kernel_rfl
theorem ty_size_75 : sizeT Tryz.prog 75 = some 1 := by kernel_rfl
theorem ty_plain_77 : plainT Tryz.prog 77 = true := by kernel_rfl
theorem ty_size_77 : sizeT Tryz.prog 77 = some 1 := by kernel_rfl
theorem ty_plain_78 : plainT Tryz.prog 78 = true := by kernel_rfl
theorem ty_size_78 : sizeT Tryz.prog 78 = some 1 := by kernel_rfl
theorem ty_plain_79 : plainT Tryz.prog 79 = true := by kernel_rfl
theorem ty_size_79 : sizeT Tryz.prog 79 = some 1 := by kernel_rfl
theorem ty_plain_80 : plainT Tryz.prog 80 = true := by kernel_rfl
theorem ty_size_80 : sizeT Tryz.prog 80 = some 1 := by kernel_rfl
theorem ty_plain_81 : plainT Tryz.prog 81 = true := by kernel_rfl
theorem ty_size_81 : sizeT Tryz.prog 81 = some 1 := by kernel_rfl
theorem ty_plain_82 : plainT Tryz.prog 82 = true := by kernel_rfl
theorem ty_size_82 : sizeT Tryz.prog 82 = some 1 := by kernel_rfl
theorem ty_plain_83 : plainT Tryz.prog 83 = true := by kernel_rfl
theorem ty_size_83 : sizeT Tryz.prog 83 = some 1 := by kernel_rfl
theorem ty_plain_84 : plainT Tryz.prog 84 = true := by kernel_rfl
theorem ty_size_84 : sizeT Tryz.prog 84 = some 1 := by kernel_rfl
theorem ty_agg_85 : aggT Tryz.prog 85 = true := by kernel_rfl
theorem ty_bld_85 : bldT Tryz.prog 85 = some ([(0, 1), (1, 1), (2, 1)], [.slice none 0 0, .int .u64 0, .int .i64 0]) := by kernel_rfl
theorem ty_field_85_0 : fieldT Tryz.prog 85 0 = some (0, 0 + 1) := by kernel_rfl
theorem ty_field_85_1 : fieldT Tryz.prog 85 1 = some (1, 0 + 1) := by kernel_rfl
theorem ty_field_85_2 : fieldT Tryz.prog 85 2 = some (2, 0 + 1) := by kernel_rfl
theorem ty_size_85 : sizeT Tryz.prog 85 = some 3 := by kernel_rfl
theorem ty_agg_86 : aggT Tryz.prog 86 = true := by kernel_rfl
theorem ty_bld_86 : bldT Tryz.prog 86 = some ([(0, 1), (1, 1), (2, 1)], [.slice none 0 0, .int .u64 0, .int .i64 0]) := by kernel_rfl
theorem ty_field_86_0 : fieldT Tryz.prog 86 0 = some (0, 0 + 1) := by kernel_rfl
theorem ty_field_86_1 : fieldT Tryz.prog 86 1 = some (1, 0 + 1) := by kernel_rfl
theorem ty_field_86_2 : fieldT Tryz.prog 86 2 = some (2, 0 + 1) := by kernel_rfl
theorem ty_size_86 : sizeT Tryz.prog 86 = some 3 := by kernel_rfl
theorem ty_plain_87 : plainT Tryz.prog 87 = true := by kernel_rfl
theorem ty_size_87 : sizeT Tryz.prog 87 = some 1 := by kernel_rfl
theorem ty_plain_88 : plainT Tryz.prog 88 = true := by kernel_rfl
theorem ty_size_88 : sizeT Tryz.prog 88 = some 1 := by kernel_rfl
theorem ty_plain_89 : plainT Tryz.prog 89 = true := by kernel_rfl
theorem ty_size_89 : sizeT Tryz.prog 89 = some 1 := by kernel_rfl
theorem ty_plain_90 : plainT Tryz.prog 90 = true := by kernel_rfl
theorem ty_size_90 : sizeT Tryz.prog 90 = some 1 := by kernel_rfl
theorem ty_plain_91 : plainT Tryz.prog 91 = true := by kernel_rfl
theorem ty_size_91 : sizeT Tryz.prog 91 = some 1 := by kernel_rfl
theorem ty_plain_93 : plainT Tryz.prog 93 = true := by kernel_rfl
theorem ty_size_93 : sizeT Tryz.prog 93 = some 1 := by kernel_rfl
theorem ty_agg_94 : aggT Tryz.prog 94 = true := by kernel_rfl
theorem ty_bld_94 : bldT Tryz.prog 94 = some ([(0, 5)], [.int .i64 0, .slice none 0 0, .slice none 0 0, .int .i64 0, .bool false]) := by kernel_rfl
theorem ty_field_94_0 : fieldT Tryz.prog 94 0 = some (0, 4 + 1) := by kernel_rfl
theorem ty_size_94 : sizeT Tryz.prog 94 = some 5 := by kernel_rfl
theorem ty_agg_95 : aggT Tryz.prog 95 = true := by kernel_rfl
theorem ty_bld_95 : bldT Tryz.prog 95 = some ([(0, 5)], [.int .i64 0, .slice none 0 0, .slice none 0 0, .int .i64 0, .bool false]) := by kernel_rfl
theorem ty_field_95_0 : fieldT Tryz.prog 95 0 = some (0, 4 + 1) := by kernel_rfl
theorem ty_size_95 : sizeT Tryz.prog 95 = some 5 := by kernel_rfl
theorem ty_plain_96 : plainT Tryz.prog 96 = true := by kernel_rfl
theorem ty_size_96 : sizeT Tryz.prog 96 = some 1 := by kernel_rfl
theorem ty_plain_97 : plainT Tryz.prog 97 = true := by kernel_rfl
theorem ty_size_97 : sizeT Tryz.prog 97 = some 1 := by kernel_rfl
theorem ty_agg_98 : aggT Tryz.prog 98 = true := by kernel_rfl
theorem ty_arr_98 : arrT Tryz.prog 98 = some (1, [.int .u8 0, .int .u8 0, .int .u8 0, .int .u8 0, .int .u8 0]) := by kernel_rfl
theorem ty_size_98 : sizeT Tryz.prog 98 = some 5 := by kernel_rfl
theorem ty_zero_98 : zeroT Tryz.prog 98 = some [.int .u8 0, .int .u8 0, .int .u8 0, .int .u8 0, .int .u8 0] := by kernel_rfl
theorem ty_plain_99 : plainT Tryz.prog 99 = true := by kernel_rfl
theorem ty_size_99 : sizeT Tryz.prog 99 = some 1 := by kernel_rfl
theorem ty_plain_101 : plainT Tryz.prog 101 = true := by kernel_rfl
theorem ty_size_101 : sizeT Tryz.prog 101 = some 1 := by kernel_rfl
theorem ty_plain_102 : plainT Tryz.prog 102 = true := by kernel_rfl
theorem ty_size_102 : sizeT Tryz.prog 102 = some 1 := by kernel_rfl
theorem ty_plain_103 : plainT Tryz.prog 103 = true := by kernel_rfl
theorem ty_size_103 : sizeT Tryz.prog 103 = some 1 := by kernel_rfl
theorem ty_plain_104 : plainT Tryz.prog 104 = true := by kernel_rfl
theorem ty_size_104 : sizeT Tryz.prog 104 = some 1 := by kernel_rfl
theorem ty_plain_105 : plainT Tryz.prog 105 = true := by kernel_rfl
theorem ty_size_105 : sizeT Tryz.prog 105 = some 1 := by kernel_rfl
theorem ty_plain_106 : plainT Tryz.prog 106 = true := by kernel_rfl
theorem ty_size_106 : sizeT Tryz.prog 106 = some 1 := by kernel_rfl
theorem ty_plain_108 : plainT Tryz.prog 108 = true := by kernel_rfl
theorem ty_size_108 : sizeT Tryz.prog 108 = some 1 := by kernel_rfl
theorem ty_plain_109 : plainT Tryz.prog 109 = true := by kernel_rfl
theorem ty_size_109 : sizeT Tryz.prog 109 = some 1 := by kernel_rfl
theorem ty_plain_110 : plainT Tryz.prog 110 = true := by kernel_rfl
theorem ty_size_110 : sizeT Tryz.prog 110 = some 1 := by kernel_rfl
theorem ty_plain_111 : plainT Tryz.prog 111 = true := by kernel_rfl
theorem ty_size_111 : sizeT Tryz.prog 111 = some 1 := by kernel_rfl
theorem ty_plain_112 : plainT Tryz.prog 112 = true := by kernel_rfl
theorem ty_size_112 : sizeT Tryz.prog 112 = some 1 := by kernel_rfl
theorem ty_plain_113 : plainT Tryz.prog 113 = true := by kernel_rfl
theorem ty_size_113 : sizeT Tryz.prog 113 = some 1 := by kernel_rfl
theorem ty_plain_114 : plainT Tryz.prog 114 = true := by kernel_rfl
theorem ty_size_114 : sizeT Tryz.prog 114 = some 1 := by kernel_rfl
theorem ty_plain_115 : plainT Tryz.prog 115 = true := by kernel_rfl
theorem ty_size_115 : sizeT Tryz.prog 115 = some 1 := by kernel_rfl
theorem ty_plain_116 : plainT Tryz.prog 116 = true := by kernel_rfl
theorem ty_size_116 : sizeT Tryz.prog 116 = some 1 := by kernel_rfl
theorem ty_agg_117 : aggT Tryz.prog 117 = true := by kernel_rfl
theorem ty_bld_117 : bldT Tryz.prog 117 = some ([(0, 2)], [.string ByteArray.empty, .int .i64 0]) := by kernel_rfl
theorem ty_field_117_0 : fieldT Tryz.prog 117 0 = some (0, 1 + 1) := by kernel_rfl
theorem ty_size_117 : sizeT Tryz.prog 117 = some 2 := by kernel_rfl
theorem ty_agg_118 : aggT Tryz.prog 118 = true := by kernel_rfl
theorem ty_bld_118 : bldT Tryz.prog 118 = some ([(0, 2)], [.string ByteArray.empty, .int .i64 0]) := by kernel_rfl
theorem ty_field_118_0 : fieldT Tryz.prog 118 0 = some (0, 1 + 1) := by kernel_rfl
theorem ty_size_118 : sizeT Tryz.prog 118 = some 2 := by kernel_rfl
theorem ty_zero_118 : zeroT Tryz.prog 118 = some [.string ByteArray.empty, .int .i64 0] := by kernel_rfl
theorem ty_plain_119 : plainT Tryz.prog 119 = true := by kernel_rfl
theorem ty_size_119 : sizeT Tryz.prog 119 = some 1 := by kernel_rfl
theorem ty_plain_120 : plainT Tryz.prog 120 = true := by kernel_rfl
theorem ty_size_120 : sizeT Tryz.prog 120 = some 1 := by kernel_rfl
theorem ty_plain_121 : plainT Tryz.prog 121 = true := by kernel_rfl
theorem ty_size_121 : sizeT Tryz.prog 121 = some 1 := by kernel_rfl
theorem ty_plain_122 : plainT Tryz.prog 122 = true := by kernel_rfl
theorem ty_size_122 : sizeT Tryz.prog 122 = some 1 := by kernel_rfl
theorem ty_plain_123 : plainT Tryz.prog 123 = true := by kernel_rfl
theorem ty_size_123 : sizeT Tryz.prog 123 = some 1 := by kernel_rfl
theorem ty_size_124 : sizeT Tryz.prog 124 = some 1 := by kernel_rfl
theorem ty_plain_125 : plainT Tryz.prog 125 = true := by kernel_rfl
theorem ty_size_125 : sizeT Tryz.prog 125 = some 1 := by kernel_rfl
theorem ty_plain_126 : plainT Tryz.prog 126 = true := by kernel_rfl
theorem ty_size_126 : sizeT Tryz.prog 126 = some 1 := by kernel_rfl
theorem ty_plain_127 : plainT Tryz.prog 127 = true := by kernel_rfl
theorem ty_size_127 : sizeT Tryz.prog 127 = some 1 := by kernel_rfl
theorem ty_plain_128 : plainT Tryz.prog 128 = true := by kernel_rfl
theorem ty_size_128 : sizeT Tryz.prog 128 = some 1 := by kernel_rfl
theorem ty_agg_129 : aggT Tryz.prog 129 = true := by kernel_rfl
theorem ty_bld_129 : bldT Tryz.prog 129 = some ([(0, 1), (1, 1)], [.string ByteArray.empty, .string ByteArray.empty]) := by kernel_rfl
theorem ty_field_129_0 : fieldT Tryz.prog 129 0 = some (0, 0 + 1) := by kernel_rfl
theorem ty_field_129_1 : fieldT Tryz.prog 129 1 = some (1, 0 + 1) := by kernel_rfl
theorem ty_size_129 : sizeT Tryz.prog 129 = some 2 := by kernel_rfl
theorem ty_agg_130 : aggT Tryz.prog 130 = true := by kernel_rfl
theorem ty_bld_130 : bldT Tryz.prog 130 = some ([(0, 1), (1, 1)], [.string ByteArray.empty, .string ByteArray.empty]) := by kernel_rfl
theorem ty_field_130_0 : fieldT Tryz.prog 130 0 = some (0, 0 + 1) := by kernel_rfl
theorem ty_field_130_1 : fieldT Tryz.prog 130 1 = some (1, 0 + 1) := by kernel_rfl
theorem ty_size_130 : sizeT Tryz.prog 130 = some 2 := by kernel_rfl
theorem ty_zero_130 : zeroT Tryz.prog 130 = some [.string ByteArray.empty, .string ByteArray.empty] := by kernel_rfl
theorem ty_plain_131 : plainT Tryz.prog 131 = true := by kernel_rfl
theorem ty_size_131 : sizeT Tryz.prog 131 = some 1 := by kernel_rfl
theorem ty_plain_132 : plainT Tryz.prog 132 = true := by kernel_rfl
theorem ty_size_132 : sizeT Tryz.prog 132 = some 1 := by kernel_rfl
theorem ty_agg_133 : aggT Tryz.prog 133 = true := by kernel_rfl
theorem ty_bld_133 : bldT Tryz.prog 133 = some ([(0, 1), (1, 1), (2, 1)], [.string ByteArray.empty, .int .i64 0, .string ByteArray.empty]) := by kernel_rfl
theorem ty_field_133_0 : fieldT Tryz.prog 133 0 = some (0, 0 + 1) := by kernel_rfl
theorem ty_field_133_1 : fieldT Tryz.prog 133 1 = some (1, 0 + 1) := by kernel_rfl
theorem ty_field_133_2 : fieldT Tryz.prog 133 2 = some (2, 0 + 1) := by kernel_rfl
theorem ty_size_133 : sizeT Tryz.prog 133 = some 3 := by kernel_rfl
theorem ty_agg_134 : aggT Tryz.prog 134 = true := by kernel_rfl
theorem ty_bld_134 : bldT Tryz.prog 134 = some ([(0, 1), (1, 1), (2, 1)], [.string ByteArray.empty, .int .i64 0, .string ByteArray.empty]) := by kernel_rfl
theorem ty_field_134_0 : fieldT Tryz.prog 134 0 = some (0, 0 + 1) := by kernel_rfl
theorem ty_field_134_1 : fieldT Tryz.prog 134 1 = some (1, 0 + 1) := by kernel_rfl
theorem ty_field_134_2 : fieldT Tryz.prog 134 2 = some (2, 0 + 1) := by kernel_rfl
theorem ty_size_134 : sizeT Tryz.prog 134 = some 3 := by kernel_rfl
theorem ty_zero_134 : zeroT Tryz.prog 134 = some [.string ByteArray.empty, .int .i64 0, .string ByteArray.empty] := by kernel_rfl
theorem ty_plain_135 : plainT Tryz.prog 135 = true := by kernel_rfl
theorem ty_size_135 : sizeT Tryz.prog 135 = some 1 := by kernel_rfl
theorem ty_plain_136 : plainT Tryz.prog 136 = true := by kernel_rfl
theorem ty_size_136 : sizeT Tryz.prog 136 = some 1 := by kernel_rfl
theorem ty_plain_137 : plainT Tryz.prog 137 = true := by kernel_rfl
theorem ty_size_137 : sizeT Tryz.prog 137 = some 1 := by kernel_rfl
theorem ty_plain_138 : plainT Tryz.prog 138 = true := by kernel_rfl
theorem ty_size_138 : sizeT Tryz.prog 138 = some 1 := by kernel_rfl
theorem ty_plain_139 : plainT Tryz.prog 139 = true := by kernel_rfl
theorem ty_size_139 : sizeT Tryz.prog 139 = some 1 := by kernel_rfl
theorem ty_plain_140 : plainT Tryz.prog 140 = true := by kernel_rfl
theorem ty_size_140 : sizeT Tryz.prog 140 = some 1 := by kernel_rfl
theorem ty_plain_141 : plainT Tryz.prog 141 = true := by kernel_rfl
theorem ty_size_141 : sizeT Tryz.prog 141 = some 1 := by kernel_rfl
theorem ty_plain_142 : plainT Tryz.prog 142 = true := by kernel_rfl
theorem ty_size_142 : sizeT Tryz.prog 142 = some 1 := by kernel_rfl
theorem ty_plain_143 : plainT Tryz.prog 143 = true := by kernel_rfl
theorem ty_size_143 : sizeT Tryz.prog 143 = some 1 := by kernel_rfl
theorem ty_plain_144 : plainT Tryz.prog 144 = true := by kernel_rfl
theorem ty_size_144 : sizeT Tryz.prog 144 = some 1 := by kernel_rfl
theorem ty_plain_145 : plainT Tryz.prog 145 = true := by kernel_rfl
theorem ty_size_145 : sizeT Tryz.prog 145 = some 1 := by kernel_rfl
theorem ty_plain_146 : plainT Tryz.prog 146 = true := by kernel_rfl
theorem ty_size_146 : sizeT Tryz.prog 146 = some 1 := by kernel_rfl
theorem ty_plain_147 : plainT Tryz.prog 147 = true := by kernel_rfl
theorem ty_size_147 : sizeT Tryz.prog 147 = some 1 := by kernel_rfl
theorem ty_plain_148 : plainT Tryz.prog 148 = true := by kernel_rfl
theorem ty_size_148 : sizeT Tryz.prog 148 = some 1 := by kernel_rfl
theorem ty_plain_149 : plainT Tryz.prog 149 = true := by kernel_rfl
theorem ty_size_149 : sizeT Tryz.prog 149 = some 1 := by kernel_rfl
theorem ty_plain_150 : plainT Tryz.prog 150 = true := by kernel_rfl
theorem ty_size_150 : sizeT Tryz.prog 150 = some 1 := by kernel_rfl
theorem ty_plain_151 : plainT Tryz.prog 151 = true := by kernel_rfl
theorem ty_size_151 : sizeT Tryz.prog 151 = some 1 := by kernel_rfl
theorem ty_plain_152 : plainT Tryz.prog 152 = true := by kernel_rfl
theorem ty_size_152 : sizeT Tryz.prog 152 = some 1 := by kernel_rfl
theorem ty_plain_153 : plainT Tryz.prog 153 = true := by kernel_rfl
theorem ty_size_153 : sizeT Tryz.prog 153 = some 1 := by kernel_rfl
theorem ty_sl_153 : slT Tryz.prog 153 = some (9, 1, 16, [.string ByteArray.empty]) := by kernel_rfl
theorem ty_plain_154 : plainT Tryz.prog 154 = true := by kernel_rfl
theorem ty_size_154 : sizeT Tryz.prog 154 = some 1 := by kernel_rfl
theorem ty_plain_155 : plainT Tryz.prog 155 = true := by kernel_rfl
theorem ty_size_155 : sizeT Tryz.prog 155 = some 1 := by kernel_rfl
theorem ty_plain_156 : plainT Tryz.prog 156 = true := by kernel_rfl
theorem ty_size_156 : sizeT Tryz.prog 156 = some 1 := by kernel_rfl
theorem ty_plain_158 : plainT Tryz.prog 158 = true := by kernel_rfl
theorem ty_size_158 : sizeT Tryz.prog 158 = some 1 := by kernel_rfl
theorem ty_plain_159 : plainT Tryz.prog 159 = true := by kernel_rfl
theorem ty_size_159 : sizeT Tryz.prog 159 = some 1 := by kernel_rfl
theorem ty_plain_160 : plainT Tryz.prog 160 = true := by kernel_rfl
theorem ty_size_160 : sizeT Tryz.prog 160 = some 1 := by kernel_rfl
theorem ty_plain_161 : plainT Tryz.prog 161 = true := by kernel_rfl
theorem ty_size_161 : sizeT Tryz.prog 161 = some 1 := by kernel_rfl
theorem ty_plain_162 : plainT Tryz.prog 162 = true := by kernel_rfl
theorem ty_size_162 : sizeT Tryz.prog 162 = some 1 := by kernel_rfl
theorem ty_plain_163 : plainT Tryz.prog 163 = true := by kernel_rfl
theorem ty_size_163 : sizeT Tryz.prog 163 = some 1 := by kernel_rfl
theorem ty_plain_164 : plainT Tryz.prog 164 = true := by kernel_rfl
theorem ty_size_164 : sizeT Tryz.prog 164 = some 1 := by kernel_rfl
theorem ty_plain_165 : plainT Tryz.prog 165 = true := by kernel_rfl
theorem ty_size_165 : sizeT Tryz.prog 165 = some 1 := by kernel_rfl
theorem ty_agg_166 : aggT Tryz.prog 166 = true := by kernel_rfl
theorem ty_size_166 : sizeT Tryz.prog 166 = some 256 := by kernel_rfl
theorem ty_agg_167 : aggT Tryz.prog 167 = true := by kernel_rfl
theorem ty_size_167 : sizeT Tryz.prog 167 = some 256 := by kernel_rfl
theorem ty_plain_169 : plainT Tryz.prog 169 = true := by kernel_rfl
theorem ty_size_169 : sizeT Tryz.prog 169 = some 1 := by kernel_rfl
theorem ty_plain_170 : plainT Tryz.prog 170 = true := by kernel_rfl
theorem ty_size_170 : sizeT Tryz.prog 170 = some 1 := by kernel_rfl
theorem ty_plain_171 : plainT Tryz.prog 171 = true := by kernel_rfl
theorem ty_size_171 : sizeT Tryz.prog 171 = some 1 := by kernel_rfl
theorem ty_plain_172 : plainT Tryz.prog 172 = true := by kernel_rfl
theorem ty_size_172 : sizeT Tryz.prog 172 = some 1 := by kernel_rfl
theorem ty_plain_174 : plainT Tryz.prog 174 = true := by kernel_rfl
theorem ty_size_174 : sizeT Tryz.prog 174 = some 1 := by kernel_rfl
theorem ty_plain_176 : plainT Tryz.prog 176 = true := by kernel_rfl
theorem ty_size_176 : sizeT Tryz.prog 176 = some 1 := by kernel_rfl
theorem ty_plain_177 : plainT Tryz.prog 177 = true := by kernel_rfl
theorem ty_size_177 : sizeT Tryz.prog 177 = some 1 := by kernel_rfl
theorem ty_plain_178 : plainT Tryz.prog 178 = true := by kernel_rfl
theorem ty_size_178 : sizeT Tryz.prog 178 = some 1 := by kernel_rfl
theorem ty_plain_179 : plainT Tryz.prog 179 = true := by kernel_rfl
theorem ty_size_179 : sizeT Tryz.prog 179 = some 1 := by kernel_rfl
theorem ty_plain_181 : plainT Tryz.prog 181 = true := by kernel_rfl
theorem ty_size_181 : sizeT Tryz.prog 181 = some 1 := by kernel_rfl
theorem ty_plain_182 : plainT Tryz.prog 182 = true := by kernel_rfl
theorem ty_size_182 : sizeT Tryz.prog 182 = some 1 := by kernel_rfl
theorem ty_plain_183 : plainT Tryz.prog 183 = true := by kernel_rfl
theorem ty_size_183 : sizeT Tryz.prog 183 = some 1 := by kernel_rfl
theorem ty_plain_184 : plainT Tryz.prog 184 = true := by kernel_rfl
theorem ty_size_184 : sizeT Tryz.prog 184 = some 1 := by kernel_rfl
theorem ty_agg_185 : aggT Tryz.prog 185 = true := by kernel_rfl
theorem ty_size_185 : sizeT Tryz.prog 185 = some 256 := by kernel_rfl
theorem ty_agg_186 : aggT Tryz.prog 186 = true := by kernel_rfl
theorem ty_bld_186 : bldT Tryz.prog 186 = some ([(0, 1), (1, 1)], [.int .u8 0, .int .u8 0]) := by kernel_rfl
theorem ty_field_186_0 : fieldT Tryz.prog 186 0 = some (0, 0 + 1) := by kernel_rfl
theorem ty_field_186_1 : fieldT Tryz.prog 186 1 = some (1, 0 + 1) := by kernel_rfl
theorem ty_size_186 : sizeT Tryz.prog 186 = some 2 := by kernel_rfl
theorem ty_agg_187 : aggT Tryz.prog 187 = true := by kernel_rfl
theorem ty_bld_187 : bldT Tryz.prog 187 = some ([(0, 1), (1, 1)], [.int .u8 0, .int .u8 0]) := by kernel_rfl
theorem ty_field_187_0 : fieldT Tryz.prog 187 0 = some (0, 0 + 1) := by kernel_rfl
theorem ty_field_187_1 : fieldT Tryz.prog 187 1 = some (1, 0 + 1) := by kernel_rfl
theorem ty_size_187 : sizeT Tryz.prog 187 = some 2 := by kernel_rfl
theorem ty_agg_188 : aggT Tryz.prog 188 = true := by kernel_rfl
theorem ty_size_188 : sizeT Tryz.prog 188 = some 32 := by kernel_rfl
theorem ty_plain_189 : plainT Tryz.prog 189 = true := by kernel_rfl
theorem ty_size_189 : sizeT Tryz.prog 189 = some 1 := by kernel_rfl
theorem ty_plain_190 : plainT Tryz.prog 190 = true := by kernel_rfl
theorem ty_size_190 : sizeT Tryz.prog 190 = some 1 := by kernel_rfl
theorem ty_agg_191 : aggT Tryz.prog 191 = true := by kernel_rfl
theorem ty_bld_191 : bldT Tryz.prog 191 = some ([(0, 1), (1, 1), (2, 1), (3, 1)], [.pointer none, .pointer none, .pointer none, .string ByteArray.empty]) := by kernel_rfl
theorem ty_field_191_0 : fieldT Tryz.prog 191 0 = some (0, 0 + 1) := by kernel_rfl
theorem ty_field_191_1 : fieldT Tryz.prog 191 1 = some (1, 0 + 1) := by kernel_rfl
theorem ty_field_191_2 : fieldT Tryz.prog 191 2 = some (2, 0 + 1) := by kernel_rfl
theorem ty_field_191_3 : fieldT Tryz.prog 191 3 = some (3, 0 + 1) := by kernel_rfl
theorem ty_size_191 : sizeT Tryz.prog 191 = some 4 := by kernel_rfl
theorem ty_agg_192 : aggT Tryz.prog 192 = true := by kernel_rfl
theorem ty_bld_192 : bldT Tryz.prog 192 = some ([(0, 1), (1, 1), (2, 1), (3, 1)], [.pointer none, .pointer none, .pointer none, .string ByteArray.empty]) := by kernel_rfl
theorem ty_field_192_0 : fieldT Tryz.prog 192 0 = some (0, 0 + 1) := by kernel_rfl
theorem ty_field_192_1 : fieldT Tryz.prog 192 1 = some (1, 0 + 1) := by kernel_rfl
theorem ty_field_192_2 : fieldT Tryz.prog 192 2 = some (2, 0 + 1) := by kernel_rfl
theorem ty_field_192_3 : fieldT Tryz.prog 192 3 = some (3, 0 + 1) := by kernel_rfl
theorem ty_size_192 : sizeT Tryz.prog 192 = some 4 := by kernel_rfl
theorem ty_agg_193 : aggT Tryz.prog 193 = true := by kernel_rfl
theorem ty_size_193 : sizeT Tryz.prog 193 = some 0 := by kernel_rfl
theorem ty_agg_194 : aggT Tryz.prog 194 = true := by kernel_rfl
theorem ty_bld_194 : bldT Tryz.prog 194 = some ([(0, 0)], []) := by kernel_rfl
theorem ty_size_194 : sizeT Tryz.prog 194 = some 0 := by kernel_rfl
theorem ty_agg_195 : aggT Tryz.prog 195 = true := by kernel_rfl
theorem ty_bld_195 : bldT Tryz.prog 195 = some ([(0, 0)], []) := by kernel_rfl
theorem ty_size_195 : sizeT Tryz.prog 195 = some 0 := by kernel_rfl
theorem ty_plain_196 : plainT Tryz.prog 196 = true := by kernel_rfl
theorem ty_size_196 : sizeT Tryz.prog 196 = some 1 := by kernel_rfl
theorem ty_plain_197 : plainT Tryz.prog 197 = true := by kernel_rfl
theorem ty_size_197 : sizeT Tryz.prog 197 = some 1 := by kernel_rfl
theorem ty_plain_198 : plainT Tryz.prog 198 = true := by kernel_rfl
theorem ty_size_198 : sizeT Tryz.prog 198 = some 1 := by kernel_rfl
theorem ty_plain_199 : plainT Tryz.prog 199 = true := by kernel_rfl
theorem ty_size_199 : sizeT Tryz.prog 199 = some 1 := by kernel_rfl
theorem ty_plain_200 : plainT Tryz.prog 200 = true := by kernel_rfl
theorem ty_size_200 : sizeT Tryz.prog 200 = some 1 := by kernel_rfl
theorem ty_agg_201 : aggT Tryz.prog 201 = true := by kernel_rfl
theorem ty_bld_201 : bldT Tryz.prog 201 = some ([(0, 1), (1, 1), (2, 1), (3, 1), (4, 1), (5, 1), (6, 1), (7, 1), (8, 1), (9, 1), (10, 1)], [.int .u64 0, .int .u64 0, .int .u32 0, .int .u8 0, .int .u8 0, .int .u8 0, .int .u8 0, .nilFunc, .pointer none, .int .i32 0, .int .i32 0]) := by kernel_rfl
theorem ty_field_201_0 : fieldT Tryz.prog 201 0 = some (0, 0 + 1) := by kernel_rfl
theorem ty_field_201_1 : fieldT Tryz.prog 201 1 = some (1, 0 + 1) := by kernel_rfl
theorem ty_field_201_2 : fieldT Tryz.prog 201 2 = some (2, 0 + 1) := by kernel_rfl
theorem ty_field_201_3 : fieldT Tryz.prog 201 3 = some (3, 0 + 1) := by kernel_rfl
theorem ty_field_201_4 : fieldT Tryz.prog 201 4 = some (4, 0 + 1) := by kernel_rfl
theorem ty_field_201_5 : fieldT Tryz.prog 201 5 = some (5, 0 + 1) := by kernel_rfl
theorem ty_field_201_6 : fieldT Tryz.prog 201 6 = some (6, 0 + 1) := by kernel_rfl
theorem ty_field_201_7 : fieldT Tryz.prog 201 7 = some (7, 0 + 1) := by kernel_rfl
theorem ty_field_201_8 : fieldT Tryz.prog 201 8 = some (8, 0 + 1) := by kernel_rfl
theorem ty_field_201_9 : fieldT Tryz.prog 201 9 = some (9, 0 + 1) := by kernel_rfl
theorem ty_field_201_10 : fieldT Tryz.prog 201 10 = some (10, 0 + 1) := by kernel_rfl
theorem ty_size_201 : sizeT Tryz.prog 201 = some 11 := by kernel_rfl
theorem ty_agg_202 : aggT Tryz.prog 202 = true := by kernel_rfl
theorem ty_bld_202 : bldT Tryz.prog 202 = some ([(0, 1), (1, 1), (2, 1), (3, 1), (4, 1), (5, 1), (6, 1), (7, 1), (8, 1), (9, 1), (10, 1)], [.int .u64 0, .int .u64 0, .int .u32 0, .int .u8 0, .int .u8 0, .int .u8 0, .int .u8 0, .nilFunc, .pointer none, .int .i32 0, .int .i32 0]) := by kernel_rfl
theorem ty_field_202_0 : fieldT Tryz.prog 202 0 = some (0, 0 + 1) := by kernel_rfl
theorem ty_field_202_1 : fieldT Tryz.prog 202 1 = some (1, 0 + 1) := by kernel_rfl
theorem ty_field_202_2 : fieldT Tryz.prog 202 2 = some (2, 0 + 1) := by kernel_rfl
theorem ty_field_202_3 : fieldT Tryz.prog 202 3 = some (3, 0 + 1) := by kernel_rfl
theorem ty_field_202_4 : fieldT Tryz.prog 202 4 = some (4, 0 + 1) := by kernel_rfl
theorem ty_field_202_5 : fieldT Tryz.prog 202 5 = some (5, 0 + 1) := by kernel_rfl
theorem ty_field_202_6 : fieldT Tryz.prog 202 6 = some (6, 0 + 1) := by kernel_rfl
theorem ty_field_202_7 : fieldT Tryz.prog 202 7 = some (7, 0 + 1) := by kernel_rfl
theorem ty_field_202_8 : fieldT Tryz.prog 202 8 = some (8, 0 + 1) := by kernel_rfl
theorem ty_field_202_9 : fieldT Tryz.prog 202 9 = some (9, 0 + 1) := by kernel_rfl
theorem ty_field_202_10 : fieldT Tryz.prog 202 10 = some (10, 0 + 1) := by kernel_rfl
theorem ty_size_202 : sizeT Tryz.prog 202 = some 11 := by kernel_rfl
theorem go_3 : goFn Tryz.prog 3 = true := by kernel_rfl
theorem go_4 : goFn Tryz.prog 4 = true := by kernel_rfl
theorem go_5 : goFn Tryz.prog 5 = true := by kernel_rfl
theorem go_6 : goFn Tryz.prog 6 = true := by kernel_rfl
theorem go_7 : goFn Tryz.prog 7 = true := by kernel_rfl
theorem go_8 : goFn Tryz.prog 8 = true := by kernel_rfl
theorem go_9 : goFn Tryz.prog 9 = true := by kernel_rfl
theorem go_10 : goFn Tryz.prog 10 = true := by kernel_rfl
theorem go_11 : goFn Tryz.prog 11 = true := by kernel_rfl
theorem go_12 : goFn Tryz.prog 12 = true := by kernel_rfl
theorem go_13 : goFn Tryz.prog 13 = true := by kernel_rfl
theorem go_14 : goFn Tryz.prog 14 = true := by kernel_rfl
theorem go_15 : goFn Tryz.prog 15 = true := by kernel_rfl
theorem go_16 : goFn Tryz.prog 16 = true := by kernel_rfl
theorem go_17 : goFn Tryz.prog 17 = true := by kernel_rfl
theorem go_18 : goFn Tryz.prog 18 = true := by kernel_rfl
theorem go_19 : goFn Tryz.prog 19 = true := by kernel_rfl
theorem go_20 : goFn Tryz.prog 20 = true := by kernel_rfl
theorem go_21 : goFn Tryz.prog 21 = true := by kernel_rfl
theorem go_22 : goFn Tryz.prog 22 = true := by kernel_rfl
theorem go_23 : goFn Tryz.prog 23 = true := by kernel_rfl
theorem go_24 : goFn Tryz.prog 24 = true := by kernel_rfl
theorem go_25 : goFn Tryz.prog 25 = true := by kernel_rfl
theorem go_26 : goFn Tryz.prog 26 = true := by kernel_rfl
theorem go_27 : goFn Tryz.prog 27 = true := by kernel_rfl
theorem go_28 : goFn Tryz.prog 28 = true := by kernel_rfl
theorem go_29 : goFn Tryz.prog 29 = true := by kernel_rfl
theorem go_30 : goFn Tryz.prog 30 = true := by kernel_rfl
theorem go_31 : goFn Tryz.prog 31 = true := by kernel_rfl
theorem go_32 : goFn Tryz.prog 32 = true := by kernel_rfl
theorem go_33 : goFn Tryz.prog 33 = true := by kernel_rfl
theorem go_34 : goFn Tryz.prog 34 = true := by kernel_rfl
theorem go_35 : goFn Tryz.prog 35 = true := by kernel_rfl
theorem go_36 : goFn Tryz.prog 36 = true := by kernel_rfl
theorem go_37 : goFn Tryz.prog 37 = true := by kernel_rfl
theorem go_38 : goFn Tryz.prog 38 = true := by kernel_rfl
theorem go_39 : goFn Tryz.prog 39 = true := by kernel_rfl
theorem go_40 : goFn Tryz.prog 40 = true := by kernel_rfl
theorem go_41 : goFn Tryz.prog 41 = true := by kernel_rfl
theorem go_42 : goFn Tryz.prog 42 = true := by kernel_rfl
theorem go_43 : goFn Tryz.prog 43 = true := by kernel_rfl
theorem go_44 : goFn Tryz.prog 44 = true := by kernel_rfl
theorem go_45 : goFn Tryz.prog 45 = true := by kernel_rfl
theorem go_46 : goFn Tryz.prog 46 = true := by kernel_rfl
theorem go_47 : goFn Tryz.prog 47 = true := by kernel_rfl
theorem go_48 : goFn Tryz.prog 48 = true := by kernel_rfl
theorem go_49 : goFn Tryz.prog 49 = true := by kernel_rfl
theorem go_50 : goFn Tryz.prog 50 = true := by kernel_rfl
theorem go_51 : goFn Tryz.prog 51 = true := by kernel_rfl
theorem go_52 : goFn Tryz.prog 52 = true := by kernel_rfl
theorem go_53 : goFn Tryz.prog 53 = true := by kernel_rfl
theorem go_54 : goFn Tryz.prog 54 = true := by kernel_rfl
theorem go_55 : goFn Tryz.prog 55 = true := by kernel_rfl
theorem go_56 : goFn Tryz.prog 56 = true := by kernel_rfl
theorem go_57 : goFn Tryz.prog 57 = true := by kernel_rfl
theorem go_58 : goFn Tryz.prog 58 = true := by kernel_rfl
theorem go_59 : goFn Tryz.prog 59 = true := by kernel_rfl
theorem go_60 : goFn Tryz.prog 60 = true := by kernel_rfl
theorem go_61 : goFn Tryz.prog 61 = true := by kernel_rfl
theorem go_63 : goFn Tryz.prog 63 = true := by kernel_rfl
theorem go_64 : goFn Tryz.prog 64 = true := by kernel_rfl
theorem go_65 : goFn Tryz.prog 65 = true := by kernel_rfl
theorem go_66 : goFn Tryz.prog 66 = true := by kernel_rfl
theorem go_67 : goFn Tryz.prog 67 = true := by kernel_rfl
theorem go_68 : goFn Tryz.prog 68 = true := by kernel_rfl
theorem go_69 : goFn Tryz.prog 69 = true := by kernel_rfl
theorem go_70 : goFn Tryz.prog 70 = true := by kernel_rfl
theorem go_71 : goFn Tryz.prog 71 = true := by kernel_rfl
theorem go_72 : goFn Tryz.prog 72 = true := by kernel_rfl
theorem go_73 : goFn Tryz.prog 73 = true := by kernel_rfl
theorem go_74 : goFn Tryz.prog 74 = true := by kernel_rfl
theorem go_75 : goFn Tryz.prog 75 = true := by kernel_rfl
theorem go_76 : goFn Tryz.prog 76 = true := by kernel_rfl
theorem go_77 : goFn Tryz.prog 77 = true := by kernel_rfl
theorem go_78 : goFn Tryz.prog 78 = true := by kernel_rfl
theorem go_79 : goFn Tryz.prog 79 = true := by kernel_rfl
theorem go_80 : goFn Tryz.prog 80 = true := by kernel_rfl
theorem go_81 : goFn Tryz.prog 81 = true := by kernel_rfl
theorem go_82 : goFn Tryz.prog 82 = true := by kernel_rfl
theorem go_83 : goFn Tryz.prog 83 = true := by kernel_rfl
theorem go_84 : goFn Tryz.prog 84 = true := by kernel_rfl
theorem go_85 : goFn Tryz.prog 85 = true := by kernel_rfl
theorem go_86 : goFn Tryz.prog 86 = true := by kernel_rfl
theorem go_87 : goFn Tryz.prog 87 = true := by kernel_rfl
theorem go_89 : goFn Tryz.prog 89 = true := by kernel_rfl
theorem go_90 : goFn Tryz.prog 90 = true := by kernel_rfl
theorem go_91 : goFn Tryz.prog 91 = true := by kernel_rfl
theorem go_92 : goFn Tryz.prog 92 = true := by kernel_rfl
theorem go_93 : goFn Tryz.prog 93 = true := by kernel_rfl
theorem go_94 : goFn Tryz.prog 94 = true := by kernel_rfl
theorem go_95 : goFn Tryz.prog 95 = true := by kernel_rfl
theorem go_96 : goFn Tryz.prog 96 = true := by kernel_rfl
theorem go_97 : goFn Tryz.prog 97 = true := by kernel_rfl
theorem go_98 : goFn Tryz.prog 98 = true := by kernel_rfl
theorem go_99 : goFn Tryz.prog 99 = true := by kernel_rfl
theorem go_100 : goFn Tryz.prog 100 = true := by kernel_rfl
theorem go_101 : goFn Tryz.prog 101 = true := by kernel_rfl
theorem go_102 : goFn Tryz.prog 102 = true := by kernel_rfl
theorem go_103 : goFn Tryz.prog 103 = true := by kernel_rfl
theorem go_104 : goFn Tryz.prog 104 = true := by kernel_rfl
theorem go_105 : goFn Tryz.prog 105 = true := by kernel_rfl
theorem go_106 : goFn Tryz.prog 106 = true := by kernel_rfl
theorem go_107 : goFn Tryz.prog 107 = true := by kernel_rfl
theorem go_108 : goFn Tryz.prog 108 = true := by kernel_rfl
theorem go_109 : goFn Tryz.prog 109 = true := by kernel_rfl
theorem go_110 : goFn Tryz.prog 110 = true := by kernel_rfl
theorem go_111 : goFn Tryz.prog 111 = true := by kernel_rfl
theorem go_112 : goFn Tryz.prog 112 = true := by kernel_rfl
theorem go_113 : goFn Tryz.prog 113 = true := by kernel_rfl
theorem go_114 : goFn Tryz.prog 114 = true := by kernel_rfl
theorem go_115 : goFn Tryz.prog 115 = true := by kernel_rfl
theorem go_116 : goFn Tryz.prog 116 = true := by kernel_rfl
theorem go_117 : goFn Tryz.prog 117 = true := by kernel_rfl
theorem go_118 : goFn Tryz.prog 118 = true := by kernel_rfl
theorem go_119 : goFn Tryz.prog 119 = true := by kernel_rfl
theorem go_121 : goFn Tryz.prog 121 = true := by kernel_rfl
theorem go_122 : goFn Tryz.prog 122 = true := by kernel_rfl
theorem go_123 : goFn Tryz.prog 123 = true := by kernel_rfl
theorem go_124 : goFn Tryz.prog 124 = true := by kernel_rfl
theorem go_125 : goFn Tryz.prog 125 = true := by kernel_rfl
theorem go_126 : goFn Tryz.prog 126 = true := by kernel_rfl
theorem go_127 : goFn Tryz.prog 127 = true := by kernel_rfl
theorem go_129 : goFn Tryz.prog 129 = true := by kernel_rfl
instance : TPlain Tryz.prog 1 := ⟨ty_plain_1⟩
instance : TSize Tryz.prog 1 1 := ⟨ty_size_1⟩
instance : TPlain Tryz.prog 2 := ⟨ty_plain_2⟩
instance : TSize Tryz.prog 2 1 := ⟨ty_size_2⟩
instance : TPlain Tryz.prog 3 := ⟨ty_plain_3⟩
instance : TSize Tryz.prog 3 1 := ⟨ty_size_3⟩
instance : TPlain Tryz.prog 4 := ⟨ty_plain_4⟩
instance : TSize Tryz.prog 4 1 := ⟨ty_size_4⟩
instance : TPlain Tryz.prog 5 := ⟨ty_plain_5⟩
instance : TSize Tryz.prog 5 1 := ⟨ty_size_5⟩
instance : TPlain Tryz.prog 6 := ⟨ty_plain_6⟩
instance : TSize Tryz.prog 6 1 := ⟨ty_size_6⟩
instance : TAgg Tryz.prog 7 := ⟨ty_agg_7⟩
instance : TBld Tryz.prog 7 ([(0, 1), (1, 1), (2, 1), (3, 1)], [.int .i64 0, .int .i64 0, .bool false, .int .u8 0]) := ⟨ty_bld_7⟩
instance : TField Tryz.prog 7 0 0 0 := ⟨ty_field_7_0⟩
instance : TField Tryz.prog 7 1 1 0 := ⟨ty_field_7_1⟩
instance : TField Tryz.prog 7 2 2 0 := ⟨ty_field_7_2⟩
instance : TField Tryz.prog 7 3 3 0 := ⟨ty_field_7_3⟩
instance : TSize Tryz.prog 7 4 := ⟨ty_size_7⟩
instance : TAgg Tryz.prog 8 := ⟨ty_agg_8⟩
instance : TBld Tryz.prog 8 ([(0, 1), (1, 1), (2, 1), (3, 1)], [.int .i64 0, .int .i64 0, .bool false, .int .u8 0]) := ⟨ty_bld_8⟩
instance : TField Tryz.prog 8 0 0 0 := ⟨ty_field_8_0⟩
instance : TField Tryz.prog 8 1 1 0 := ⟨ty_field_8_1⟩
instance : TField Tryz.prog 8 2 2 0 := ⟨ty_field_8_2⟩
instance : TField Tryz.prog 8 3 3 0 := ⟨ty_field_8_3⟩
instance : TSize Tryz.prog 8 4 := ⟨ty_size_8⟩
instance : TPlain Tryz.prog 9 := ⟨ty_plain_9⟩
instance : TSize Tryz.prog 9 1 := ⟨ty_size_9⟩
instance : TStr Tryz.prog 9 := ⟨ty_str_9⟩
instance : TPlain Tryz.prog 10 := ⟨ty_plain_10⟩
instance : TSize Tryz.prog 10 1 := ⟨ty_size_10⟩
instance : TStr Tryz.prog 10 := ⟨ty_str_10⟩
instance : TPlain Tryz.prog 11 := ⟨ty_plain_11⟩
instance : TSize Tryz.prog 11 1 := ⟨ty_size_11⟩
instance : TStr Tryz.prog 11 := ⟨ty_str_11⟩
instance : TPlain Tryz.prog 12 := ⟨ty_plain_12⟩
instance : TSize Tryz.prog 12 1 := ⟨ty_size_12⟩
instance : TAgg Tryz.prog 13 := ⟨ty_agg_13⟩
instance : TBld Tryz.prog 13 ([(0, 1), (1, 1)], [.string ByteArray.empty, .int .u64 0]) := ⟨ty_bld_13⟩
instance : TField Tryz.prog 13 0 0 0 := ⟨ty_field_13_0⟩
instance : TField Tryz.prog 13 1 1 0 := ⟨ty_field_13_1⟩
instance : TSize Tryz.prog 13 2 := ⟨ty_size_13⟩
instance : TAgg Tryz.prog 14 := ⟨ty_agg_14⟩
instance : TBld Tryz.prog 14 ([(0, 1), (1, 1)], [.string ByteArray.empty, .int .u64 0]) := ⟨ty_bld_14⟩
instance : TField Tryz.prog 14 0 0 0 := ⟨ty_field_14_0⟩
instance : TField Tryz.prog 14 1 1 0 := ⟨ty_field_14_1⟩
instance : TSize Tryz.prog 14 2 := ⟨ty_size_14⟩
instance : TPlain Tryz.prog 15 := ⟨ty_plain_15⟩
instance : TSize Tryz.prog 15 1 := ⟨ty_size_15⟩
instance : TPlain Tryz.prog 16 := ⟨ty_plain_16⟩
instance : TSize Tryz.prog 16 1 := ⟨ty_size_16⟩
instance : TPlain Tryz.prog 17 := ⟨ty_plain_17⟩
instance : TSize Tryz.prog 17 1 := ⟨ty_size_17⟩
instance : TAgg Tryz.prog 18 := ⟨ty_agg_18⟩
instance : TBld Tryz.prog 18 ([(0, 1)], [.pointer none]) := ⟨ty_bld_18⟩
instance : TField Tryz.prog 18 0 0 0 := ⟨ty_field_18_0⟩
instance : TSize Tryz.prog 18 1 := ⟨ty_size_18⟩
instance : TAgg Tryz.prog 19 := ⟨ty_agg_19⟩
instance : TBld Tryz.prog 19 ([(0, 1)], [.pointer none]) := ⟨ty_bld_19⟩
instance : TField Tryz.prog 19 0 0 0 := ⟨ty_field_19_0⟩
instance : TSize Tryz.prog 19 1 := ⟨ty_size_19⟩
instance : TPlain Tryz.prog 20 := ⟨ty_plain_20⟩
instance : TSize Tryz.prog 20 1 := ⟨ty_size_20⟩
instance : TPlain Tryz.prog 21 := ⟨ty_plain_21⟩
instance : TSize Tryz.prog 21 1 := ⟨ty_size_21⟩
instance : TPlain Tryz.prog 22 := ⟨ty_plain_22⟩
instance : TSize Tryz.prog 22 1 := ⟨ty_size_22⟩
instance : TPlain Tryz.prog 23 := ⟨ty_plain_23⟩
instance : TSize Tryz.prog 23 1 := ⟨ty_size_23⟩
instance : TPlain Tryz.prog 24 := ⟨ty_plain_24⟩
instance : TSize Tryz.prog 24 1 := ⟨ty_size_24⟩
instance : TPlain Tryz.prog 25 := ⟨ty_plain_25⟩
instance : TSize Tryz.prog 25 1 := ⟨ty_size_25⟩
instance : TPlain Tryz.prog 26 := ⟨ty_plain_26⟩
instance : TSize Tryz.prog 26 1 := ⟨ty_size_26⟩
instance : TAgg Tryz.prog 27 := ⟨ty_agg_27⟩
instance : TBld Tryz.prog 27 ([(0, 1), (1, 1), (2, 1), (3, 1), (4, 1)], [.int .i64 0, .slice none 0 0, .slice none 0 0, .int .i64 0, .bool false]) := ⟨ty_bld_27⟩
instance : TField Tryz.prog 27 0 0 0 := ⟨ty_field_27_0⟩
instance : TField Tryz.prog 27 1 1 0 := ⟨ty_field_27_1⟩
instance : TField Tryz.prog 27 2 2 0 := ⟨ty_field_27_2⟩
instance : TField Tryz.prog 27 3 3 0 := ⟨ty_field_27_3⟩
instance : TField Tryz.prog 27 4 4 0 := ⟨ty_field_27_4⟩
instance : TSize Tryz.prog 27 5 := ⟨ty_size_27⟩
instance : TAgg Tryz.prog 28 := ⟨ty_agg_28⟩
instance : TBld Tryz.prog 28 ([(0, 1), (1, 1), (2, 1), (3, 1), (4, 1)], [.int .i64 0, .slice none 0 0, .slice none 0 0, .int .i64 0, .bool false]) := ⟨ty_bld_28⟩
instance : TField Tryz.prog 28 0 0 0 := ⟨ty_field_28_0⟩
instance : TField Tryz.prog 28 1 1 0 := ⟨ty_field_28_1⟩
instance : TField Tryz.prog 28 2 2 0 := ⟨ty_field_28_2⟩
instance : TField Tryz.prog 28 3 3 0 := ⟨ty_field_28_3⟩
instance : TField Tryz.prog 28 4 4 0 := ⟨ty_field_28_4⟩
instance : TSize Tryz.prog 28 5 := ⟨ty_size_28⟩
instance : TPlain Tryz.prog 29 := ⟨ty_plain_29⟩
instance : TSize Tryz.prog 29 1 := ⟨ty_size_29⟩
instance : TPlain Tryz.prog 31 := ⟨ty_plain_31⟩
instance : TSize Tryz.prog 31 1 := ⟨ty_size_31⟩
instance : TPlain Tryz.prog 32 := ⟨ty_plain_32⟩
instance : TSize Tryz.prog 32 1 := ⟨ty_size_32⟩
instance : TPlain Tryz.prog 34 := ⟨ty_plain_34⟩
instance : TSize Tryz.prog 34 1 := ⟨ty_size_34⟩
instance : TPlain Tryz.prog 35 := ⟨ty_plain_35⟩
instance : TSize Tryz.prog 35 1 := ⟨ty_size_35⟩
instance : TAgg Tryz.prog 36 := ⟨ty_agg_36⟩
instance : TBld Tryz.prog 36 ([(0, 1), (1, 1)], [.slice none 0 0, .slice none 0 0]) := ⟨ty_bld_36⟩
instance : TField Tryz.prog 36 0 0 0 := ⟨ty_field_36_0⟩
instance : TField Tryz.prog 36 1 1 0 := ⟨ty_field_36_1⟩
instance : TSize Tryz.prog 36 2 := ⟨ty_size_36⟩
instance : TAgg Tryz.prog 37 := ⟨ty_agg_37⟩
instance : TBld Tryz.prog 37 ([(0, 1), (1, 1)], [.slice none 0 0, .slice none 0 0]) := ⟨ty_bld_37⟩
instance : TField Tryz.prog 37 0 0 0 := ⟨ty_field_37_0⟩
instance : TField Tryz.prog 37 1 1 0 := ⟨ty_field_37_1⟩
instance : TSize Tryz.prog 37 2 := ⟨ty_size_37⟩
instance : TPlain Tryz.prog 39 := ⟨ty_plain_39⟩
instance : TSize Tryz.prog 39 1 := ⟨ty_size_39⟩
instance : TPlain Tryz.prog 40 := ⟨ty_plain_40⟩
instance : TSize Tryz.prog 40 1 := ⟨ty_size_40⟩
instance : TPlain Tryz.prog 42 := ⟨ty_plain_42⟩
instance : TSize Tryz.prog 42 1 := ⟨ty_size_42⟩
instance : TPlain Tryz.prog 43 := ⟨ty_plain_43⟩
instance : TSize Tryz.prog 43 1 := ⟨ty_size_43⟩
instance : TPlain Tryz.prog 44 := ⟨ty_plain_44⟩
instance : TSize Tryz.prog 44 1 := ⟨ty_size_44⟩
instance : TPlain Tryz.prog 45 := ⟨ty_plain_45⟩
instance : TSize Tryz.prog 45 1 := ⟨ty_size_45⟩
instance : TAgg Tryz.prog 46 := ⟨ty_agg_46⟩
instance : TBld Tryz.prog 46 ([(0, 1), (1, 1)], [.string ByteArray.empty, .int .i64 0]) := ⟨ty_bld_46⟩
instance : TField Tryz.prog 46 0 0 0 := ⟨ty_field_46_0⟩
instance : TField Tryz.prog 46 1 1 0 := ⟨ty_field_46_1⟩
instance : TSize Tryz.prog 46 2 := ⟨ty_size_46⟩
instance : TAgg Tryz.prog 47 := ⟨ty_agg_47⟩
instance : TBld Tryz.prog 47 ([(0, 1), (1, 1)], [.string ByteArray.empty, .int .i64 0]) := ⟨ty_bld_47⟩
instance : TField Tryz.prog 47 0 0 0 := ⟨ty_field_47_0⟩
instance : TField Tryz.prog 47 1 1 0 := ⟨ty_field_47_1⟩
instance : TSize Tryz.prog 47 2 := ⟨ty_size_47⟩
instance : TPlain Tryz.prog 49 := ⟨ty_plain_49⟩
instance : TSize Tryz.prog 49 1 := ⟨ty_size_49⟩
instance : TPlain Tryz.prog 50 := ⟨ty_plain_50⟩
instance : TSize Tryz.prog 50 1 := ⟨ty_size_50⟩
instance : TPlain Tryz.prog 52 := ⟨ty_plain_52⟩
instance : TSize Tryz.prog 52 1 := ⟨ty_size_52⟩
instance : TPlain Tryz.prog 53 := ⟨ty_plain_53⟩
instance : TSize Tryz.prog 53 1 := ⟨ty_size_53⟩
instance : TPlain Tryz.prog 54 := ⟨ty_plain_54⟩
instance : TSize Tryz.prog 54 1 := ⟨ty_size_54⟩
instance : TPlain Tryz.prog 55 := ⟨ty_plain_55⟩
instance : TSize Tryz.prog 55 1 := ⟨ty_size_55⟩
instance : TBytes Tryz.prog 55 5 := ⟨ty_bytes_55⟩
instance : TAgg Tryz.prog 56 := ⟨ty_agg_56⟩
instance : TBld Tryz.prog 56 ([(0, 1), (1, 1)], [.pointer none, .slice none 0 0]) := ⟨ty_bld_56⟩
instance : TField Tryz.prog 56 0 0 0 := ⟨ty_field_56_0⟩
instance : TField Tryz.prog 56 1 1 0 := ⟨ty_field_56_1⟩
instance : TSize Tryz.prog 56 2 := ⟨ty_size_56⟩
instance : TAgg Tryz.prog 57 := ⟨ty_agg_57⟩
instance : TBld Tryz.prog 57 ([(0, 1), (1, 1)], [.pointer none, .slice none 0 0]) := ⟨ty_bld_57⟩
instance : TField Tryz.prog 57 0 0 0 := ⟨ty_field_57_0⟩
instance : TField Tryz.prog 57 1 1 0 := ⟨ty_field_57_1⟩
instance : TSize Tryz.prog 57 2 := ⟨ty_size_57⟩
instance : TPlain Tryz.prog 59 := ⟨ty_plain_59⟩
instance : TSize Tryz.prog 59 1 := ⟨ty_size_59⟩
instance : TPlain Tryz.prog 60 := ⟨ty_plain_60⟩
instance : TSize Tryz.prog 60 1 := ⟨ty_size_60⟩
instance : TPlain Tryz.prog 61 := ⟨ty_plain_61⟩
instance : TSize Tryz.prog 61 1 := ⟨ty_size_61⟩
instance : TPlain Tryz.prog 63 := ⟨ty_plain_63⟩
instance : TSize Tryz.prog 63 1 := ⟨ty_size_63⟩
instance : TPlain Tryz.prog 64 := ⟨ty_plain_64⟩
instance : TSize Tryz.prog 64 1 := ⟨ty_size_64⟩
instance : TPlain Tryz.prog 65 := ⟨ty_plain_65⟩
instance : TSize Tryz.prog 65 1 := ⟨ty_size_65⟩
instance : TPlain Tryz.prog 67 := ⟨ty_plain_67⟩
instance : TSize Tryz.prog 67 1 := ⟨ty_size_67⟩
instance : TPlain Tryz.prog 69 := ⟨ty_plain_69⟩
instance : TSize Tryz.prog 69 1 := ⟨ty_size_69⟩
instance : TAgg Tryz.prog 70 := ⟨ty_agg_70⟩
instance : TBld Tryz.prog 70 ([(0, 2)], [.slice none 0 0, .slice none 0 0]) := ⟨ty_bld_70⟩
instance : TField Tryz.prog 70 0 0 1 := ⟨ty_field_70_0⟩
instance : TSize Tryz.prog 70 2 := ⟨ty_size_70⟩
instance : TAgg Tryz.prog 71 := ⟨ty_agg_71⟩
instance : TBld Tryz.prog 71 ([(0, 2)], [.slice none 0 0, .slice none 0 0]) := ⟨ty_bld_71⟩
instance : TField Tryz.prog 71 0 0 1 := ⟨ty_field_71_0⟩
instance : TSize Tryz.prog 71 2 := ⟨ty_size_71⟩
instance : TPlain Tryz.prog 72 := ⟨ty_plain_72⟩
instance : TSize Tryz.prog 72 1 := ⟨ty_size_72⟩
instance : TPlain Tryz.prog 73 := ⟨ty_plain_73⟩
instance : TSize Tryz.prog 73 1 := ⟨ty_size_73⟩
instance : TPlain Tryz.prog 74 := ⟨ty_plain_74⟩
instance : TSize Tryz.prog 74 1 := ⟨ty_size_74⟩
instance : TPlain Tryz.prog 75 := ⟨ty_plain_75⟩
instance : TSize Tryz.prog 75 1 := ⟨ty_size_75⟩
instance : TPlain Tryz.prog 77 := ⟨ty_plain_77⟩
instance : TSize Tryz.prog 77 1 := ⟨ty_size_77⟩
instance : TPlain Tryz.prog 78 := ⟨ty_plain_78⟩
instance : TSize Tryz.prog 78 1 := ⟨ty_size_78⟩
instance : TPlain Tryz.prog 79 := ⟨ty_plain_79⟩
instance : TSize Tryz.prog 79 1 := ⟨ty_size_79⟩
instance : TPlain Tryz.prog 80 := ⟨ty_plain_80⟩
instance : TSize Tryz.prog 80 1 := ⟨ty_size_80⟩
instance : TPlain Tryz.prog 81 := ⟨ty_plain_81⟩
instance : TSize Tryz.prog 81 1 := ⟨ty_size_81⟩
instance : TPlain Tryz.prog 82 := ⟨ty_plain_82⟩
instance : TSize Tryz.prog 82 1 := ⟨ty_size_82⟩
instance : TPlain Tryz.prog 83 := ⟨ty_plain_83⟩
instance : TSize Tryz.prog 83 1 := ⟨ty_size_83⟩
instance : TPlain Tryz.prog 84 := ⟨ty_plain_84⟩
instance : TSize Tryz.prog 84 1 := ⟨ty_size_84⟩
instance : TAgg Tryz.prog 85 := ⟨ty_agg_85⟩
instance : TBld Tryz.prog 85 ([(0, 1), (1, 1), (2, 1)], [.slice none 0 0, .int .u64 0, .int .i64 0]) := ⟨ty_bld_85⟩
instance : TField Tryz.prog 85 0 0 0 := ⟨ty_field_85_0⟩
instance : TField Tryz.prog 85 1 1 0 := ⟨ty_field_85_1⟩
instance : TField Tryz.prog 85 2 2 0 := ⟨ty_field_85_2⟩
instance : TSize Tryz.prog 85 3 := ⟨ty_size_85⟩
instance : TAgg Tryz.prog 86 := ⟨ty_agg_86⟩
instance : TBld Tryz.prog 86 ([(0, 1), (1, 1), (2, 1)], [.slice none 0 0, .int .u64 0, .int .i64 0]) := ⟨ty_bld_86⟩
instance : TField Tryz.prog 86 0 0 0 := ⟨ty_field_86_0⟩
instance : TField Tryz.prog 86 1 1 0 := ⟨ty_field_86_1⟩
instance : TField Tryz.prog 86 2 2 0 := ⟨ty_field_86_2⟩
instance : TSize Tryz.prog 86 3 := ⟨ty_size_86⟩
instance : TPlain Tryz.prog 87 := ⟨ty_plain_87⟩
instance : TSize Tryz.prog 87 1 := ⟨ty_size_87⟩
instance : TPlain Tryz.prog 88 := ⟨ty_plain_88⟩
instance : TSize Tryz.prog 88 1 := ⟨ty_size_88⟩
instance : TPlain Tryz.prog 89 := ⟨ty_plain_89⟩
instance : TSize Tryz.prog 89 1 := ⟨ty_size_89⟩
instance : TPlain Tryz.prog 90 := ⟨ty_plain_90⟩
instance : TSize Tryz.prog 90 1 := ⟨ty_size_90⟩
instance : TPlain Tryz.prog 91 := ⟨ty_plain_91⟩
instance : TSize Tryz.prog 91 1 := ⟨ty_size_91⟩
instance : TPlain Tryz.prog 93 := ⟨ty_plain_93⟩
instance : TSize Tryz.prog 93 1 := ⟨ty_size_93⟩
instance : TAgg Tryz.prog 94 := ⟨ty_agg_94⟩
instance : TBld Tryz.prog 94 ([(0, 5)], [.int .i64 0, .slice none 0 0, .slice none 0 0, .int .i64 0, .bool false]) := ⟨ty_bld_94⟩
instance : TField Tryz.prog 94 0 0 4 := ⟨ty_field_94_0⟩
instance : TSize Tryz.prog 94 5 := ⟨ty_size_94⟩
instance : TAgg Tryz.prog 95 := ⟨ty_agg_95⟩
instance : TBld Tryz.prog 95 ([(0, 5)], [.int .i64 0, .slice none 0 0, .slice none 0 0, .int .i64 0, .bool false]) := ⟨ty_bld_95⟩
instance : TField Tryz.prog 95 0 0 4 := ⟨ty_field_95_0⟩
instance : TSize Tryz.prog 95 5 := ⟨ty_size_95⟩
instance : TPlain Tryz.prog 96 := ⟨ty_plain_96⟩
instance : TSize Tryz.prog 96 1 := ⟨ty_size_96⟩
instance : TPlain Tryz.prog 97 := ⟨ty_plain_97⟩
instance : TSize Tryz.prog 97 1 := ⟨ty_size_97⟩
instance : TAgg Tryz.prog 98 := ⟨ty_agg_98⟩
instance : TSize Tryz.prog 98 5 := ⟨ty_size_98⟩
instance : TPlain Tryz.prog 99 := ⟨ty_plain_99⟩
instance : TSize Tryz.prog 99 1 := ⟨ty_size_99⟩
instance : TPlain Tryz.prog 101 := ⟨ty_plain_101⟩
instance : TSize Tryz.prog 101 1 := ⟨ty_size_101⟩
instance : TPlain Tryz.prog 102 := ⟨ty_plain_102⟩
instance : TSize Tryz.prog 102 1 := ⟨ty_size_102⟩
instance : TPlain Tryz.prog 103 := ⟨ty_plain_103⟩
instance : TSize Tryz.prog 103 1 := ⟨ty_size_103⟩
instance : TPlain Tryz.prog 104 := ⟨ty_plain_104⟩
instance : TSize Tryz.prog 104 1 := ⟨ty_size_104⟩
instance : TPlain Tryz.prog 105 := ⟨ty_plain_105⟩
instance : TSize Tryz.prog 105 1 := ⟨ty_size_105⟩
instance : TPlain Tryz.prog 106 := ⟨ty_plain_106⟩
instance : TSize Tryz.prog 106 1 := ⟨ty_size_106⟩
instance : TPlain Tryz.prog 108 := ⟨ty_plain_108⟩
instance : TSize Tryz.prog 108 1 := ⟨ty_size_108⟩
instance : TPlain Tryz.prog 109 := ⟨ty_plain_109⟩
instance : TSize Tryz.prog 109 1 := ⟨ty_size_109⟩
instance : TPlain Tryz.prog 110 := ⟨ty_plain_110⟩
instance : TSize Tryz.prog 110 1 := ⟨ty_size_110⟩
instance : TPlain Tryz.prog 111 := ⟨ty_plain_111⟩
instance : TSize Tryz.prog 111 1 := ⟨ty_size_111⟩
instance : TPlain Tryz.prog 112 := ⟨ty_plain_112⟩
instance : TSize Tryz.prog 112 1 := ⟨ty_size_112⟩
instance : TPlain Tryz.prog 113 := ⟨ty_plain_113⟩
instance : TSize Tryz.prog 113 1 := ⟨ty_size_113⟩
instance : TPlain Tryz.prog 114 := ⟨ty_plain_114⟩
instance : TSize Tryz.prog 114 1 := ⟨ty_size_114⟩
instance : TPlain Tryz.prog 115 := ⟨ty_plain_115⟩
instance : TSize Tryz.prog 115 1 := ⟨ty_size_115⟩
instance : TPlain Tryz.prog 116 := ⟨ty_plain_116⟩
instance : TSize Tryz.prog 116 1 := ⟨ty_size_116⟩
instance : TAgg Tryz.prog 117 := ⟨ty_agg_117⟩
instance : TBld Tryz.prog 117 ([(0, 2)], [.string ByteArray.empty, .int .i64 0]) := ⟨ty_bld_117⟩
instance : TField Tryz.prog 117 0 0 1 := ⟨ty_field_117_0⟩
instance : TSize Tryz.prog 117 2 := ⟨ty_size_117⟩
instance : TAgg Tryz.prog 118 := ⟨ty_agg_118⟩
instance : TBld Tryz.prog 118 ([(0, 2)], [.string ByteArray.empty, .int .i64 0]) := ⟨ty_bld_118⟩
instance : TField Tryz.prog 118 0 0 1 := ⟨ty_field_118_0⟩
instance : TSize Tryz.prog 118 2 := ⟨ty_size_118⟩
instance : TPlain Tryz.prog 119 := ⟨ty_plain_119⟩
instance : TSize Tryz.prog 119 1 := ⟨ty_size_119⟩
instance : TPlain Tryz.prog 120 := ⟨ty_plain_120⟩
instance : TSize Tryz.prog 120 1 := ⟨ty_size_120⟩
instance : TPlain Tryz.prog 121 := ⟨ty_plain_121⟩
instance : TSize Tryz.prog 121 1 := ⟨ty_size_121⟩
instance : TPlain Tryz.prog 122 := ⟨ty_plain_122⟩
instance : TSize Tryz.prog 122 1 := ⟨ty_size_122⟩
instance : TPlain Tryz.prog 123 := ⟨ty_plain_123⟩
instance : TSize Tryz.prog 123 1 := ⟨ty_size_123⟩
instance : TSize Tryz.prog 124 1 := ⟨ty_size_124⟩
instance : TPlain Tryz.prog 125 := ⟨ty_plain_125⟩
instance : TSize Tryz.prog 125 1 := ⟨ty_size_125⟩
instance : TPlain Tryz.prog 126 := ⟨ty_plain_126⟩
instance : TSize Tryz.prog 126 1 := ⟨ty_size_126⟩
instance : TPlain Tryz.prog 127 := ⟨ty_plain_127⟩
instance : TSize Tryz.prog 127 1 := ⟨ty_size_127⟩
instance : TPlain Tryz.prog 128 := ⟨ty_plain_128⟩
instance : TSize Tryz.prog 128 1 := ⟨ty_size_128⟩
instance : TAgg Tryz.prog 129 := ⟨ty_agg_129⟩
instance : TBld Tryz.prog 129 ([(0, 1), (1, 1)], [.string ByteArray.empty, .string ByteArray.empty]) := ⟨ty_bld_129⟩
instance : TField Tryz.prog 129 0 0 0 := ⟨ty_field_129_0⟩
instance : TField Tryz.prog 129 1 1 0 := ⟨ty_field_129_1⟩
instance : TSize Tryz.prog 129 2 := ⟨ty_size_129⟩
instance : TAgg Tryz.prog 130 := ⟨ty_agg_130⟩
instance : TBld Tryz.prog 130 ([(0, 1), (1, 1)], [.string ByteArray.empty, .string ByteArray.empty]) := ⟨ty_bld_130⟩
instance : TField Tryz.prog 130 0 0 0 := ⟨ty_field_130_0⟩
instance : TField Tryz.prog 130 1 1 0 := ⟨ty_field_130_1⟩
instance : TSize Tryz.prog 130 2 := ⟨ty_size_130⟩
instance : TPlain Tryz.prog 131 := ⟨ty_plain_131⟩
instance : TSize Tryz.prog 131 1 := ⟨ty_size_131⟩
instance : TPlain Tryz.prog 132 := ⟨ty_plain_132⟩
instance : TSize Tryz.prog 132 1 := ⟨ty_size_132⟩
instance : TAgg Tryz.prog 133 := ⟨ty_agg_133⟩
instance : TBld Tryz.prog 133 ([(0, 1), (1, 1), (2, 1)], [.string ByteArray.empty, .int .i64 0, .string ByteArray.empty]) := ⟨ty_bld_133⟩
instance : TField Tryz.prog 133 0 0 0 := ⟨ty_field_133_0⟩
instance : TField Tryz.prog 133 1 1 0 := ⟨ty_field_133_1⟩
instance : TField Tryz.prog 133 2 2 0 := ⟨ty_field_133_2⟩
instance : TSize Tryz.prog 133 3 := ⟨ty_size_133⟩
instance : TAgg Tryz.prog 134 := ⟨ty_agg_134⟩
instance : TBld Tryz.prog 134 ([(0, 1), (1, 1), (2, 1)], [.string ByteArray.empty, .int .i64 0, .string ByteArray.empty]) := ⟨ty_bld_134⟩
instance : TField Tryz.prog 134 0 0 0 := ⟨ty_field_134_0⟩
instance : TField Tryz.prog 134 1 1 0 := ⟨ty_field_134_1⟩
instance : TField Tryz.prog 134 2 2 0 := ⟨ty_field_134_2⟩
instance : TSize Tryz.prog 134 3 := ⟨ty_size_134⟩
instance : TPlain Tryz.prog 135 := ⟨ty_plain_135⟩
instance : TSize Tryz.prog 135 1 := ⟨ty_size_135⟩
instance : TPlain Tryz.prog 136 := ⟨ty_plain_136⟩
instance : TSize Tryz.prog 136 1 := ⟨ty_size_136⟩
instance : TPlain Tryz.prog 137 := ⟨ty_plain_137⟩
instance : TSize Tryz.prog 137 1 := ⟨ty_size_137⟩
instance : TPlain Tryz.prog 138 := ⟨ty_plain_138⟩
instance : TSize Tryz.prog 138 1 := ⟨ty_size_138⟩
instance : TPlain Tryz.prog 139 := ⟨ty_plain_139⟩
instance : TSize Tryz.prog 139 1 := ⟨ty_size_139⟩
instance : TPlain Tryz.prog 140 := ⟨ty_plain_140⟩
instance : TSize Tryz.prog 140 1 := ⟨ty_size_140⟩
instance : TPlain Tryz.prog 141 := ⟨ty_plain_141⟩
instance : TSize Tryz.prog 141 1 := ⟨ty_size_141⟩
instance : TPlain Tryz.prog 142 := ⟨ty_plain_142⟩
instance : TSize Tryz.prog 142 1 := ⟨ty_size_142⟩
instance : TPlain Tryz.prog 143 := ⟨ty_plain_143⟩
instance : TSize Tryz.prog 143 1 := ⟨ty_size_143⟩
instance : TPlain Tryz.prog 144 := ⟨ty_plain_144⟩
instance : TSize Tryz.prog 144 1 := ⟨ty_size_144⟩
instance : TPlain Tryz.prog 145 := ⟨ty_plain_145⟩
instance : TSize Tryz.prog 145 1 := ⟨ty_size_145⟩
instance : TPlain Tryz.prog 146 := ⟨ty_plain_146⟩
instance : TSize Tryz.prog 146 1 := ⟨ty_size_146⟩
instance : TPlain Tryz.prog 147 := ⟨ty_plain_147⟩
instance : TSize Tryz.prog 147 1 := ⟨ty_size_147⟩
instance : TPlain Tryz.prog 148 := ⟨ty_plain_148⟩
instance : TSize Tryz.prog 148 1 := ⟨ty_size_148⟩
instance : TPlain Tryz.prog 149 := ⟨ty_plain_149⟩
instance : TSize Tryz.prog 149 1 := ⟨ty_size_149⟩
instance : TPlain Tryz.prog 150 := ⟨ty_plain_150⟩
instance : TSize Tryz.prog 150 1 := ⟨ty_size_150⟩
instance : TPlain Tryz.prog 151 := ⟨ty_plain_151⟩
instance : TSize Tryz.prog 151 1 := ⟨ty_size_151⟩
instance : TPlain Tryz.prog 152 := ⟨ty_plain_152⟩
instance : TSize Tryz.prog 152 1 := ⟨ty_size_152⟩
instance : TPlain Tryz.prog 153 := ⟨ty_plain_153⟩
instance : TSize Tryz.prog 153 1 := ⟨ty_size_153⟩
instance : TPlain Tryz.prog 154 := ⟨ty_plain_154⟩
instance : TSize Tryz.prog 154 1 := ⟨ty_size_154⟩
instance : TPlain Tryz.prog 155 := ⟨ty_plain_155⟩
instance : TSize Tryz.prog 155 1 := ⟨ty_size_155⟩
instance : TPlain Tryz.prog 156 := ⟨ty_plain_156⟩
instance : TSize Tryz.prog 156 1 := ⟨ty_size_156⟩
instance : TPlain Tryz.prog 158 := ⟨ty_plain_158⟩
instance : TSize Tryz.prog 158 1 := ⟨ty_size_158⟩
instance : TPlain Tryz.prog 159 := ⟨ty_plain_159⟩
instance : TSize Tryz.prog 159 1 := ⟨ty_size_159⟩
instance : TPlain Tryz.prog 160 := ⟨ty_plain_160⟩
instance : TSize Tryz.prog 160 1 := ⟨ty_size_160⟩
instance : TPlain Tryz.prog 161 := ⟨ty_plain_161⟩
instance : TSize Tryz.prog 161 1 := ⟨ty_size_161⟩
instance : TPlain Tryz.prog 162 := ⟨ty_plain_162⟩
instance : TSize Tryz.prog 162 1 := ⟨ty_size_162⟩
instance : TPlain Tryz.prog 163 := ⟨ty_plain_163⟩
instance : TSize Tryz.prog 163 1 := ⟨ty_size_163⟩
instance : TPlain Tryz.prog 164 := ⟨ty_plain_164⟩
instance : TSize Tryz.prog 164 1 := ⟨ty_size_164⟩
instance : TPlain Tryz.prog 165 := ⟨ty_plain_165⟩
instance : TSize Tryz.prog 165 1 := ⟨ty_size_165⟩
instance : TAgg Tryz.prog 166 := ⟨ty_agg_166⟩
instance : TSize Tryz.prog 166 256 := ⟨ty_size_166⟩
instance : TAgg Tryz.prog 167 := ⟨ty_agg_167⟩
instance : TSize Tryz.prog 167 256 := ⟨ty_size_167⟩
instance : TPlain Tryz.prog 169 := ⟨ty_plain_169⟩
instance : TSize Tryz.prog 169 1 := ⟨ty_size_169⟩
instance : TPlain Tryz.prog 170 := ⟨ty_plain_170⟩
instance : TSize Tryz.prog 170 1 := ⟨ty_size_170⟩
instance : TPlain Tryz.prog 171 := ⟨ty_plain_171⟩
instance : TSize Tryz.prog 171 1 := ⟨ty_size_171⟩
instance : TPlain Tryz.prog 172 := ⟨ty_plain_172⟩
instance : TSize Tryz.prog 172 1 := ⟨ty_size_172⟩
instance : TPlain Tryz.prog 174 := ⟨ty_plain_174⟩
instance : TSize Tryz.prog 174 1 := ⟨ty_size_174⟩
instance : TPlain Tryz.prog 176 := ⟨ty_plain_176⟩
instance : TSize Tryz.prog 176 1 := ⟨ty_size_176⟩
instance : TPlain Tryz.prog 177 := ⟨ty_plain_177⟩
instance : TSize Tryz.prog 177 1 := ⟨ty_size_177⟩
instance : TPlain Tryz.prog 178 := ⟨ty_plain_178⟩
instance : TSize Tryz.prog 178 1 := ⟨ty_size_178⟩
instance : TPlain Tryz.prog 179 := ⟨ty_plain_179⟩
instance : TSize Tryz.prog 179 1 := ⟨ty_size_179⟩
instance : TPlain Tryz.prog 181 := ⟨ty_plain_181⟩
instance : TSize Tryz.prog 181 1 := ⟨ty_size_181⟩
instance : TPlain Tryz.prog 182 := ⟨ty_plain_182⟩
instance : TSize Tryz.prog 182 1 := ⟨ty_size_182⟩
instance : TPlain Tryz.prog 183 := ⟨ty_plain_183⟩
instance : TSize Tryz.prog 183 1 := ⟨ty_size_183⟩
instance : TPlain Tryz.prog 184 := ⟨ty_plain_184⟩
instance : TSize Tryz.prog 184 1 := ⟨ty_size_184⟩
instance : TAgg Tryz.prog 185 := ⟨ty_agg_185⟩
instance : TSize Tryz.prog 185 256 := ⟨ty_size_185⟩
instance : TAgg Tryz.prog 186 := ⟨ty_agg_186⟩
instance : TBld Tryz.prog 186 ([(0, 1), (1, 1)], [.int .u8 0, .int .u8 0]) := ⟨ty_bld_186⟩
instance : TField Tryz.prog 186 0 0 0 := ⟨ty_field_186_0⟩
instance : TField Tryz.prog 186 1 1 0 := ⟨ty_field_186_1⟩
instance : TSize Tryz.prog 186 2 := ⟨ty_size_186⟩
instance : TAgg Tryz.prog 187 := ⟨ty_agg_187⟩
instance : TBld Tryz.prog 187 ([(0, 1), (1, 1)], [.int .u8 0, .int .u8 0]) := ⟨ty_bld_187⟩
instance : TField Tryz.prog 187 0 0 0 := ⟨ty_field_187_0⟩
instance : TField Tryz.prog 187 1 1 0 := ⟨ty_field_187_1⟩
instance : TSize Tryz.prog 187 2 := ⟨ty_size_187⟩
instance : TAgg Tryz.prog 188 := ⟨ty_agg_188⟩
instance : TSize Tryz.prog 188 32 := ⟨ty_size_188⟩
instance : TPlain Tryz.prog 189 := ⟨ty_plain_189⟩
instance : TSize Tryz.prog 189 1 := ⟨ty_size_189⟩
instance : TPlain Tryz.prog 190 := ⟨ty_plain_190⟩
instance : TSize Tryz.prog 190 1 := ⟨ty_size_190⟩
instance : TAgg Tryz.prog 191 := ⟨ty_agg_191⟩
instance : TBld Tryz.prog 191 ([(0, 1), (1, 1), (2, 1), (3, 1)], [.pointer none, .pointer none, .pointer none, .string ByteArray.empty]) := ⟨ty_bld_191⟩
instance : TField Tryz.prog 191 0 0 0 := ⟨ty_field_191_0⟩
instance : TField Tryz.prog 191 1 1 0 := ⟨ty_field_191_1⟩
instance : TField Tryz.prog 191 2 2 0 := ⟨ty_field_191_2⟩
instance : TField Tryz.prog 191 3 3 0 := ⟨ty_field_191_3⟩
instance : TSize Tryz.prog 191 4 := ⟨ty_size_191⟩
instance : TAgg Tryz.prog 192 := ⟨ty_agg_192⟩
instance : TBld Tryz.prog 192 ([(0, 1), (1, 1), (2, 1), (3, 1)], [.pointer none, .pointer none, .pointer none, .string ByteArray.empty]) := ⟨ty_bld_192⟩
instance : TField Tryz.prog 192 0 0 0 := ⟨ty_field_192_0⟩
instance : TField Tryz.prog 192 1 1 0 := ⟨ty_field_192_1⟩
instance : TField Tryz.prog 192 2 2 0 := ⟨ty_field_192_2⟩
instance : TField Tryz.prog 192 3 3 0 := ⟨ty_field_192_3⟩
instance : TSize Tryz.prog 192 4 := ⟨ty_size_192⟩
instance : TAgg Tryz.prog 193 := ⟨ty_agg_193⟩
instance : TSize Tryz.prog 193 0 := ⟨ty_size_193⟩
instance : TAgg Tryz.prog 194 := ⟨ty_agg_194⟩
instance : TBld Tryz.prog 194 ([(0, 0)], []) := ⟨ty_bld_194⟩
instance : TSize Tryz.prog 194 0 := ⟨ty_size_194⟩
instance : TAgg Tryz.prog 195 := ⟨ty_agg_195⟩
instance : TBld Tryz.prog 195 ([(0, 0)], []) := ⟨ty_bld_195⟩
instance : TSize Tryz.prog 195 0 := ⟨ty_size_195⟩
instance : TPlain Tryz.prog 196 := ⟨ty_plain_196⟩
instance : TSize Tryz.prog 196 1 := ⟨ty_size_196⟩
instance : TPlain Tryz.prog 197 := ⟨ty_plain_197⟩
instance : TSize Tryz.prog 197 1 := ⟨ty_size_197⟩
instance : TPlain Tryz.prog 198 := ⟨ty_plain_198⟩
instance : TSize Tryz.prog 198 1 := ⟨ty_size_198⟩
instance : TPlain Tryz.prog 199 := ⟨ty_plain_199⟩
instance : TSize Tryz.prog 199 1 := ⟨ty_size_199⟩
instance : TPlain Tryz.prog 200 := ⟨ty_plain_200⟩
instance : TSize Tryz.prog 200 1 := ⟨ty_size_200⟩
instance : TAgg Tryz.prog 201 := ⟨ty_agg_201⟩
instance : TBld Tryz.prog 201 ([(0, 1), (1, 1), (2, 1), (3, 1), (4, 1), (5, 1), (6, 1), (7, 1), (8, 1), (9, 1), (10, 1)], [.int .u64 0, .int .u64 0, .int .u32 0, .int .u8 0, .int .u8 0, .int .u8 0, .int .u8 0, .nilFunc, .pointer none, .int .i32 0, .int .i32 0]) := ⟨ty_bld_201⟩
instance : TField Tryz.prog 201 0 0 0 := ⟨ty_field_201_0⟩
instance : TField Tryz.prog 201 1 1 0 := ⟨ty_field_201_1⟩
instance : TField Tryz.prog 201 2 2 0 := ⟨ty_field_201_2⟩
instance : TField Tryz.prog 201 3 3 0 := ⟨ty_field_201_3⟩
instance : TField Tryz.prog 201 4 4 0 := ⟨ty_field_201_4⟩
instance : TField Tryz.prog 201 5 5 0 := ⟨ty_field_201_5⟩
instance : TField Tryz.prog 201 6 6 0 := ⟨ty_field_201_6⟩
instance : TField Tryz.prog 201 7 7 0 := ⟨ty_field_201_7⟩
instance : TField Tryz.prog 201 8 8 0 := ⟨ty_field_201_8⟩
instance : TField Tryz.prog 201 9 9 0 := ⟨ty_field_201_9⟩
instance : TField Tryz.prog 201 10 10 0 := ⟨ty_field_201_10⟩
instance : TSize Tryz.prog 201 11 := ⟨ty_size_201⟩
instance : TAgg Tryz.prog 202 := ⟨ty_agg_202⟩
instance : TBld Tryz.prog 202 ([(0, 1), (1, 1), (2, 1), (3, 1), (4, 1), (5, 1), (6, 1), (7, 1), (8, 1), (9, 1), (10, 1)], [.int .u64 0, .int .u64 0, .int .u32 0, .int .u8 0, .int .u8 0, .int .u8 0, .int .u8 0, .nilFunc, .pointer none, .int .i32 0, .int .i32 0]) := ⟨ty_bld_202⟩
instance : TField Tryz.prog 202 0 0 0 := ⟨ty_field_202_0⟩
instance : TField Tryz.prog 202 1 1 0 := ⟨ty_field_202_1⟩
instance : TField Tryz.prog 202 2 2 0 := ⟨ty_field_202_2⟩
instance : TField Tryz.prog 202 3 3 0 := ⟨ty_field_202_3⟩
instance : TField Tryz.prog 202 4 4 0 := ⟨ty_field_202_4⟩
instance : TField Tryz.prog 202 5 5 0 := ⟨ty_field_202_5⟩
instance : TField Tryz.prog 202 6 6 0 := ⟨ty_field_202_6⟩
instance : TField Tryz.prog 202 7 7 0 := ⟨ty_field_202_7⟩
instance : TField Tryz.prog 202 8 8 0 := ⟨ty_field_202_8⟩
instance : TField Tryz.prog 202 9 9 0 := ⟨ty_field_202_9⟩
instance : TField Tryz.prog 202 10 10 0 := ⟨ty_field_202_10⟩
instance : TSize Tryz.prog 202 11 := ⟨ty_size_202⟩
instance : TGo Tryz.prog 3 := ⟨go_3⟩
instance : TGo Tryz.prog 4 := ⟨go_4⟩
instance : TGo Tryz.prog 5 := ⟨go_5⟩
instance : TGo Tryz.prog 6 := ⟨go_6⟩
instance : TGo Tryz.prog 7 := ⟨go_7⟩
instance : TGo Tryz.prog 8 := ⟨go_8⟩
instance : TGo Tryz.prog 9 := ⟨go_9⟩
instance : TGo Tryz.prog 10 := ⟨go_10⟩
instance : TGo Tryz.prog 11 := ⟨go_11⟩
instance : TGo Tryz.prog 12 := ⟨go_12⟩
instance : TGo Tryz.prog 13 := ⟨go_13⟩
instance : TGo Tryz.prog 14 := ⟨go_14⟩
instance : TGo Tryz.prog 15 := ⟨go_15⟩
instance : TGo Tryz.prog 16 := ⟨go_16⟩
instance : TGo Tryz.prog 17 := ⟨go_17⟩
instance : TGo Tryz.prog 18 := ⟨go_18⟩
instance : TGo Tryz.prog 19 := ⟨go_19⟩
instance : TGo Tryz.prog 20 := ⟨go_20⟩
instance : TGo Tryz.prog 21 := ⟨go_21⟩
instance : TGo Tryz.prog 22 := ⟨go_22⟩
instance : TGo Tryz.prog 23 := ⟨go_23⟩
instance : TGo Tryz.prog 24 := ⟨go_24⟩
instance : TGo Tryz.prog 25 := ⟨go_25⟩
instance : TGo Tryz.prog 26 := ⟨go_26⟩
instance : TGo Tryz.prog 27 := ⟨go_27⟩
instance : TGo Tryz.prog 28 := ⟨go_28⟩
instance : TGo Tryz.prog 29 := ⟨go_29⟩
instance : TGo Tryz.prog 30 := ⟨go_30⟩
instance : TGo Tryz.prog 31 := ⟨go_31⟩
instance : TGo Tryz.prog 32 := ⟨go_32⟩
instance : TGo Tryz.prog 33 := ⟨go_33⟩
instance : TGo Tryz.prog 34 := ⟨go_34⟩
instance : TGo Tryz.prog 35 := ⟨go_35⟩
instance : TGo Tryz.prog 36 := ⟨go_36⟩
instance : TGo Tryz.prog 37 := ⟨go_37⟩
instance : TGo Tryz.prog 38 := ⟨go_38⟩
instance : TGo Tryz.prog 39 := ⟨go_39⟩
instance : TGo Tryz.prog 40 := ⟨go_40⟩
instance : TGo Tryz.prog 41 := ⟨go_41⟩
instance : TGo Tryz.prog 42 := ⟨go_42⟩
instance : TGo Tryz.prog 43 := ⟨go_43⟩
instance : TGo Tryz.prog 44 := ⟨go_44⟩
instance : TGo Tryz.prog 45 := ⟨go_45⟩
instance : TGo Tryz.prog 46 := ⟨go_46⟩
instance : TGo Tryz.prog 47 := ⟨go_47⟩
instance : TGo Tryz.prog 48 := ⟨go_48⟩
instance : TGo Tryz.prog 49 := ⟨go_49⟩
instance : TGo Tryz.prog 50 := ⟨go_50⟩
instance : TGo Tryz.prog 51 := ⟨go_51⟩
instance : TGo Tryz.prog 52 := ⟨go_52⟩
instance : TGo Tryz.prog 53 := ⟨go_53⟩
instance : TGo Tryz.prog 54 := ⟨go_54⟩
instance : TGo Tryz.prog 55 := ⟨go_55⟩
instance : TGo Tryz.prog 56 := ⟨go_56⟩
instance : TGo Tryz.prog 57 := ⟨go_57⟩
instance : TGo Tryz.prog 58 := ⟨go_58⟩
instance : TGo Tryz.prog 59 := ⟨go_59⟩
instance : TGo Tryz.prog 60 := ⟨go_60⟩
instance : TGo Tryz.prog 61 := ⟨go_61⟩
instance : TGo Tryz.prog 63 := ⟨go_63⟩
instance : TGo Tryz.prog 64 := ⟨go_64⟩
instance : TGo Tryz.prog 65 := ⟨go_65⟩
instance : TGo Tryz.prog 66 := ⟨go_66⟩
instance : TGo Tryz.prog 67 := ⟨go_67⟩
instance : TGo Tryz.prog 68 := ⟨go_68⟩
instance : TGo Tryz.prog 69 := ⟨go_69⟩
instance : TGo Tryz.prog 70 := ⟨go_70⟩
instance : TGo Tryz.prog 71 := ⟨go_71⟩
instance : TGo Tryz.prog 72 := ⟨go_72⟩
instance : TGo Tryz.prog 73 := ⟨go_73⟩
instance : TGo Tryz.prog 74 := ⟨go_74⟩
instance : TGo Tryz.prog 75 := ⟨go_75⟩
instance : TGo Tryz.prog 76 := ⟨go_76⟩
instance : TGo Tryz.prog 77 := ⟨go_77⟩
instance : TGo Tryz.prog 78 := ⟨go_78⟩
instance : TGo Tryz.prog 79 := ⟨go_79⟩
instance : TGo Tryz.prog 80 := ⟨go_80⟩
instance : TGo Tryz.prog 81 := ⟨go_81⟩
instance : TGo Tryz.prog 82 := ⟨go_82⟩
instance : TGo Tryz.prog 83 := ⟨go_83⟩
instance : TGo Tryz.prog 84 := ⟨go_84⟩
instance : TGo Tryz.prog 85 := ⟨go_85⟩
instance : TGo Tryz.prog 86 := ⟨go_86⟩
instance : TGo Tryz.prog 87 := ⟨go_87⟩
instance : TGo Tryz.prog 89 := ⟨go_89⟩
instance : TGo Tryz.prog 90 := ⟨go_90⟩
instance : TGo Tryz.prog 91 := ⟨go_91⟩
instance : TGo Tryz.prog 92 := ⟨go_92⟩
instance : TGo Tryz.prog 93 := ⟨go_93⟩
instance : TGo Tryz.prog 94 := ⟨go_94⟩
instance : TGo Tryz.prog 95 := ⟨go_95⟩
instance : TGo Tryz.prog 96 := ⟨go_96⟩
instance : TGo Tryz.prog 97 := ⟨go_97⟩
instance : TGo Tryz.prog 98 := ⟨go_98⟩
instance : TGo Tryz.prog 99 := ⟨go_99⟩
instance : TGo Tryz.prog 100 := ⟨go_100⟩
instance : TGo Tryz.prog 101 := ⟨go_101⟩
instance : TGo Tryz.prog 102 := ⟨go_102⟩
instance : TGo Tryz.prog 103 := ⟨go_103⟩
instance : TGo Tryz.prog 104 := ⟨go_104⟩
instance : TGo Tryz.prog 105 := ⟨go_105⟩
instance : TGo Tryz.prog 106 := ⟨go_106⟩
instance : TGo Tryz.prog 107 := ⟨go_107⟩
instance : TGo Tryz.prog 108 := ⟨go_108⟩
instance : TGo Tryz.prog 109 := ⟨go_109⟩
instance : TGo Tryz.prog 110 := ⟨go_110⟩
instance : TGo Tryz.prog 111 := ⟨go_111⟩
instance : TGo Tryz.prog 112 := ⟨go_112⟩
instance : TGo Tryz.prog 113 := ⟨go_113⟩
instance : TGo Tryz.prog 114 := ⟨go_114⟩
instance : TGo Tryz.prog 115 := ⟨go_115⟩
instance : TGo Tryz.prog 116 := ⟨go_116⟩
instance : TGo Tryz.prog 117 := ⟨go_117⟩
instance : TGo Tryz.prog 118 := ⟨go_118⟩
instance : TGo Tryz.prog 119 := ⟨go_119⟩
instance : TGo Tryz.prog 121 := ⟨go_121⟩
instance : TGo Tryz.prog 122 := ⟨go_122⟩
instance : TGo Tryz.prog 123 := ⟨go_123⟩
instance : TGo Tryz.prog 124 := ⟨go_124⟩
instance : TGo Tryz.prog 125 := ⟨go_125⟩
instance : TGo Tryz.prog 126 := ⟨go_126⟩
instance : TGo Tryz.prog 127 := ⟨go_127⟩
instance : TGo Tryz.prog 129 := ⟨go_129⟩
instance : TUnd Tryz.prog 2 (.int .i64) := ⟨Tryz.underlying2⟩
instance : TUnd Tryz.prog 3 (.int .i64) := ⟨Tryz.underlying3⟩
instance : TUnd Tryz.prog 4 (.bool) := ⟨Tryz.underlying4⟩
instance : TUnd Tryz.prog 5 (.int .u8) := ⟨Tryz.underlying5⟩
instance : TUnd Tryz.prog 6 (.int .u8) := ⟨Tryz.underlying6⟩
instance : TUnd Tryz.prog 9 (.string) := ⟨Tryz.underlying9⟩
instance : TUnd Tryz.prog 10 (.string) := ⟨Tryz.underlying10⟩
instance : TUnd Tryz.prog 11 (.string) := ⟨Tryz.underlying11⟩
instance : TUnd Tryz.prog 12 (.int .u64) := ⟨Tryz.underlying12⟩
instance : TUnd Tryz.prog 21 (.int .i32) := ⟨Tryz.underlying21⟩
instance : TUnd Tryz.prog 22 (.slice 40) := ⟨Tryz.underlying22⟩
instance : TUnd Tryz.prog 25 (.slice 130) := ⟨Tryz.underlying25⟩
instance : TUnd Tryz.prog 26 (.slice 134) := ⟨Tryz.underlying26⟩
instance : TUnd Tryz.prog 29 (.int .i64) := ⟨Tryz.underlying29⟩
instance : TUnd Tryz.prog 35 (.slice 3) := ⟨Tryz.underlying35⟩
instance : TUnd Tryz.prog 40 (.slice 50) := ⟨Tryz.underlying40⟩
instance : TUnd Tryz.prog 50 (.int .u64) := ⟨Tryz.underlying50⟩
instance : TUnd Tryz.prog 55 (.slice 5) := ⟨Tryz.underlying55⟩
instance : TUnd Tryz.prog 98 (.array 5 5) := ⟨Tryz.underlying98⟩
instance : TUnd Tryz.prog 116 (.int .u64) := ⟨Tryz.underlying116⟩
instance : TUnd Tryz.prog 153 (.slice 9) := ⟨Tryz.underlying153⟩
instance : TUnd Tryz.prog 162 (.int .u32) := ⟨Tryz.underlying162⟩
instance : TUnd Tryz.prog 166 (.array 256 4) := ⟨Tryz.underlying166⟩
instance : TUnd Tryz.prog 167 (.array 256 4) := ⟨Tryz.underlying167⟩
instance : TUnd Tryz.prog 185 (.array 256 5) := ⟨Tryz.underlying185⟩
instance : TUnd Tryz.prog 188 (.array 16 187) := ⟨Tryz.underlying188⟩
instance : TUnd Tryz.prog 193 (.array 0 16) := ⟨Tryz.underlying193⟩
instance : TUnd Tryz.prog 196 (.int .u8) := ⟨Tryz.underlying196⟩
instance : TUnd Tryz.prog 197 (.int .u8) := ⟨Tryz.underlying197⟩
instance : TUnd Tryz.prog 199 (.int .i32) := ⟨Tryz.underlying199⟩
instance : TUnd Tryz.prog 200 (.int .i32) := ⟨Tryz.underlying200⟩
end Mv
end Go.Proofs.YthbadpcmdlfmdaaGreatDoor
namespace Go.Proofs.YthbadpcmdlfmdaaGreatDoor
/-! ### Operators on natural numbers -/
theorem or_nat64 (a b : Nat) (ha : a < 18446744073709551616) (hb : b < 18446744073709551616) : bits .or .u64 (a : Int) (b : Int) = ((a ||| b : Nat) : Int) := by
 have h:a ||| b<2 ^ 64:=Nat.or_lt_two_pow (by omega) (by omega)
 show IntKind.u64.wrap (((BitVec.ofInt 64 (a:Int)) ||| (BitVec.ofInt 64 (b:Int))).toNat:Int)=_
 rw [BitVec.ofInt_natCast,BitVec.ofInt_natCast,BitVec.toNat_or,BitVec.toNat_ofNat,BitVec.toNat_ofNat,Nat.mod_eq_of_lt (by omega),Nat.mod_eq_of_lt (by omega)]
 exact IntWalk.u64_in _ (by omega)
theorem or_join_nat (q y k : Nat) (hy : y < 2 ^ k) : y ||| q * 2 ^ k = q * 2 ^ k + y := by
 rw [Nat.or_comm,Nat.mul_comm q,Nat.two_pow_add_eq_or_of_lt hy]
theorem size_list (s : ByteArray) : s.size = s.data.toList.length := (Array.length_toList (xs := s.data)).symm
theorem u8_nat (x : Nat) : IntKind.u8.wrap (x : Int) = nb (UInt8.ofNat x) := by
 rw [IntKind.wrap_u8];unfold nb;rw [UInt8.toNat_ofNat'];omega
namespace Num
abbrev top : Nat := 1099511627776
/-- A number's five bytes. -/
def five (n : Nat) : List UInt8 := [UInt8.ofNat (n / 4294967296), UInt8.ofNat (n / 16777216), UInt8.ofNat (n / 65536), UInt8.ofNat (n / 256), UInt8.ofNat n]
theorem five_length (n : Nat) : (five n).length = 5 := rfl
/-- Bytes read as a number, the big end first. -/
def ofB (l : List UInt8) : Nat := l.foldl (fun a b => 256 * a + b.toNat) 0
theorem ofB_snoc (l : List UInt8) (c : UInt8) : ofB (l ++ [c]) = 256 * ofB l + c.toNat := by simp [ofB]
theorem ofB_take (l : List UInt8) (k : Nat) (h : k < l.length) : ofB (l.take (k + 1)) = 256 * ofB (l.take k) + (at8 l k).toNat := by
 rw [List.take_succ_eq_append_getElem h,ofB_snoc,at8_get _ _ h]
theorem ofB_lt' (l : List UInt8) (a : Nat) : l.foldl (fun a b => 256 * a + b.toNat) a < (a + 1) * 256 ^ l.length := by
 induction l generalizing a with
 | nil=>simp
 | cons c l ih =>
  have:=ih (256*a+c.toNat)
  have hc:=c.toNat_lt
  rw [List.foldl_cons,List.length_cons,Nat.pow_succ,Nat.mul_comm (256 ^ l.length) 256,← Nat.mul_assoc]
  exact Nat.lt_of_lt_of_le this (Nat.mul_le_mul_right _ (by omega))
theorem ofB_lt (l : List UInt8) : ofB l < 256 ^ l.length := by have := ofB_lt' l 0; simpa [ofB] using this
theorem ofB_le4 (l : List UInt8) (h : l.length ≤ 4) : ofB l < 4294967296 := by
 have h1:=ofB_lt l
 have h2:256 ^ l.length≤256 ^ 4:=Nat.pow_le_pow_right (by decide) h
 omega
theorem ofB_small (l : List UInt8) (k : Nat) (h : k ≤ 4) : ofB (l.take k) < 4294967296 := ofB_le4 _ (by rw [List.length_take]; omega)
theorem ofB_five (n : Nat) (h : n < top) : ofB (five n) = n := by
 simp only [ofB,five,List.foldl_cons,List.foldl_nil,UInt8.toNat_ofNat']
 unfold top at h;omega
def two (s : ByteArray) (e : Int) : Value := .tuple #[.string s, .int .i64 e]
/-- A record of numbers. -/
def recB (l : List Nat) : List UInt8 := l.flatMap five
theorem recB_length (l : List Nat) : (recB l).length = 5 * l.length := by
 induction l with
 | nil=>rfl
 | cons x l ih=>simp only [recB,List.flatMap_cons,List.length_append,five_length,List.length_cons] at ih ⊢;omega
theorem recB_snoc (l : List Nat) (x : Nat) : recB (l ++ [x]) = recB l ++ five x := by simp [recB]
def recOK (l : List Nat) : Bool := 1 ≤ l.length && l.length ≤ 8 && l.all (· < top)
def recP (l : List Nat) : ByteArray × Int := if recOK l then (bs (recB l), 0) else (ByteArray.empty, 1)
def pairV (p : ByteArray × Int) : Value := two p.1 p.2
def getP (s : ByteArray) : Nat × Int := if s.size = 5 then (ofB s.data.toList, 0) else (0, 5)
/-- Short bytes. -/
def shortL : Nat → Nat → List UInt8
  | 0, n => [UInt8.ofNat n]
  | f + 1, n => if n < 128 then [UInt8.ofNat n] else UInt8.ofNat (n % 128 + 128) :: shortL f (n / 128)
/-- Records read. -/
def nrow (l : List UInt8) (w p : Nat) : List Nat := (List.range w).map fun k => ofB ((l.drop (p + 5 * k)).take 5)
def rowsTo (l : List UInt8) (w n : Nat) : List (List Nat) := (List.range n).map fun i => nrow l w (i * (5 * w))
def rowsOf (l : List UInt8) (w : Nat) : List (List Nat) := rowsTo l w (l.length / (5 * w))
theorem rowsTo_succ (l : List UInt8) (w n : Nat) : rowsTo l w (n + 1) = rowsTo l w n ++ [nrow l w (n * (5 * w))] := by simp [rowsTo, List.range_succ]
def splitE (s : ByteArray) (w : Int) : Int := if w < 1 ∨ 8 < w then 1 else if s.size % (5 * w.toNat) ≠ 0 then 5 else 0
def splitL (s : ByteArray) (w : Int) : List (List Nat) := if splitE s w = 0 then rowsOf s.data.toList w.toNat else []
/-- The order of numbers one behind the other. -/
def lessB : List Nat → List Nat → Bool
  | _, [] => false
  | [], _ :: _ => true
  | x :: a, y :: b => decide (x < y) || (decide (x = y) && lessB a b)
def cmpB : List Nat → List Nat → Int
  | [], [] => 0
  | _ :: _, [] => 1
  | [], _ :: _ => -1
  | x :: a, y :: b => if x < y then -1 else if y < x then 1 else cmpB a b
theorem cmpB_lt (a b : List Nat) : decide (cmpB a b < 0) = lessB a b := by
 induction a generalizing b with
 | nil=>cases b <;> rfl
 | cons x a ih =>
  cases b with
  | nil=>rfl
  | cons y b =>
   simp only [cmpB,lessB]
   by_cases h1:x<y
   ·simp [h1]
   ·by_cases h2:y<x
    ·simp [h1,h2];omega
    ·obtain rfl:x=y:=by omega
     simp [ih]
theorem lessB_irrefl (a : List Nat) : lessB a a = false := by
 induction a with
 | nil=>rfl
 | cons x a ih=>simp [lessB,ih]
theorem lessB_total (a b : List Nat) (h1 : lessB a b = false) (h2 : lessB b a = false) : a = b := by
 induction a generalizing b with
 | nil=>cases b with
  | nil=>rfl
  | cons y b=>simp [lessB] at h1
 | cons x a ih =>
  cases b with
  | nil=>simp [lessB] at h2
  | cons y b =>
   simp only [lessB,Bool.or_eq_false_iff,decide_eq_false_iff_not,Bool.and_eq_false_iff] at h1 h2
   obtain rfl:x=y:=by omega
   rw [ih b (h1.2.resolve_left (by simp)) (h2.2.resolve_left (by simp))]
end Num
end Go.Proofs.YthbadpcmdlfmdaaGreatDoor
namespace Go.Proofs.YthbadpcmdlfmdaaGreatDoor
open Go.RowKit
open Mv
namespace Num
def u64s (n : Nat) : List Value := [.int .u64 (n : Int)]
end Num
open Num
theorem sl_u64 {S : Mem} {b e : Nat} {l : List Nat} {len cap room : Nat} (hb : S.own b = some ⟨e, l.map (fun n : Nat => .int .u64 (n : Int)), room⟩) (hlen : l.length = len) (hc : len ≤ cap) (hm : len ≤ 9223372036854775807) : Sl 1 u64s S (.slice (some ⟨b, 0, none⟩) len cap) l :=
 Sl.own1 (g:=fun n:Nat=>.int .u64 (n:Int)) hb List.prefix_rfl hlen hc hm
abbrev RowR (S : Mem) (v : Value) (l : List Nat) : Prop := Sl 1 u64s S v l
theorem rowR_less (S S' : Mem) (v : Value) (l : List Nat) (h : RowR S v l) (hl : S.Less S') : RowR S' v l := h.less hl
/-- The place of the first element that a test takes; -1: there is none. -/
def idx {α : Type} (p : α → Bool) (l : List α) : Int := match l.findIdx? p with
  | some i => (i : Nat)
  | none => -1
theorem idx_at {α : Type} (p : α → Bool) (l : List α) (i : Nat) (h : i < l.length) (hb : ∀ j (hj : j < i), p l[j] = false) (hi : p l[i] = true) : idx p l = (i : Nat) := by
 have:l.findIdx? p=some i:=List.findIdx?_eq_some_iff_getElem.2 ⟨h,hi,fun j hj=>by simpa using hb j hj⟩
 simp [idx,this]
theorem idx_none {α : Type} (p : α → Bool) (l : List α) (hb : ∀ j (hj : j < l.length), p l[j] = false) : idx p l = -1 := by
 have:l.findIdx? p=none:=List.findIdx?_eq_none_iff.2 fun x hx=>by
  obtain ⟨j,hj,rfl⟩:=List.getElem_of_mem hx
  exact hb j hj
 simp [idx,this]
theorem idx_any {α : Type} (p : α → Bool) (l : List α) : decide (0 ≤ idx p l) = l.any p := by
 by_cases h:l.any p=true
 ·rw [h]
  have h2:(l.findIdx? p).isSome=true:=by rw [List.findIdx?_isSome];exact h
  obtain ⟨i,hi⟩:=Option.isSome_iff_exists.1 h2
  simp [idx,hi]
 ·have h':l.any p=false:=by simpa using h
  rw [h']
  have h2:(l.findIdx? p).isSome=false:=by rw [List.findIdx?_isSome];exact h'
  have:l.findIdx? p=none:=by simpa using h2
  simp [idx,this]
theorem cellsB_append (l m : List UInt8) : cellsB (l ++ m) = cellsB l ++ cellsB m := by simp [cellsB]
theorem cellsB_one (l : List UInt8) : ∀ v ∈ cellsB l, v.oneCell' = true := fun v hv => by obtain ⟨c, _, rfl⟩ := List.mem_map.1 hv; rfl
end Go.Proofs.YthbadpcmdlfmdaaGreatDoor
namespace Go.Proofs.YthbadpcmdlfmdaaGreatDoor
open Go.RowKit
open Mv Num
set_option maxRecDepth 4000
theorem numV_isNaN (x : Nat) (S : Mem) : ACall Tryz.prog 105 #[.int .u64 x] S fun r S' => r = .bool false ∧ S' = S := by
 refine ACall.enter (rs:=[.tmp 2]) 6 [(0,.int .u64 x)] Tryz.func105 rfl rfl (Nat.le_of_ble_eq_true rfl) rfl ⟨rfl,trivial⟩ ?_
 iterate 13 refine s1_ ?_
 refine su_ [(0,_),(2,_)] ?_
 refine s1_ ?_
 refine ⟨_,S,⟨_,_,rfl,rfl,rfl⟩,less_,?_⟩
 exact ⟨rfl,rfl⟩
theorem numV_cmp (x y : Nat) (S : Mem) : ACall Tryz.prog 78 #[.int .u64 x, .int .u64 y] S fun r S' => r = .int .i64 (if x < y then -1 else if y < x then 1 else 0) ∧ S' = S := by
 refine ACall.enter (rs:=[.tmp 4]) 20 [(0,.int .u64 x),(1,.int .u64 y)] Tryz.func78 rfl rfl (Nat.le_of_ble_eq_true rfl) rfl ⟨rfl,rfl,trivial⟩ ?_
 iterate 8 refine s1_ ?_
 refine ca_ rfl (numV_isNaN x S) ?_
 rintro _ S1 ⟨rfl,h1⟩
 rw [h1];clear h1 S1
 iterate 3 refine s1_ ?_
 refine su_ [(0,_),(1,_),(4,_),(5,_)] ?_
 iterate 3 refine s1_ ?_
 refine ca_ rfl (numV_isNaN y S) ?_
 rintro _ S1 ⟨rfl,h1⟩
 rw [h1];clear h1 S1
 iterate 3 refine s1_ ?_
 refine su_ [(0,_),(1,_),(4,_),(5,_),(6,_)] ?_
 iterate 6 refine s1_ ?_
 refine cF_ ?_
 iterate 8 refine s1_ ?_
 refine cF_ ?_
 by_cases c1:x<y
 ·iterate 10 refine s1_ ?_
  refine su_ [(0,_),(1,_),(4,_),(5,_),(6,_),(11,_),(13,_),(16,_)] ?_
  refine cT_ ?_
  iterate 7 refine s1_ ?_
  refine ⟨_,S,⟨_,_,rfl,rfl,rfl⟩,less_,?_⟩
  exact ⟨by rw [if_pos c1];rfl,rfl⟩
 ·iterate 10 refine s1_ ?_
  refine su_ [(0,_),(1,_),(4,_),(5,_),(6,_),(11,_),(13,_),(16,_)] ?_
  refine cF_ ?_
  by_cases c2:y<x
  ·iterate 10 refine s1_ ?_
   refine su_ [(0,_),(1,_),(4,_),(5,_),(6,_),(11,_),(13,_),(16,_),(19,_)] ?_
   refine cT_ ?_
   iterate 7 refine s1_ ?_
   refine ⟨_,S,⟨_,_,rfl,rfl,rfl⟩,less_,?_⟩
   exact ⟨by rw [if_neg c1,if_pos c2];rfl,rfl⟩
  ·iterate 10 refine s1_ ?_
   refine su_ [(0,_),(1,_),(4,_),(5,_),(6,_),(11,_),(13,_),(16,_),(19,_)] ?_
   refine cF_ ?_
   iterate 8 refine s1_ ?_
   refine ⟨_,S,⟨_,_,rfl,rfl,rfl⟩,less_,?_⟩
   exact ⟨by rw [if_neg c1,if_neg c2];rfl,rfl⟩
set_option maxHeartbeats 1000000 in
theorem numV_Compare (a b : List Nat) (va vb : Value) (S : Mem) (ha : Sl 1 u64s S va a) (hb : Sl 1 u64s S vb b) :
  ACall Tryz.prog 55 #[va,vb] S fun r S'=>r = .int .i64 (cmpB a b)∧S'=S:=by
 obtain ⟨pa,ca,rfl,ha1,ha2,ha3⟩:=ha
 obtain ⟨pb,cb,rfl,hb1,hb2,hb3⟩:=hb
 refine ACall.enter (rs:=[.tmp 4]) 36 [(0,.slice pa a.length ca),(1,.slice pb b.length cb)] Tryz.func55 rfl rfl (Nat.le_of_ble_eq_true rfl) rfl ⟨rfl,rfl,trivial⟩ ?_
 iterate 14 refine s1_ ?_
 refine AWP.loop (X:=Nat) (fun x=>[(0,.slice pa a.length ca),(1,.slice pb b.length cb),(9,.slice pa a.length ca),(10,.int .i64 a.length),(11,.int .i64 x)]) (fun x=>S) (fun x=>x≤a.length∧x≤b.length∧cmpB (a.drop x) (b.drop x)=cmpB a b) (fun x=>a.length-x) (0) ⟨rfl,rfl,rfl,rfl,rfl,trivial⟩ (Mem.Less.refl _) (⟨Nat.zero_le _,Nat.zero_le _,rfl⟩) ?_
 rintro i ⟨hi1,hi2,hq⟩
 (try dsimp only at *)
 iterate 6 refine s1_ ?_
 refine AWP.condB rfl (fun hl=>?_) (fun hl=>?_)
 ·have hl:i<a.length:=by have:=of_decide_eq_true hl;omega
  rw [List.drop_eq_getElem_cons hl] at hq
  obtain ⟨b0,off,rfl,hkn⟩:=ha3.resolve_left (by intro h;rw [h] at hl;exact absurd hl (Nat.not_lt_zero _))
  have hkk:=hkn i hl
  by_cases hlb:i<b.length
  ·iterate 13 refine s1_ ?_
   refine su_ [(0,_),(1,_),(9,_),(10,_),(11,_),(12,_),(5,_),(6,_)] ?_
   iterate 9 refine s1_ ?_
   refine su_ [(0,_),(1,_),(9,_),(10,_),(11,_),(12,_),(5,_),(6,_),(19,_)] ?_
   refine cF_ ?_
   rw [List.drop_eq_getElem_cons hlb,cmpB] at hq
   obtain ⟨b1,off1,rfl,hkn1⟩:=hb3.resolve_left (by intro h;rw [h] at hlb;exact absurd hlb (Nat.not_lt_zero _))
   have hkk1:=hkn1 i hlb
   iterate 11 refine s1_ ?_
   refine su_ [(0,_),(1,_),(9,_),(10,_),(11,_),(12,_),(5,_),(6,_),(19,_),(7,_)] ?_
   iterate 4 refine s1_ ?_
   refine ca_ rfl (numV_cmp a[i] b[i] S) ?_
   rintro _ S1 ⟨rfl,h1⟩
   rw [h1];clear h1 S1
   iterate 3 refine s1_ ?_
   refine su_ [(0,_),(1,_),(9,_),(10,_),(11,_),(12,_),(5,_),(6,_),(19,_),(7,_),(8,_)] ?_
   by_cases c1:a[i]<b[i]
   ·rw [if_pos c1] at hq ⊢
    iterate 6 refine s1_ ?_
    refine su_ [(0,_),(1,_),(9,_),(10,_),(11,_),(12,_),(5,_),(6,_),(19,_),(7,_),(8,_),(28,_)] ?_
    refine cT_ ?_
    iterate 6 refine s1_ ?_
    refine su_ [(0,_),(1,_),(9,_),(10,_),(11,_),(12,_),(5,_),(6,_),(19,_),(7,_),(8,_),(28,_),(4,_)] ?_
    iterate 6 refine s1_ ?_
    refine ⟨_,S,⟨_,_,rfl,rfl,rfl⟩,less_,?_⟩
    exact ⟨by rw [← hq];rfl,rfl⟩
   ·rw [if_neg c1] at hq ⊢
    by_cases c2:b[i]<a[i]
    ·rw [if_pos c2] at hq ⊢
     iterate 6 refine s1_ ?_
     refine su_ [(0,_),(1,_),(9,_),(10,_),(11,_),(12,_),(5,_),(6,_),(19,_),(7,_),(8,_),(28,_)] ?_
     refine cT_ ?_
     iterate 6 refine s1_ ?_
     refine su_ [(0,_),(1,_),(9,_),(10,_),(11,_),(12,_),(5,_),(6,_),(19,_),(7,_),(8,_),(28,_),(4,_)] ?_
     iterate 6 refine s1_ ?_
     refine ⟨_,S,⟨_,_,rfl,rfl,rfl⟩,less_,?_⟩
     exact ⟨by rw [← hq];rfl,rfl⟩
    ·rw [if_neg c2] at hq ⊢
     iterate 6 refine s1_ ?_
     refine su_ [(0,_),(1,_),(9,_),(10,_),(11,_),(12,_),(5,_),(6,_),(19,_),(7,_),(8,_),(28,_)] ?_
     refine cF_ ?_
     iterate 8 refine s1_ ?_
     refine ⟨i+1,?_,?_,?_,?_⟩
     all_goals (try dsimp only)
     ·exact ⟨rfl,rfl,rfl,rfl,rfl,trivial⟩
     ·exact Mem.Less.refl _
     ·exact ⟨hl,hlb,hq⟩
     ·omega
  ·iterate 13 refine s1_ ?_
   refine su_ [(0,_),(1,_),(9,_),(10,_),(11,_),(12,_),(5,_),(6,_)] ?_
   iterate 9 refine s1_ ?_
   refine su_ [(0,_),(1,_),(9,_),(10,_),(11,_),(12,_),(5,_),(6,_),(19,_)] ?_
   refine cT_ ?_
   rw [List.drop_of_length_le (show b.length≤i by omega)] at hq
   iterate 12 refine s1_ ?_
   refine ⟨_,S,⟨_,_,rfl,rfl,rfl⟩,less_,?_⟩
   exact ⟨by rw [← hq];rfl,rfl⟩
 ·have hl:i=a.length:=by have:=of_decide_eq_false hl;omega
  rw [List.drop_of_length_le (show a.length≤i by omega)] at hq
  by_cases hlb:i<b.length
  ·rw [List.drop_eq_getElem_cons hlb] at hq
   iterate 15 refine s1_ ?_
   refine su_ [(0,_),(1,_),(9,_),(10,_),(11,_),(12,_),(35,_)] ?_
   refine cT_ ?_
   iterate 7 refine s1_ ?_
   refine ⟨_,S,⟨_,_,rfl,rfl,rfl⟩,less_,?_⟩
   exact ⟨by rw [← hq];rfl,rfl⟩
  ·rw [List.drop_of_length_le (show b.length≤i by omega)] at hq
   iterate 15 refine s1_ ?_
   refine su_ [(0,_),(1,_),(9,_),(10,_),(11,_),(12,_),(35,_)] ?_
   refine cF_ ?_
   iterate 8 refine s1_ ?_
   refine ⟨_,S,⟨_,_,rfl,rfl,rfl⟩,less_,?_⟩
   exact ⟨by rw [← hq];rfl,rfl⟩
theorem numV_Less (a b : List Nat) (va vb : Value) (S : Mem) (ha : Sl 1 u64s S va a) (hb : Sl 1 u64s S vb b) :
  ACall Tryz.prog 28 #[va,vb] S fun r S'=>r = .bool (lessB a b)∧S'=S:=by
 have hq:=cmpB_lt a b
 refine ACall.enter (rs:=[.tmp 4]) 9 [(0,va),(1,vb)] Tryz.func28 rfl rfl (Nat.le_of_ble_eq_true rfl) rfl ⟨rfl,rfl,trivial⟩ ?_
 iterate 9 refine s1_ ?_
 refine ca_ rfl (numV_Compare a b va vb S ha hb) ?_
 rintro _ S1 ⟨rfl,h1⟩
 rw [h1];clear h1 S1
 refine rC (Calm.bin rfl rfl (bin_bool (bin_lss _ _) hq)) ?_
 iterate 3 refine s1_ ?_
 refine su_ [(0,_),(1,_),(4,_)] ?_
 refine s1_ ?_
 refine ⟨_,S,⟨_,_,rfl,rfl,rfl⟩,less_,?_⟩
 exact ⟨rfl,rfl⟩
set_option maxHeartbeats 1000000 in
theorem rnumV_Less (a b : List Nat) (va vb : Value) (S : Mem) (ha : Sl 1 u64s S va a) (hb : Sl 1 u64s S vb b) :
  ACall Tryz.prog 12 #[va,vb] S fun r S'=>r = .bool (lessB a b)∧S'=S:=by
 obtain ⟨pa,ca,rfl,ha1,ha2,ha3⟩:=ha
 obtain ⟨pb,cb,rfl,hb1,hb2,hb3⟩:=hb
 refine ACall.enter (rs:=[.tmp 4]) 41 [(0,.slice pa a.length ca),(1,.slice pb b.length cb)] Tryz.func12 rfl rfl (Nat.le_of_ble_eq_true rfl) rfl ⟨rfl,rfl,trivial⟩ ?_
 iterate 12 refine s1_ ?_
 refine AWP.loop (X:=Nat) (fun x=>[(0,.slice pa a.length ca),(1,.slice pb b.length cb),(5,.int .i64 x)]) (fun x=>S) (fun x=>x≤a.length∧x≤b.length∧lessB (a.drop x) (b.drop x)=lessB a b) (fun x=>a.length-x) (0) ⟨rfl,rfl,rfl,trivial⟩ (Mem.Less.refl _) (⟨Nat.zero_le _,Nat.zero_le _,rfl⟩) ?_
 rintro i ⟨hi1,hi2,hq⟩
 (try dsimp only at *)
 by_cases hl:i<a.length
 ·by_cases hlb:i<b.length
  ·iterate 15 refine s1_ ?_
   refine su_ [(0,_),(1,_),(5,_),(15,_)] ?_
   refine cT_ ?_
   rw [List.drop_eq_getElem_cons hl,List.drop_eq_getElem_cons hlb,lessB] at hq
   obtain ⟨b0,off,rfl,hkn⟩:=ha3.resolve_left (by intro h;rw [h] at hl;exact absurd hl (Nat.not_lt_zero _))
   obtain ⟨b1,off1,rfl,hkn1⟩:=hb3.resolve_left (by intro h;rw [h] at hlb;exact absurd hlb (Nat.not_lt_zero _))
   have hkk:=hkn i hl
   have hkk1:=hkn1 i hlb
   by_cases c1:a[i]=b[i]
   ·iterate 5 refine s1_ ?_
    refine AWP.draw [(0,true),(1,true),(2,true),(3,true),(4,true),(5,true),(6,true),(7,true),(8,true)] [] mixed (by kernel_rfl) ?_
    iterate 11 refine s1_ ?_
    refine su_ [(0,_),(1,_),(5,_),(15,_),(26,_)] ?_
    refine cF_ ?_
    iterate 9 refine s1_ ?_
    refine ⟨i+1,?_,?_,?_,?_⟩
    all_goals (try dsimp only)
    ·exact ⟨rfl,rfl,rfl,trivial⟩
    ·exact Mem.Less.refl _
    ·exact ⟨hl,hlb,by rw [← hq];simp [c1]⟩
    ·omega
   ·iterate 5 refine s1_ ?_
    refine AWP.draw [(0,true),(1,true),(2,true),(3,true),(4,true),(5,true),(6,true),(7,true),(8,true)] [] mixed (by kernel_rfl) ?_
    iterate 11 refine s1_ ?_
    refine su_ [(0,_),(1,_),(5,_),(15,_),(26,_)] ?_
    refine cT_ ?_
    refine s1_ ?_
    refine AWP.draw [(0,true),(1,true),(2,true),(3,true),(4,true),(5,true),(6,true),(7,true),(8,true),(9,true)] [] mixed (by kernel_rfl) ?_
    iterate 12 refine s1_ ?_
    refine su_ [(0,_),(1,_),(5,_),(15,_),(26,_),(4,_)] ?_
    iterate 6 refine s1_ ?_
    refine ⟨_,S,⟨_,_,rfl,rfl,rfl⟩,less_,?_⟩
    exact ⟨by rw [← hq];simp [c1,one],rfl⟩
  ·iterate 15 refine s1_ ?_
   refine su_ [(0,_),(1,_),(5,_),(15,_)] ?_
   refine cF_ ?_
   rw [List.drop_of_length_le (show b.length≤i by omega)] at hq
   obtain ⟨x,y,hxy⟩ : ∃ x y,a.drop i=x :: y:=⟨_,_,List.drop_eq_getElem_cons hl⟩
   rw [hxy] at hq
   iterate 15 refine s1_ ?_
   refine su_ [(0,_),(1,_),(5,_),(15,_),(4,_)] ?_
   refine s1_ ?_
   refine ⟨_,S,⟨_,_,rfl,rfl,rfl⟩,less_,?_⟩
   exact ⟨by rw [← hq];show Value.bool _=Value.bool _;congr 1 <;> (first | (simp [lessB];done) | (simp [lessB];omega)),rfl⟩
 ·iterate 15 refine s1_ ?_
  refine su_ [(0,_),(1,_),(5,_),(15,_)] ?_
  refine cF_ ?_
  rw [List.drop_of_length_le (show a.length≤i by omega)] at hq
  by_cases hlb:i<b.length
  ·rw [List.drop_eq_getElem_cons hlb] at hq
   iterate 15 refine s1_ ?_
   refine su_ [(0,_),(1,_),(5,_),(15,_),(4,_)] ?_
   refine s1_ ?_
   refine ⟨_,S,⟨_,_,rfl,rfl,rfl⟩,less_,?_⟩
   exact ⟨by rw [← hq];show Value.bool _=Value.bool _;congr 1 <;> (first | (simp [lessB];done) | (simp [lessB];omega)),rfl⟩
  ·rw [List.drop_of_length_le (show b.length≤i by omega)] at hq
   iterate 15 refine s1_ ?_
   refine su_ [(0,_),(1,_),(5,_),(15,_),(4,_)] ?_
   refine s1_ ?_
   refine ⟨_,S,⟨_,_,rfl,rfl,rfl⟩,less_,?_⟩
   exact ⟨by rw [← hq];show Value.bool _=Value.bool _;congr 1 <;> (first | (simp [lessB];done) | (simp [lessB];omega)),rfl⟩
end Go.Proofs.YthbadpcmdlfmdaaGreatDoor
namespace Go.Proofs.YthbadpcmdlfmdaaGreatDoor
namespace Loser
open Num
/-- A key is less than another one; the empty one is the last. -/
def kLess (x y : List Nat) : Bool := match x, y with
  | [], _ => false
  | _ :: _, [] => true
  | x, y => lessB x y
theorem lessB_trans (a b c : List Nat) (h1 : lessB a b = true) (h2 : lessB b c = true) : lessB a c = true := by
 induction a generalizing b c with
 | nil=>cases b with
  | nil=>simp [lessB] at h1
  | cons y b=>cases c with
   | nil=>simp [lessB] at h2
   | cons z c=>rfl
 | cons x a ih =>
  cases b with
  | nil=>simp [lessB] at h1
  | cons y b =>
   cases c with
   | nil=>simp [lessB] at h2
   | cons z c =>
    simp only [lessB,Bool.or_eq_true,decide_eq_true_eq,Bool.and_eq_true] at h1 h2 ⊢
    rcases h1 with h1 | ⟨h1,h1'⟩ <;> rcases h2 with h2 | ⟨h2,h2'⟩
    ·left;omega
    ·left;omega
    ·left;omega
    ·right;exact ⟨by omega,ih b c h1' h2'⟩
theorem kLess_irrefl (x : List Nat) : kLess x x = false := by cases x with
 | nil=>rfl
 | cons a x=>exact lessB_irrefl _
theorem kLess_trans (x y z : List Nat) (h1 : kLess x y = true) (h2 : kLess y z = true) : kLess x z = true := by
 cases x with
 | nil=>simp [kLess] at h1
 | cons a x=>cases y with
  | nil=>simp [kLess] at h2
  | cons b y=>cases z with
   | nil=>rfl
   | cons c z=>exact lessB_trans _ _ _ h1 h2
theorem kLess_total (x y : List Nat) (h1 : kLess x y = false) (h2 : kLess y x = false) : x = y := by
 cases x with
 | nil=>cases y with
  | nil=>rfl
  | cons b y=>simp [kLess] at h2
 | cons a x=>cases y with
  | nil=>simp [kLess] at h1
  | cons b y=>exact lessB_total _ _ h1 h2
def key (ks : List (List Nat)) (a : Nat) : List Nat := ks.getD a []
/-- A leaf beats another one. -/
def beatsP (ks : List (List Nat)) (a b : Nat) : Bool := kLess (key ks a) (key ks b) || (decide (key ks a = key ks b) && decide (a < b))
theorem beats_irrefl (ks : List (List Nat)) (a : Nat) : beatsP ks a a = false := by simp [beatsP, kLess_irrefl]
theorem beats_trans (ks : List (List Nat)) (a b c : Nat) (h1 : beatsP ks a b = true) (h2 : beatsP ks b c = true) : beatsP ks a c = true := by
 simp only [beatsP,Bool.or_eq_true,Bool.and_eq_true,decide_eq_true_eq] at h1 h2 ⊢
 rcases h1 with h1 | ⟨h1,h1'⟩ <;> rcases h2 with h2 | ⟨h2,h2'⟩
 ·exact .inl (kLess_trans _ _ _ h1 h2)
 ·left;rw [← h2];exact h1
 ·left;rw [h1];exact h2
 ·right;exact ⟨h1.trans h2,by omega⟩
theorem beats_asymm (ks : List (List Nat)) (a b : Nat) (h1 : beatsP ks a b = true) : beatsP ks b a = false := by
 cases h:beatsP ks b a with
 | false=>rfl
 | true=>have:=beats_trans ks a b a h1 h;rw [beats_irrefl] at this;cases this
theorem beats_total (ks : List (List Nat)) (a b : Nat) (hne : a ≠ b) : beatsP ks a b = true ∨ beatsP ks b a = true := by
 simp only [beatsP,Bool.or_eq_true,Bool.and_eq_true,decide_eq_true_eq]
 cases h1:kLess (key ks a) (key ks b) with
 | true=>simp
 | false =>
  cases h2:kLess (key ks b) (key ks a) with
  | true=>simp
  | false =>
   have:=kLess_total _ _ h1 h2
   rw [this];simp;omega
theorem beats_not (ks : List (List Nat)) (a b : Nat) (hne : a ≠ b) : beatsP ks a b = !beatsP ks b a := by
 rcases beats_total ks a b hne with h | h
 ·rw [h,beats_asymm ks a b h];rfl
 ·rw [h,beats_asymm ks b a h];rfl
/-- Who wins at a node; 'f': how deep to look. -/
def winF (ks : List (List Nat)) : Nat → Nat → Nat
  | 0, n => n - ks.length
  | f + 1, n => if ks.length ≤ n then n - ks.length else
    if beatsP ks (winF ks f (2 * n + 1)) (winF ks f (2 * n)) then winF ks f (2 * n + 1) else winF ks f (2 * n)
theorem winF_more (ks : List (List Nat)) (f g n : Nat) (hn : 1 ≤ n) (hf : ks.length ≤ f + n) (hg : ks.length ≤ g + n) : winF ks f n = winF ks g n := by
 induction f generalizing g n with
 | zero=>cases g with
  | zero=>rfl
  | succ g=>rw [winF,winF,if_pos (by omega)]
 | succ f ih=>cases g with
  | zero=>rw [winF,winF,if_pos (by omega)]
  | succ g =>
   rw [winF,winF]
   split
   ·rfl
   ·rw [ih g (2*n) (by omega) (by omega) (by omega),ih g (2*n+1) (by omega) (by omega) (by omega)]
def win (ks : List (List Nat)) (n : Nat) : Nat := winF ks ks.length n
def los (ks : List (List Nat)) (n : Nat) : Nat := if beatsP ks (win ks (2 * n + 1)) (win ks (2 * n)) then win ks (2 * n) else win ks (2 * n + 1)
theorem win_leaf (ks : List (List Nat)) (n : Nat) (h : ks.length ≤ n) : win ks n = n - ks.length := by
 have:∀ f,winF ks f n=n-ks.length:=fun f=>by
  cases f with
  | zero=>rfl
  | succ f=>rw [winF,if_pos h]
 exact this _
theorem win_node (ks : List (List Nat)) (n : Nat) (hn : 1 ≤ n) (h : n < ks.length) : win ks n = if beatsP ks (win ks (2 * n + 1)) (win ks (2 * n)) then win ks (2 * n + 1) else win ks (2 * n) := by
 unfold win
 obtain ⟨f,hf⟩ : ∃ f,ks.length=f+1:=⟨ks.length-1,by omega⟩
 conv=>lhs;rw [hf,winF]
 rw [if_neg (by omega),winF_more ks f ks.length (2*n) (by omega) (by omega) (by omega),winF_more ks f ks.length (2*n+1) (by omega) (by omega) (by omega)]
/-- Leaf i is under node n, in a tree of k leaves. -/
def under (k n i : Nat) : Prop := ∃ j, (k + i) / 2 ^ j = n
theorem div_pow_succ (x j : Nat) : x / 2 ^ (j + 1) = x / 2 ^ j / 2 := by rw [Nat.pow_succ, Nat.div_div_eq_div_mul]
theorem under_leaf {k n i : Nat} (hi : i < k) (hn : k ≤ n) : under k n i ↔ n = k + i := by
 constructor
 ·rintro ⟨j,h⟩
  cases j with
  | zero=>simpa using h.symm
  | succ j =>
   have h1:(k+i) / 2 ^ (j+1)≤(k+i) / 2:=by
    rw [Nat.pow_succ,Nat.mul_comm,← Nat.div_div_eq_div_mul];exact Nat.div_le_self _ _
   omega
 ·rintro rfl;exact ⟨0,by simp⟩
theorem under_node {k n i : Nat} (hn : n < k) : under k n i ↔ under k (2 * n) i ∨ under k (2 * n + 1) i := by
 constructor
 ·rintro ⟨j,h⟩
  cases j with
  | zero=>simp at h;omega
  | succ j =>
   rw [div_pow_succ] at h
   have:(k+i) / 2 ^ j=2*n∨(k+i) / 2 ^ j=2*n+1:=by omega
   rcases this with h | h
   ·exact .inl ⟨j,h⟩
   ·exact .inr ⟨j,h⟩
 ·rintro (⟨j,h⟩ | ⟨j,h⟩) <;> exact ⟨j+1,by rw [div_pow_succ,h];omega⟩
theorem under_order {k a b i : Nat} (ha : under k a i) (hb : under k b i) (h : b < a) : b ≤ a / 2 := by
 obtain ⟨j,rfl⟩:=ha
 obtain ⟨j',rfl⟩:=hb
 have hlt:j<j':=by
  rcases Nat.lt_or_ge j j' with h' | h'
  ·exact h'
  ·exfalso
   have:=Nat.div_le_div_left (Nat.pow_le_pow_right (by decide) h':2 ^ j'≤2 ^ j) (Nat.pow_pos (by decide:0<2)) (a:=k+i)
   omega
 obtain ⟨d,rfl⟩ : ∃ d,j'=j+1+d:=⟨j'-j-1,by omega⟩
 rw [Nat.pow_add,← Nat.div_div_eq_div_mul,div_pow_succ]
 exact Nat.div_le_self _ _
theorem under_apart {k n i : Nat} (hn : 1 ≤ n) (h1 : under k (2 * n) i) (h2 : under k (2 * n + 1) i) : False := by
 have:=under_order h2 h1 (by omega);omega
theorem under_top {k i : Nat} (hi : i < k) : under k 1 i := by
 have:∀ x,1≤x → ∃ j,x / 2 ^ j=1:=by
  intro x
  induction x using Nat.strongRecOn with
  | _ x ih =>
   intro hx
   by_cases h:x=1
   ·exact ⟨0,by simpa using h⟩
   ·obtain ⟨j,hj⟩:=ih (x / 2) (by omega) (by omega)
    exact ⟨j+1,by rw [Nat.pow_succ,Nat.mul_comm,← Nat.div_div_eq_div_mul];exact hj⟩
 exact this (k+i) (by omega)
/-- The winner at a node is a leaf under it that beats each other one. -/
theorem win_spec (ks : List (List Nat)) : ∀ (d n : Nat), 2 * ks.length ≤ d + n → 1 ≤ n → n < 2 * ks.length → win ks n < ks.length ∧ under ks.length n (win ks n) ∧ ∀ i, i < ks.length → under ks.length n i → i ≠ win ks n → beatsP ks (win ks n) i = true := by
 intro d
 induction d with
 | zero=>intro n h _ h2;omega
 | succ d ih =>
  intro n hd hn h2
  by_cases hk:ks.length≤n
  ·rw [win_leaf ks n hk]
   refine ⟨by omega,(under_leaf (by omega) hk).2 (by omega),fun i hi hu hne=>?_⟩
   have:=(under_leaf hi hk).1 hu;omega
  ·have hk':n<ks.length:=by omega
   obtain ⟨a1,a2,a3⟩:=ih (2*n) (by omega) (by omega) (by omega)
   obtain ⟨b1,b2,b3⟩:=ih (2*n+1) (by omega) (by omega) (by omega)
   have hab:win ks (2*n+1)≠win ks (2*n):=fun e=>under_apart hn a2 (e ▸ b2)
   rw [win_node ks n hn hk']
   split
   ·rename_i hb
    refine ⟨b1,(under_node hk').2 (.inr b2),fun i hi hu hne=>?_⟩
    rcases (under_node hk').1 hu with hu | hu
    ·by_cases e:i=win ks (2*n)
     ·subst e;exact hb
     ·exact beats_trans _ _ _ _ hb (a3 i hi hu e)
    ·exact b3 i hi hu hne
   ·rename_i hb
    have hb':beatsP ks (win ks (2*n)) (win ks (2*n+1))=true:=by rw [beats_not ks _ _ (Ne.symm hab)];simpa using hb
    refine ⟨a1,(under_node hk').2 (.inl a2),fun i hi hu hne=>?_⟩
    rcases (under_node hk').1 hu with hu | hu
    ·exact a3 i hi hu hne
    ·by_cases e:i=win ks (2*n+1)
     ·subst e;exact hb'
     ·exact beats_trans _ _ _ _ hb' (b3 i hi hu e)
theorem win_lt {ks : List (List Nat)} {n : Nat} (hn : 1 ≤ n) (h : n < 2 * ks.length) : win ks n < ks.length := (win_spec ks (2 * ks.length) n (by omega) hn h).1
theorem win_under {ks : List (List Nat)} {n : Nat} (hn : 1 ≤ n) (h : n < 2 * ks.length) : under ks.length n (win ks n) := (win_spec ks (2 * ks.length) n (by omega) hn h).2.1
theorem win_beats {ks : List (List Nat)} {n i : Nat} (hn : 1 ≤ n) (h : n < 2 * ks.length) (hi : i < ks.length) (hu : under ks.length n i) (hne : i ≠ win ks n) : beatsP ks (win ks n) i = true := (win_spec ks (2 * ks.length) n (by omega) hn h).2.2 i hi hu hne
theorem win_ne {ks : List (List Nat)} {n : Nat} (hn : 1 ≤ n) (h : n < ks.length) : win ks (2 * n + 1) ≠ win ks (2 * n) := fun e => under_apart hn (win_under (by omega) (by omega)) (e ▸ win_under (n := 2 * n + 1) (by omega) (by omega))
/-- It is the only such leaf. -/
theorem win_only {ks : List (List Nat)} {n w : Nat} (hn : 1 ≤ n) (h : n < 2 * ks.length) (hw : w < ks.length) (hu : under ks.length n w) (hb : ∀ i, i < ks.length → under ks.length n i → i ≠ w → beatsP ks w i = true) : win ks n = w := by
 by_cases e:w=win ks n
 ·exact e.symm
 ·have h1:=win_beats hn h hw hu e
  have h2:=hb (win ks n) (win_lt hn h) (win_under hn h) (Ne.symm e)
  rw [beats_asymm _ _ _ h1] at h2;cases h2
/-- The tree of keys: the winner, and each node's loser. -/
def treeOf (ks : List (List Nat)) : List Int := (List.range ks.length).map fun n => if n = 0 then (win ks 1 : Int) else (los ks n : Int)
theorem treeOf_length (ks : List (List Nat)) : (treeOf ks).length = ks.length := by simp [treeOf]
end Loser
end Go.Proofs.YthbadpcmdlfmdaaGreatDoor
namespace Go.Proofs.YthbadpcmdlfmdaaGreatDoor
namespace Loser
open Num
theorem key_set_other (ks : List (List Nat)) (w i : Nat) (x : List Nat) (h : i ≠ w) : key (ks.set w x) i = key ks i := by simp [key, List.getD, Ne.symm h]
theorem key_set_same (ks : List (List Nat)) (w : Nat) (x : List Nat) (h : w < ks.length) : key (ks.set w x) w = x := by simp [key, List.getD, h]
theorem key_get (ks : List (List Nat)) (i : Nat) (h : i < ks.length) : key ks i = ks[i] := by simp [key, List.getD, h]
theorem beats_set (ks : List (List Nat)) (w a b : Nat) (x : List Nat) (ha : a ≠ w) (hb : b ≠ w) : beatsP (ks.set w x) a b = beatsP ks a b := by
 unfold beatsP;rw [key_set_other _ _ _ _ ha,key_set_other _ _ _ _ hb]
theorem win_off (ks : List (List Nat)) (w n : Nat) (x : List Nat) (hn : 1 ≤ n) (h : n < 2 * ks.length) (hu : ¬ under ks.length n w) : win (ks.set w x) n = win ks n := by
 have hl:(ks.set w x).length=ks.length:=List.length_set
 have hne:∀ i,under ks.length n i→i≠w:=fun i hi e=>hu (e ▸ hi)
 refine win_only hn (by rw [hl];exact h) (by rw [hl];exact win_lt hn h) (by rw [hl];exact win_under hn h) fun i hi hui hni=>?_
 rw [hl] at hi hui
 rw [beats_set _ _ _ _ _ (hne _ (win_under hn h)) (hne i hui)]
 exact win_beats hn h hi hui hni
theorem los_off (ks : List (List Nat)) (w n : Nat) (x : List Nat) (hn : 1 ≤ n) (h : n < ks.length) (hu : ¬ under ks.length n w) : los (ks.set w x) n = los ks n := by
 have h1 : ¬ under ks.length (2*n) w:=fun e=>hu ((under_node h).2 (.inl e))
 have h2 : ¬ under ks.length (2*n+1) w:=fun e=>hu ((under_node h).2 (.inr e))
 unfold los
 rw [win_off ks w (2*n) x (by omega) (by omega) h1,win_off ks w (2*n+1) x (by omega) (by omega) h2]
 have ha:=win_under (ks:=ks) (n:=2*n) (by omega) (by omega)
 have hb:=win_under (ks:=ks) (n:=2*n+1) (by omega) (by omega)
 have hb':win ks (2*n+1)≠w:=fun e=>by rw [e] at hb;exact h2 hb
 have ha':win ks (2*n)≠w:=fun e=>by rw [e] at ha;exact h1 ha
 rw [beats_set _ _ _ _ _ hb' ha']
/-- The whole tree's winner wins at each node above it. -/
theorem win_path (ks : List (List Nat)) (n : Nat) (hn : 1 ≤ n) (h : n < 2 * ks.length) (hu : under ks.length n (win ks 1)) : win ks n = win ks 1 := by
 have h1:1<2*ks.length:=by omega
 exact win_only hn h (win_lt (by decide) h1) hu fun i hi _ hne=>win_beats (by decide) h1 hi (under_top hi) hne
/-- What a node above the winner keeps is the winner beside it, whatever the winner's new key. -/
theorem los_on (ks : List (List Nat)) (n c s : Nat) (x : List Nat) (hn : 1 ≤ n) (h : n < ks.length) (hc : (c = 2 * n ∧ s = 2 * n + 1) ∨ (c = 2 * n + 1 ∧ s = 2 * n)) (hu : under ks.length c (win ks 1)) : los ks n = win (ks.set (win ks 1) x) s := by
 have hs : ¬ under ks.length s (win ks 1):=fun e=>by
  rcases hc with ⟨rfl,rfl⟩ | ⟨rfl,rfl⟩
  ·exact under_apart hn hu e
  ·exact under_apart hn e hu
 rw [win_off ks _ s x (by omega) (by omega) hs]
 have hcw:=win_path ks c (by omega) (by omega) hu
 have hsu:=win_under (ks:=ks) (n:=s) (by omega) (by omega)
 have hne:win ks s≠win ks 1:=fun e=>hs (e ▸ hsu)
 have hb:beatsP ks (win ks 1) (win ks s)=true:=win_beats (by decide) (by omega) (win_lt (by omega) (by omega)) (under_top (win_lt (by omega) (by omega))) hne
 unfold los
 rcases hc with ⟨rfl,rfl⟩ | ⟨rfl,rfl⟩
 ·rw [hcw,beats_asymm _ _ _ hb];simp
 ·rw [hcw,hb];simp
/-- A game played again. -/
theorem game (ks : List (List Nat)) (n c s : Nat) (hn : 1 ≤ n) (h : n < ks.length) (hc : (c = 2 * n ∧ s = 2 * n + 1) ∨ (c = 2 * n + 1 ∧ s = 2 * n)) :
  (beatsP ks (win ks s) (win ks c)=true→win ks n=win ks s∧los ks n=win ks c)∧(beatsP ks (win ks s) (win ks c)=false→win ks n=win ks c∧los ks n=win ks s):=by
 have hne:=win_ne hn h
 rw [win_node ks n hn h];unfold los
 rcases hc with ⟨rfl,rfl⟩ | ⟨rfl,rfl⟩
 ·constructor <;> intro hb <;> rw [hb] <;> simp
 ·rw [beats_not ks _ _ (Ne.symm hne)]
  constructor <;> intro hb
  ·have:beatsP ks (win ks (2*n+1)) (win ks (2*n))=false:=by simpa using hb
   rw [this];simp
  ·have:beatsP ks (win ks (2*n+1)) (win ks (2*n))=true:=by simpa using hb
   rw [this];simp
/-- A tree in the middle of a replacement: games up to node c are played. -/
structure RepI (ks : List (List Nat)) (x : List Nat) (c : Nat) (tr : List Int) : Prop where
  len : tr.length = ks.length
  old : ∀ m, 1 ≤ m → m < ks.length → under ks.length m (win ks 1) → m < c → tr[m]? = some (los ks m : Int)
  new : ∀ m, 1 ≤ m → m < ks.length → ¬ (under ks.length m (win ks 1) ∧ m < c) → tr[m]? = some (los (ks.set (win ks 1) x) m : Int)
  at_ : 1 ≤ c ∧ c < 2 * ks.length ∧ under ks.length c (win ks 1)
theorem treeOf_get (ks : List (List Nat)) (m : Nat) (h1 : 1 ≤ m) (h : m < ks.length) : (treeOf ks)[m]? = some (los ks m : Int) := by
 simp [treeOf,h];omega
theorem treeOf_zero (ks : List (List Nat)) (h : 1 ≤ ks.length) : (treeOf ks)[0]? = some (win ks 1 : Int) := by
 have:0<ks.length:=by omega
 simp [treeOf,this]
theorem RepI.start (ks : List (List Nat)) (x : List Nat) (h : 1 ≤ ks.length) : RepI ks x (ks.length + win ks 1) (treeOf ks) := by
 have hw:=win_lt (ks:=ks) (n:=1) (by decide) (by omega)
 refine ⟨treeOf_length ks,fun m h1 h2 _ _=>treeOf_get ks m h1 h2,fun m h1 h2 hn=>?_,by omega,by omega,⟨0,by simp⟩⟩
 rw [treeOf_get ks m h1 h2,los_off ks _ m x h1 h2 (fun e=>hn ⟨e,by omega⟩)]
theorem RepI.sib {ks : List (List Nat)} {x : List Nat} {c : Nat} {tr : List Int} (h : RepI ks x c tr) (hn : 1 ≤ c / 2) :
  ∃ s,((c=2*(c / 2)∧s=2*(c / 2)+1)∨(c=2*(c / 2)+1∧s=2*(c / 2)))∧tr[c / 2]?=some (win (ks.set (win ks 1) x) s:Int)∧c / 2<ks.length∧s<2*ks.length∧1≤s:=by
 obtain ⟨h1,h2,h3⟩:=h.at_
 have hk:c / 2<ks.length:=by omega
 have hu:under ks.length (c / 2) (win ks 1):=by obtain ⟨j,hj⟩:=h3;exact ⟨j+1,by rw [div_pow_succ,hj]⟩
 have hs:∃ s,(c=2*(c / 2)∧s=2*(c / 2)+1)∨(c=2*(c / 2)+1∧s=2*(c / 2)):=by
  rcases Nat.mod_two_eq_zero_or_one c with e | e
  ·exact ⟨_,.inl ⟨by omega,rfl⟩⟩
  ·exact ⟨_,.inr ⟨by omega,rfl⟩⟩
 obtain ⟨s,hs⟩:=hs
 refine ⟨s,hs,?_,hk,by omega,by omega⟩
 rw [h.old (c / 2) hn hk hu (by omega),los_on ks (c / 2) c s x hn hk hs h3]
theorem RepI.step {ks : List (List Nat)} {x : List Nat} {c : Nat} {tr : List Int} (h : RepI ks x c tr) (hn : 1 ≤ c / 2) : RepI ks x (c / 2) (tr.set (c / 2) (los (ks.set (win ks 1) x) (c / 2) : Int)) := by
 obtain ⟨h1,h2,h3⟩:=h.at_
 have hk:c / 2<ks.length:=by omega
 have hu:under ks.length (c / 2) (win ks 1):=by obtain ⟨j,hj⟩:=h3;exact ⟨j+1,by rw [div_pow_succ,hj]⟩
 refine ⟨by rw [List.length_set];exact h.len,fun m q1 q2 q3 q4=>?_,fun m q1 q2 q3=>?_,hn,by omega,hu⟩
 ·rw [List.getElem?_set_ne (by omega)];exact h.old m q1 q2 q3 (by omega)
 ·by_cases e:c / 2=m
  ·subst e;rw [List.getElem?_set_self (by rw [h.len];exact hk)]
  ·rw [List.getElem?_set_ne e]
   refine h.new m q1 q2 fun ⟨r1,r2⟩=>?_
   have:=under_order h3 r1 r2
   exact q3 ⟨r1,by omega⟩
theorem RepI.done {ks : List (List Nat)} {x : List Nat} {tr : List Int} (h : RepI ks x 1 tr) (hk : 1 ≤ ks.length) : tr.set 0 (win (ks.set (win ks 1) x) 1 : Int) = treeOf (ks.set (win ks 1) x) := by
 have hl:(ks.set (win ks 1) x).length=ks.length:=List.length_set
 apply List.ext_getElem?
 intro m
 by_cases hm:m<ks.length
 ·cases m with
  | zero=>rw [List.getElem?_set_self (by rw [h.len];omega),treeOf_zero _ (by rw [hl];exact hk)]
  | succ m=>rw [List.getElem?_set_ne (by omega),h.new (m+1) (by omega) hm (fun e=>by omega),treeOf_get _ _ (by omega) (by rw [hl];exact hm)]
 ·rw [List.getElem?_eq_none (by rw [List.length_set,h.len];omega),List.getElem?_eq_none (by rw [treeOf_length,hl];omega)]
/-- A tree in the middle of its making: the games above node n are played. -/
structure GroI (ks : List (List Nat)) (n : Nat) (ws tr : List Int) : Prop where
  wl : ws.length = 2 * ks.length
  tl : tr.length = ks.length
  win_ : ∀ m, n < m → m < 2 * ks.length → ws[m]? = some (win ks m : Int)
  los_ : ∀ m, n < m → 1 ≤ m → m < ks.length → tr[m]? = some (los ks m : Int)
  zero : tr[0]? = some 0 ∨ ks.length = 0
theorem GroI.step {ks : List (List Nat)} {n : Nat} {ws tr : List Int} (h : GroI ks n ws tr) (hn : 1 ≤ n) (hk : n < ks.length) : GroI ks (n - 1) (ws.set n (win ks n : Int)) (tr.set n (los ks n : Int)) := by
 refine ⟨by simp [h.wl],by simp [h.tl],fun m q1 q2=>?_,fun m q1 q2 q3=>?_,?_⟩
 ·by_cases e:n=m
  ·subst e;rw [List.getElem?_set_self (by rw [h.wl];omega)]
  ·rw [List.getElem?_set_ne e];exact h.win_ m (by omega) q2
 ·by_cases e:n=m
  ·subst e;rw [List.getElem?_set_self (by rw [h.tl];omega)]
  ·rw [List.getElem?_set_ne e];exact h.los_ m (by omega) q2 q3
 ·rw [List.getElem?_set_ne (by omega)];exact h.zero
theorem GroI.done {ks : List (List Nat)} {ws tr : List Int} (h : GroI ks 0 ws tr) (hk : 1 < ks.length) : tr.set 0 (win ks 1 : Int) = treeOf ks := by
 apply List.ext_getElem?
 intro m
 by_cases hm:m<ks.length
 ·cases m with
  | zero=>rw [List.getElem?_set_self (by rw [h.tl];omega),treeOf_zero _ (by omega)]
  | succ m=>rw [List.getElem?_set_ne (by omega),h.los_ (m+1) (by omega) (by omega) hm,treeOf_get _ _ (by omega) hm]
 ·rw [List.getElem?_eq_none (by rw [List.length_set,h.tl];omega),List.getElem?_eq_none (by rw [treeOf_length];omega)]
theorem GroI.done1 {ks : List (List Nat)} {ws tr : List Int} (h : GroI ks 0 ws tr) (hk : ks.length ≤ 1) : tr = treeOf ks := by
 apply List.ext_getElem?
 intro m
 by_cases hm:m<ks.length
 ·obtain rfl:m=0:=by omega
  rw [treeOf_zero _ (by omega),win_leaf _ _ (by omega),show 1-ks.length=0 from by omega]
  rcases h.zero with q | q
  ·exact q
  ·omega
 ·rw [List.getElem?_eq_none (by rw [h.tl];omega),List.getElem?_eq_none (by rw [treeOf_length];omega)]
end Loser
end Go.Proofs.YthbadpcmdlfmdaaGreatDoor
namespace Go.Proofs.YthbadpcmdlfmdaaGreatDoor
open Go.RowKit
open Mv Num Loser
set_option maxRecDepth 4000
/-- The block of a tree at work. -/
def treeB (hk ht : Value) : Blk := ⟨71, [hk, ht], 2⟩
def intB (l : List Int) (c : Nat) : Blk := ⟨3, l.map (fun x => Value.int .i64 x), c⟩
theorem beats_cmp (ks : List (List Nat)) (a b : Nat) (hx : key ks a ≠ []) (hy : key ks b ≠ []) : beatsP ks a b = (decide (cmpB (key ks a) (key ks b) < 0) || (decide (cmpB (key ks a) (key ks b) = 0) && decide (a < b))) := by
 unfold beatsP
 rw [cmpB_lt]
 have h1:kLess (key ks a) (key ks b)=lessB (key ks a) (key ks b):=by
  generalize key ks a=x at *;generalize key ks b=y at *
  cases x with
  | nil=>exact absurd rfl hx
  | cons _ _=>cases y with
   | nil=>exact absurd rfl hy
   | cons _ _=>rfl
 have h2:∀ x y:List Nat,cmpB x y=0 ↔ x=y:=by
  intro x
  induction x with
  | nil=>intro y;cases y <;> simp [cmpB]
  | cons a x ih =>
   intro y
   cases y with
   | nil=>simp [cmpB]
   | cons b y =>
    simp only [cmpB]
    split
    ·simp;omega
    ·split
     ·simp;omega
     ·rw [ih];simp;omega
 rw [h1]
 congr 1;congr 1;rw [Bool.eq_iff_iff];simp [h2]
set_option maxHeartbeats 1000000 in
theorem losV_beats (p : Nat) (hk ht : Value) (ks : List (List Nat)) (a b : Nat) (S : Mem) (hp : S.own p = some (treeB hk ht)) (hks : SlOf RowR S hk ks) (ha : a < ks.length) (hb : b < ks.length) :
  ACall Tryz.prog 56 #[.pointer (some ⟨p,0,none⟩),.int .i64 a,.int .i64 b] S fun r S'=>r = .bool (beatsP ks a b)∧S'=S:=by
 unfold treeB at hp
 obtain ⟨hs,hsl,⟨pa,ca,rfl,h1,h2,h3⟩,hse⟩:=hks
 obtain ⟨b0,off,rfl,hkn⟩:=h3.resolve_left (by intro h;rw [h] at hsl;simp at hsl;omega)
 have hka:=hkn a (by omega)
 have hkb:=hkn b (by omega)
 have hra:=hse a ha (by omega)
 have hrb:=hse b hb (by omega)
 rw [← key_get ks a ha] at hra
 rw [← key_get ks b hb] at hrb
 have hcmp:=beats_cmp ks a b
 have hb1:key ks a = []→key ks b = []→beatsP ks a b=decide (a<b):=fun h1 h2=>by unfold beatsP;rw [h1,h2];simp [kLess]
 have hb2:key ks a = []→key ks b ≠ []→beatsP ks a b=false:=fun h1 h2=>by
  unfold beatsP;rw [h1]
  have:decide ([]=key ks b)=false:=decide_eq_false (Ne.symm h2)
  rw [this];simp [kLess]
 have hb3:key ks a ≠ []→key ks b = []→beatsP ks a b=true:=fun h1 h2=>by
  unfold beatsP;rw [h2]
  cases h:key ks a with
  | nil=>exact absurd h h1
  | cons _ _=>rfl
 have hlt:decide ((a:Int)<(b:Int))=decide (a<b):=by rw [Bool.eq_iff_iff];simp
 have lz:∀ l:List Nat,l.length=0 ↔ l = []:=fun l=>List.length_eq_zero_iff
 generalize key ks a=x at *
 generalize key ks b=y at *
 obtain ⟨ga,hga⟩ : ∃ g,g=hs[a]:=⟨_,rfl⟩
 obtain ⟨gb,hgb⟩ : ∃ g,g=hs[b]:=⟨_,rfl⟩
 rw [← hga] at hka hra
 rw [← hgb] at hkb hrb
 obtain ⟨qa,da,rfl,xa1,xa2,_⟩:=id hra
 obtain ⟨qb,db,rfl,xb1,xb2,_⟩:=id hrb
 by_cases hx:x.length=0
 ·by_cases hy:y.length=0
  ·rw [hb1 ((lz x).1 hx) ((lz y).1 hy)]
   refine ACall.enter (rs:=[.tmp 6]) 60 [(0,.pointer (some ⟨p,0,none⟩)),(1,.int .i64 a),(2,.int .i64 b)] Tryz.func56 rfl rfl (Nat.le_of_ble_eq_true rfl) rfl ⟨rfl,rfl,rfl,trivial⟩ ?_
   iterate 6 refine s1_ ?_
   refine AWP.draw [(0,true),(1,true),(2,true),(3,true),(4,true),(5,true),(6,true),(7,true),(8,true),(9,true),(10,true),(11,true),(12,true),(13,true),(14,true),(15,true),(16,true),(17,true)] [] mixed (by kernel_rfl) ?_
   iterate 20 refine s1_ ?_
   refine su_ [(0,_),(1,_),(2,_),(6,_),(7,_),(8,_)] ?_
   iterate 15 refine s1_ ?_
   refine su_ [(0,_),(1,_),(2,_),(6,_),(7,_),(8,_),(26,_)] ?_
   refine cT_ ?_
   iterate 4 refine s1_ ?_
   refine rC (Calm.bin rfl rfl (bin_bool (bin_lss _ _) hlt)) ?_
   iterate 3 refine s1_ ?_
   refine su_ [(0,_),(1,_),(2,_),(6,_),(7,_),(8,_),(26,_)] ?_
   iterate 3 refine s1_ ?_
   refine ⟨_,S,⟨_,_,rfl,rfl,rfl⟩,less_,?_⟩
   exact ⟨rfl,rfl⟩
  ·rw [hb2 ((lz x).1 hx) (fun e=>hy ((lz y).2 e))]
   refine ACall.enter (rs:=[.tmp 6]) 60 [(0,.pointer (some ⟨p,0,none⟩)),(1,.int .i64 a),(2,.int .i64 b)] Tryz.func56 rfl rfl (Nat.le_of_ble_eq_true rfl) rfl ⟨rfl,rfl,rfl,trivial⟩ ?_
   iterate 6 refine s1_ ?_
   refine AWP.draw [(0,true),(1,true),(2,true),(3,true),(4,true),(5,true),(6,true),(7,true),(8,true),(9,true),(10,true),(11,true),(12,true),(13,true),(14,true),(15,true),(16,true),(17,true)] [] mixed (by kernel_rfl) ?_
   iterate 20 refine s1_ ?_
   refine su_ [(0,_),(1,_),(2,_),(6,_),(7,_),(8,_)] ?_
   iterate 15 refine s1_ ?_
   refine su_ [(0,_),(1,_),(2,_),(6,_),(7,_),(8,_),(26,_)] ?_
   refine cF_ ?_
   iterate 13 refine s1_ ?_
   refine su_ [(0,_),(1,_),(2,_),(6,_),(7,_),(8,_),(26,_),(38,_)] ?_
   refine cT_ ?_
   iterate 8 refine s1_ ?_
   refine su_ [(0,_),(1,_),(2,_),(6,_),(7,_),(8,_),(26,_),(38,_)] ?_
   iterate 3 refine s1_ ?_
   refine ⟨_,S,⟨_,_,rfl,rfl,rfl⟩,less_,?_⟩
   exact ⟨rfl,rfl⟩
 ·by_cases hy:y.length=0
  ·rw [hb3 (fun e=>hx ((lz x).2 e)) ((lz y).1 hy)]
   refine ACall.enter (rs:=[.tmp 6]) 60 [(0,.pointer (some ⟨p,0,none⟩)),(1,.int .i64 a),(2,.int .i64 b)] Tryz.func56 rfl rfl (Nat.le_of_ble_eq_true rfl) rfl ⟨rfl,rfl,rfl,trivial⟩ ?_
   iterate 6 refine s1_ ?_
   refine AWP.draw [(0,true),(1,true),(2,true),(3,true),(4,true),(5,true),(6,true),(7,true),(8,true),(9,true),(10,true),(11,true),(12,true),(13,true),(14,true),(15,true),(16,true),(17,true)] [] mixed (by kernel_rfl) ?_
   iterate 20 refine s1_ ?_
   refine su_ [(0,_),(1,_),(2,_),(6,_),(7,_),(8,_)] ?_
   iterate 15 refine s1_ ?_
   refine su_ [(0,_),(1,_),(2,_),(6,_),(7,_),(8,_),(26,_)] ?_
   refine cF_ ?_
   iterate 13 refine s1_ ?_
   refine su_ [(0,_),(1,_),(2,_),(6,_),(7,_),(8,_),(26,_),(38,_)] ?_
   refine cT_ ?_
   iterate 8 refine s1_ ?_
   refine su_ [(0,_),(1,_),(2,_),(6,_),(7,_),(8,_),(26,_),(38,_)] ?_
   iterate 3 refine s1_ ?_
   refine ⟨_,S,⟨_,_,rfl,rfl,rfl⟩,less_,?_⟩
   exact ⟨rfl,rfl⟩
  ·rw [hcmp (fun e=>hx ((lz x).2 e)) (fun e=>hy ((lz y).2 e))]
   by_cases hc:cmpB x y=0
   ·have hc0:=hc
    refine ACall.enter (rs:=[.tmp 6]) 60 [(0,.pointer (some ⟨p,0,none⟩)),(1,.int .i64 a),(2,.int .i64 b)] Tryz.func56 rfl rfl (Nat.le_of_ble_eq_true rfl) rfl ⟨rfl,rfl,rfl,trivial⟩ ?_
    iterate 6 refine s1_ ?_
    refine AWP.draw [(0,true),(1,true),(2,true),(3,true),(4,true),(5,true),(6,true),(7,true),(8,true),(9,true),(10,true),(11,true),(12,true),(13,true),(14,true),(15,true),(16,true),(17,true)] [] mixed (by kernel_rfl) ?_
    iterate 20 refine s1_ ?_
    refine su_ [(0,_),(1,_),(2,_),(6,_),(7,_),(8,_)] ?_
    iterate 15 refine s1_ ?_
    refine su_ [(0,_),(1,_),(2,_),(6,_),(7,_),(8,_),(26,_)] ?_
    refine cF_ ?_
    iterate 13 refine s1_ ?_
    refine su_ [(0,_),(1,_),(2,_),(6,_),(7,_),(8,_),(26,_),(38,_)] ?_
    refine cF_ ?_
    iterate 8 refine s1_ ?_
    refine ca_ rfl (numV_Compare x y _ _ S hra hrb) ?_
    rintro _ S1 ⟨rfl,h1⟩
    rw [h1];clear h1 S1
    iterate 3 refine s1_ ?_
    refine su_ [(0,_),(1,_),(2,_),(6,_),(7,_),(8,_),(26,_),(38,_),(9,_)] ?_
    iterate 6 refine s1_ ?_
    refine su_ [(0,_),(1,_),(2,_),(6,_),(7,_),(8,_),(26,_),(38,_),(9,_),(54,_)] ?_
    refine cF_ ?_
    iterate 6 refine s1_ ?_
    refine rC (Calm.bin rfl rfl (bin_bool (bin_lss _ _) hlt)) ?_
    iterate 3 refine s1_ ?_
    refine su_ [(0,_),(1,_),(2,_),(6,_),(7,_),(8,_),(26,_),(38,_),(9,_),(54,_)] ?_
    refine s1_ ?_
    refine ⟨_,S,⟨_,_,rfl,rfl,rfl⟩,less_,?_⟩
    exact ⟨by rw [hc];simp [one],rfl⟩
   ·have hc0:=hc
    refine ACall.enter (rs:=[.tmp 6]) 60 [(0,.pointer (some ⟨p,0,none⟩)),(1,.int .i64 a),(2,.int .i64 b)] Tryz.func56 rfl rfl (Nat.le_of_ble_eq_true rfl) rfl ⟨rfl,rfl,rfl,trivial⟩ ?_
    iterate 6 refine s1_ ?_
    refine AWP.draw [(0,true),(1,true),(2,true),(3,true),(4,true),(5,true),(6,true),(7,true),(8,true),(9,true),(10,true),(11,true),(12,true),(13,true),(14,true),(15,true),(16,true),(17,true)] [] mixed (by kernel_rfl) ?_
    iterate 20 refine s1_ ?_
    refine su_ [(0,_),(1,_),(2,_),(6,_),(7,_),(8,_)] ?_
    iterate 15 refine s1_ ?_
    refine su_ [(0,_),(1,_),(2,_),(6,_),(7,_),(8,_),(26,_)] ?_
    refine cF_ ?_
    iterate 13 refine s1_ ?_
    refine su_ [(0,_),(1,_),(2,_),(6,_),(7,_),(8,_),(26,_),(38,_)] ?_
    refine cF_ ?_
    iterate 8 refine s1_ ?_
    refine ca_ rfl (numV_Compare x y _ _ S hra hrb) ?_
    rintro _ S1 ⟨rfl,h1⟩
    rw [h1];clear h1 S1
    iterate 3 refine s1_ ?_
    refine su_ [(0,_),(1,_),(2,_),(6,_),(7,_),(8,_),(26,_),(38,_),(9,_)] ?_
    iterate 6 refine s1_ ?_
    refine su_ [(0,_),(1,_),(2,_),(6,_),(7,_),(8,_),(26,_),(38,_),(9,_),(54,_)] ?_
    refine cT_ ?_
    iterate 7 refine s1_ ?_
    refine su_ [(0,_),(1,_),(2,_),(6,_),(7,_),(8,_),(26,_),(38,_),(9,_),(54,_)] ?_
    iterate 2 refine s1_ ?_
    refine ⟨_,S,⟨_,_,rfl,rfl,rfl⟩,less_,?_⟩
    exact ⟨by simp [one,hc],rfl⟩
theorem zeros_get (n m : Nat) (h : m < n) : (List.replicate n (0 : Int))[m]? = some 0 := by simp [h]
set_option maxRecDepth 10000 in
set_option maxHeartbeats 4000000 in
theorem losV_grow (p : Nat) (hk ht : Value) (ks : List (List Nat)) (S : Mem) (hf : Fresh S p) (hks : SlOf RowR S hk ks) (hl1 : 1 ≤ ks.length) (hl2 : ks.length ≤ 256) :
  ACall Tryz.prog 53 #[.pointer (some ⟨p,0,none⟩)] (S.set p (treeB hk ht)) fun r S'=>∃ q,Fresh S q∧q≠p∧S'=(S.set q (intB (treeOf ks) ks.length)).set p (treeB hk (.slice (some ⟨q,0,none⟩) ks.length ks.length)):=by
 unfold treeB intB
 obtain ⟨pa,ca,rfl⟩ : ∃ pa ca,hk = .slice pa ks.length ca:=by
  obtain ⟨hs,hsl,⟨pa,ca,e,_⟩,_⟩:=id hks
  exact ⟨pa,ca,by rw [e,hsl]⟩
 refine ACall.enter (rs:=[]) 80 [(0,.pointer (some ⟨p,0,none⟩))] Tryz.func53 rfl rfl (Nat.le_of_ble_eq_true rfl) rfl ⟨rfl,trivial⟩ ?_
 iterate 11 refine s1_ ?_
 refine su_ [(0,_),(2,_)] ?_
 iterate 4 refine s1_ ?_
 refine ARun.makeSlice (lit_lt rfl) ty_sl_35 rfl rfl (by omega) (by omega) (by omega) (by omega) ?_
 intro b16 f16
 have g16:=f16
 repeat ((with_reducible replace g16:=fresh_set g16);obtain ⟨g16,_⟩:=g16)
 iterate 6 refine s1_ ?_
 refine su_ [(0,_),(2,_)] ?_
 simp only [Nat.mul_one,madeL_one,Int.toNat_natCast]
 iterate 4 refine s1_ ?_
 refine ARun.makeSlice (lit_lt rfl) ty_sl_35 rfl rfl (by omega) (by omega) (by omega) (by omega) ?_
 intro b22 f22
 have g22:=f22
 repeat ((with_reducible replace g22:=fresh_set g22);obtain ⟨g22,_⟩:=g22)
 iterate 3 refine s1_ ?_
 refine su_ [(0,_),(2,_),(3,_)] ?_
 have em2:(2*(ks.length:Int)).toNat=2*ks.length:=by omega
 simp only [Nat.mul_one,madeL_one,em2]
 have hz:∀ n,List.replicate n (Value.int .i64 0)=(List.replicate n (0:Int)).map fun x=>Value.int .i64 x:=fun n=>by simp
 rw [hz,hz]
 iterate 8 refine s1_ ?_
 refine AWP.loop (X:=Nat × List Int) (fun x=>[(0,.pointer (some ⟨p,0,none⟩)),(2,.int .i64 ks.length),(3,.slice (some ⟨b22,0,none⟩) (2*ks.length) (2*ks.length)),(23,.int .i64 ks.length),(24,.int .i64 x.1)]) (fun x=>((S.set b16 ⟨3,(List.replicate ks.length (0:Int)).map (fun x=>Value.int .i64 x),ks.length⟩).set b22 ⟨3,x.2.map (fun x=>Value.int .i64 x),2*ks.length⟩).set p ⟨71,[.slice pa ks.length ca,.slice (some ⟨b16,0,none⟩) ks.length ks.length],2⟩) (fun x=>x.1≤ks.length∧x.2.length=2*ks.length ∧ ∀ m,ks.length≤m→m<ks.length+x.1→x.2[m]?=some ((m-ks.length:Nat):Int)) (fun x=>ks.length-x.1) ((0,List.replicate (2*ks.length) (0:Int))) ⟨rfl,rfl,rfl,rfl,rfl,trivial⟩ less_ (⟨Nat.zero_le _,by simp,fun m h1 h2=>by omega⟩) ?_
 rintro ⟨i,ws⟩ ⟨hi,hwl,hw⟩
 (try dsimp only at *)
 iterate 6 refine s1_ ?_
 refine AWP.condB rfl (fun hil=>?_) (fun hil=>?_)
 ·have hil:i<ks.length:=by have:=of_decide_eq_true hil;omega
  have eki:((ks.length:Int)+(i:Int)).toNat=ks.length+i:=by omega
  iterate 10 refine s1_ ?_
  refine su_ [(0,_),(2,_),(3,_),(23,_),(24,_),(25,_),(4,_)] ?_
  iterate 11 refine s1_ ?_
  refine su_ [(0,_),(2,_),(3,_),(23,_),(24,_),(25,_),(4,_)] ?_
  simp only [Nat.zero_add,Nat.mul_one,eki,icells_set]
  iterate 5 refine s1_ ?_
  refine ⟨(i+1,ws.set (ks.length+i) (i:Int)),?_,?_,?_,?_⟩
  all_goals (try dsimp only)
  ·exact ⟨rfl,rfl,rfl,rfl,rfl,trivial⟩
  ·exact less_
  ·exact ⟨hil,by rw [List.length_set];exact hwl,fun m h1 h2=>by by_cases e:ks.length+i=m;(subst e;rw [List.getElem?_set_self (by omega)];simp);(rw [List.getElem?_set_ne e];exact hw m h1 (by omega))⟩
  ·omega
 ·have hil:i=ks.length:=by have:=of_decide_eq_false hil;omega
  have hG:GroI ks (ks.length-1) ws (List.replicate ks.length (0:Int)):=⟨hwl,by simp,fun m h1 h2=>by rw [hw m (by omega) (by omega),win_leaf ks m (by omega)],fun m h1 h2 h3=>by omega,.inl (zeros_get _ 0 (by omega))⟩
  iterate 13 refine s1_ ?_
  refine su_ [(0,_),(2,_),(3,_),(23,_),(24,_),(25,_),(5,_)] ?_
  refine s1_ ?_
  refine AWP.loop (X:=Nat × List Int × List Int) (fun x=>[(0,.pointer (some ⟨p,0,none⟩)),(2,.int .i64 ks.length),(3,.slice (some ⟨b22,0,none⟩) (2*ks.length) (2*ks.length)),(5,.int .i64 x.1)]) (fun x=>((S.set b16 ⟨3,x.2.2.map (fun x=>Value.int .i64 x),ks.length⟩).set b22 ⟨3,x.2.1.map (fun x=>Value.int .i64 x),2*ks.length⟩).set p ⟨71,[.slice pa ks.length ca,.slice (some ⟨b16,0,none⟩) ks.length ks.length],2⟩) (fun x=>x.1<ks.length∧GroI ks x.1 x.2.1 x.2.2) (fun x=>x.1) ((ks.length-1,ws,List.replicate ks.length (0:Int))) ⟨rfl,rfl,rfl,some_int (by omega),trivial⟩ less_ (⟨by omega,hG⟩) ?_
  rintro ⟨n,vs,tr⟩ ⟨hn,hI⟩
  (try dsimp only at *)
  have hvl:=hI.wl
  have htl:=hI.tl
  by_cases hn1:1≤n
  ·iterate 7 refine s1_ ?_
   refine su_ [(0,_),(2,_),(3,_),(5,_),(37,_)] ?_
   refine cT_ ?_
   have k1:=kn_int (S:=((S.set b16 ⟨3,tr.map (fun x=>Value.int .i64 x),ks.length⟩).set b22 ⟨3,vs.map (fun x=>Value.int .i64 x),2*ks.length⟩).set p ⟨71,[.slice pa ks.length ca,.slice (some ⟨b16,0,none⟩) ks.length ks.length],2⟩) (b:=b22) own_ (2*n) (hI.win_ (2*n) (by omega) (by omega))
   have k2:=kn_int (S:=((S.set b16 ⟨3,tr.map (fun x=>Value.int .i64 x),ks.length⟩).set b22 ⟨3,vs.map (fun x=>Value.int .i64 x),2*ks.length⟩).set p ⟨71,[.slice pa ks.length ca,.slice (some ⟨b16,0,none⟩) ks.length ks.length],2⟩) (b:=b22) own_ (2*n+1) (hI.win_ (2*n+1) (by omega) (by omega))
   have hw1:=win_lt (ks:=ks) (n:=2*n) (by omega) (by omega)
   have hw2:=win_lt (ks:=ks) (n:=2*n+1) (by omega) (by omega)
   have hg:=game ks n (2*n) (2*n+1) hn1 hn (.inl ⟨rfl,rfl⟩)
   iterate 5 refine s1_ ?_
   refine AWP.draw [(0,true),(1,true),(2,true),(3,true),(4,true),(5,true),(6,true),(7,true),(8,true),(9,true),(10,true),(11,true),(12,true)] [] mixed (by kernel_rfl) ?_
   iterate 15 refine s1_ ?_
   refine su_ [(0,_),(2,_),(3,_),(5,_),(37,_),(6,_),(7,_)] ?_
   iterate 6 refine s1_ ?_
   refine ca_ rfl (losV_beats p _ _ ks _ _ _ own_ (hks.less rowR_less less_) hw2 hw1) ?_
   rintro _ S1 ⟨rfl,h1⟩
   rw [h1];clear h1 S1
   iterate 2 refine s1_ ?_
   refine su_ [(0,_),(2,_),(3,_),(5,_),(37,_),(6,_),(7,_),(54,_)] ?_
   rcases Bool.eq_false_or_eq_true (beatsP ks (win ks (2*n+1)) (win ks (2*n))) with hb | hb
   ·obtain ⟨e1,e2⟩:=hg.1 hb
    refine AWP.condT rfl (hb) ?_
    iterate 7 refine s1_ ?_
    refine su_ [(0,_),(2,_),(3,_),(5,_),(37,_),(6,_),(7,_),(54,_)] ?_
    iterate 18 refine s1_ ?_
    refine su_ [(0,_),(2,_),(3,_),(5,_),(37,_),(6,_),(7,_),(54,_)] ?_
    simp only [Nat.zero_add,Nat.mul_one,Int.toNat_natCast,icells_set]
    rw [← e1,← e2]
    iterate 6 refine s1_ ?_
    refine ⟨(n-1,vs.set n (win ks n:Int),tr.set n (los ks n:Int)),?_,?_,?_,?_⟩
    all_goals (try dsimp only)
    ·exact ⟨rfl,rfl,rfl,some_int (by omega),trivial⟩
    ·exact less_
    ·exact ⟨by omega,hI.step hn1 hn⟩
    ·omega
   ·obtain ⟨e1,e2⟩:=hg.2 hb
    refine AWP.condF rfl (hb) ?_
    iterate 20 refine s1_ ?_
    refine su_ [(0,_),(2,_),(3,_),(5,_),(37,_),(6,_),(7,_),(54,_)] ?_
    simp only [Nat.zero_add,Nat.mul_one,Int.toNat_natCast,icells_set]
    rw [← e1,← e2]
    iterate 6 refine s1_ ?_
    refine ⟨(n-1,vs.set n (win ks n:Int),tr.set n (los ks n:Int)),?_,?_,?_,?_⟩
    all_goals (try dsimp only)
    ·exact ⟨rfl,rfl,rfl,some_int (by omega),trivial⟩
    ·exact less_
    ·exact ⟨by omega,hI.step hn1 hn⟩
    ·omega
  ·obtain rfl:n=0:=by omega
   iterate 7 refine s1_ ?_
   refine su_ [(0,_),(2,_),(3,_),(5,_),(37,_)] ?_
   refine cF_ ?_
   by_cases hk1:1<ks.length
   ·iterate 11 refine s1_ ?_
    refine su_ [(0,_),(2,_),(3,_),(5,_),(37,_),(70,_)] ?_
    refine cT_ ?_
    have k1:=kn_int (S:=((S.set b16 ⟨3,tr.map (fun x=>Value.int .i64 x),ks.length⟩).set b22 ⟨3,vs.map (fun x=>Value.int .i64 x),2*ks.length⟩).set p ⟨71,[.slice pa ks.length ca,.slice (some ⟨b16,0,none⟩) ks.length ks.length],2⟩) (b:=b22) own_ 1 (hI.win_ 1 (by omega) (by omega))
    refine AWP.draw [(0,true),(1,true),(2,true),(3,true),(4,true),(5,true),(6,true),(7,true),(8,true),(9,false)] [9] mixed (by kernel_rfl) ?_
    iterate 9 refine s1_ ?_
    refine draw_only rfl ?_
    refine s1_ ?_
    refine arun_nil ⟨fun h=>absurd h (by decide),?_⟩
    refine s1_ ?_
    simp only [Nat.zero_add,Nat.mul_one,Int.toNat_zero,icells_set,hI.done hk1]
    refine ⟨_,(S.set b16 ⟨3,(treeOf ks).map (fun x=>Value.int .i64 x),ks.length⟩).set p ⟨71,[.slice pa ks.length ca,.slice (some ⟨b16,0,none⟩) ks.length ks.length],2⟩,rfl,less_,?_⟩
    exact ⟨b16,g16,by assumption,rfl⟩
   ·iterate 11 refine s1_ ?_
    refine su_ [(0,_),(2,_),(3,_),(5,_),(37,_),(70,_)] ?_
    refine cF_ ?_
    rw [hI.done1 (by omega)]
    refine s1_ ?_
    refine ⟨_,(S.set b16 ⟨3,(treeOf ks).map (fun x=>Value.int .i64 x),ks.length⟩).set p ⟨71,[.slice pa ks.length ca,.slice (some ⟨b16,0,none⟩) ks.length ks.length],2⟩,rfl,less_,?_⟩
    exact ⟨b16,g16,by assumption,rfl⟩
theorem losV_Of (hk : Value) (ks : List (List Nat)) (S : Mem) (hks : SlOf RowR S hk ks) (hl1 : 1 ≤ ks.length) (hl2 : ks.length ≤ 256) :
  ACall Tryz.prog 22 #[hk] S fun r S'=>∃ p q,Fresh S p∧Fresh S q∧q≠p∧r = .pointer (some ⟨p,0,none⟩)∧S'=(S.set q (intB (treeOf ks) ks.length)).set p (treeB hk (.slice (some ⟨q,0,none⟩) ks.length ks.length)):=by
 obtain ⟨pa,ca,rfl⟩ : ∃ pa ca,hk = .slice pa ks.length ca:=by
  obtain ⟨hs,hsl,⟨pa,ca,e,_⟩,_⟩:=id hks
  exact ⟨pa,ca,by rw [e,hsl]⟩
 refine ACall.enter (rs:=[.tmp 2]) 11 [(0,.slice pa ks.length ca)] Tryz.func22 rfl rfl (Nat.le_of_ble_eq_true rfl) rfl ⟨rfl,trivial⟩ ?_
 iterate 10 refine s1_ ?_
 refine ARun.boxA (cs:=[_,_]) (lit_lt rfl) rfl ?_
 intro b7 f7
 have g7:=f7
 repeat ((with_reducible replace g7:=fresh_set g7);obtain ⟨g7,_⟩:=g7)
 refine nl_ ?_
 iterate 3 refine s1_ ?_
 refine su_ [(0,_),(2,_),(3,_)] ?_
 iterate 3 refine s1_ ?_
 refine ca_ rfl (losV_grow b7 _ _ ks S g7 hks hl1 hl2) ?_
 rintro _ S1 ⟨q,hq1,hq2,h1⟩
 rw [h1];clear h1 S1
 iterate 2 refine s1_ ?_
 refine su_ [(0,_),(2,_),(3,_)] ?_
 iterate 6 refine s1_ ?_
 refine su_ [(0,_),(2,_),(3,_)] ?_
 refine s1_ ?_
 refine ⟨_,_,⟨_,_,rfl,rfl,rfl⟩,Mem.Less.refl _,?_⟩
 exact ⟨b7,q,g7,hq1,hq2,rfl,rfl⟩
/-! ### Copies, and lists that are held against each other -/
set_option maxHeartbeats 1000000 in
theorem losV_CloneU (l : List Nat) (v : Value) (S : Mem) (hv : RowR S v l) (hl : l.length ≤ 17592186043904) :
  ACall Tryz.prog 26 #[v] S fun r S'=>CloneR (fun n:Nat=>Value.int .u64 (n:Int)) 50 l S r S':=by
 obtain ⟨a,cap,rfl,h1,h2,h3⟩:=id hv
 cases a with
 | none =>
  have hl0:l = []:=h3.resolve_right (by rintro ⟨b,off,h,_⟩;cases h)
  refine ACall.enter (rs:=[.tmp 2]) 8 [(0,.slice none l.length cap)] Tryz.func26 rfl rfl (Nat.le_of_ble_eq_true rfl) rfl ⟨rfl,trivial⟩ ?_
  iterate 9 refine s1_ ?_
  refine rC (Calm.bin rfl rfl (bin_nil_eql Tryz.underlying40)) ?_
  iterate 2 refine s1_ ?_
  refine su_ [(0,_),(2,_),(4,_)] ?_
  refine cT_ ?_
  iterate 7 refine s1_ ?_
  refine ⟨_,S,⟨_,_,rfl,rfl,rfl⟩,less_,?_⟩
  exact .inl ⟨hl0,rfl,_,rfl⟩
 | some a =>
  by_cases hl0:l = []
  ·subst hl0
   refine ACall.enter (rs:=[.tmp 2]) 8 [(0,.slice (some a) 0 cap)] Tryz.func26 rfl rfl (Nat.le_of_ble_eq_true rfl) rfl ⟨rfl,trivial⟩ ?_
   iterate 9 refine s1_ ?_
   refine rC (Calm.bin rfl rfl (bin_nil_eql Tryz.underlying40)) ?_
   iterate 2 refine s1_ ?_
   refine su_ [(0,_),(2,_),(4,_)] ?_
   refine cF_ ?_
   iterate 4 refine s1_ ?_
   refine ARun.build0 (lit_lt rfl) ty_sl_40 ?_
   intro b5 f5
   have g5:=f5
   repeat ((with_reducible replace g5:=fresh_set g5);obtain ⟨g5,_⟩:=g5)
   refine s1_ ?_
   refine ARun.appendNone (lit_lt rfl) ty_sl_40 (Nat.le_refl 0) rfl rfl ?_
   iterate 3 refine s1_ ?_
   refine su_ [(0,_),(2,_),(4,_)] ?_
   refine s1_ ?_
   refine ⟨_,S,⟨_,_,rfl,rfl,rfl⟩,less_,?_⟩
   exact .inl ⟨rfl,rfl,_,rfl⟩
  ·obtain ⟨b,off,hab,hkn⟩:=h3.resolve_left hl0
   cases hab
   have hall:=Sl.all (g:=fun n:Nat=>Value.int .u64 (n:Int)) hv
   refine ACall.enter (rs:=[.tmp 2]) 8 [(0,.slice (some ⟨b,off,none⟩) l.length cap)] Tryz.func26 rfl rfl (Nat.le_of_ble_eq_true rfl) rfl ⟨rfl,trivial⟩ ?_
   iterate 9 refine s1_ ?_
   refine rC (Calm.bin rfl rfl (bin_nil_eql Tryz.underlying40)) ?_
   iterate 2 refine s1_ ?_
   refine su_ [(0,_),(2,_),(4,_)] ?_
   refine cF_ ?_
   iterate 4 refine s1_ ?_
   refine ARun.build0 (lit_lt rfl) ty_sl_40 ?_
   intro b5 f5
   have g5:=f5
   repeat ((with_reducible replace g5:=fresh_set g5);obtain ⟨g5,_⟩:=g5)
   refine s1_ ?_
   refine ARun.append1K (lit_lt rfl) ty_sl_40 rfl own_ rfl rfl (hall.less less_) (by simp) (fun v hv=>by obtain ⟨x,_,rfl⟩:=List.mem_map.1 hv;rfl) (by omega) (by omega) ?_
   intro b7 c7 f7 hc7
   rw [List.nil_append,set_del_same' (del_base g5)] at *
   rw [Nat.zero_add] at *
   iterate 3 refine s1_ ?_
   refine su_ [(0,_),(2,_),(4,_)] ?_
   refine s1_ ?_
   refine ⟨_,_,⟨_,_,rfl,rfl,rfl⟩,Mem.Less.refl _,?_⟩
   exact .inr ⟨b7,c7,f7,hc7,rfl,rfl⟩
end Go.Proofs.YthbadpcmdlfmdaaGreatDoor
namespace Go.Proofs.YthbadpcmdlfmdaaGreatDoor
open Go.RowKit
open Mv Num Loser
set_option maxRecDepth 4000
set_option maxHeartbeats 1000000 in
theorem losV_CloneI (l : List Int) (v : Value) (S : Mem) (hv : Sl 1 i64s S v l) (hl : l.length ≤ 17592186043904) :
  ACall Tryz.prog 27 #[v] S fun r S'=>CloneR (fun x:Int=>Value.int .i64 x) 3 l S r S':=by
 obtain ⟨a,cap,rfl,h1,h2,h3⟩:=id hv
 cases a with
 | none =>
  have hl0:l = []:=h3.resolve_right (by rintro ⟨b,off,h,_⟩;cases h)
  refine ACall.enter (rs:=[.tmp 2]) 8 [(0,.slice none l.length cap)] Tryz.func27 rfl rfl (Nat.le_of_ble_eq_true rfl) rfl ⟨rfl,trivial⟩ ?_
  iterate 9 refine s1_ ?_
  refine rC (Calm.bin rfl rfl (bin_nil_eql Tryz.underlying35)) ?_
  iterate 2 refine s1_ ?_
  refine su_ [(0,_),(2,_),(4,_)] ?_
  refine cT_ ?_
  iterate 7 refine s1_ ?_
  refine ⟨_,S,⟨_,_,rfl,rfl,rfl⟩,less_,?_⟩
  exact .inl ⟨hl0,rfl,_,rfl⟩
 | some a =>
  by_cases hl0:l = []
  ·subst hl0
   refine ACall.enter (rs:=[.tmp 2]) 8 [(0,.slice (some a) 0 cap)] Tryz.func27 rfl rfl (Nat.le_of_ble_eq_true rfl) rfl ⟨rfl,trivial⟩ ?_
   iterate 9 refine s1_ ?_
   refine rC (Calm.bin rfl rfl (bin_nil_eql Tryz.underlying35)) ?_
   iterate 2 refine s1_ ?_
   refine su_ [(0,_),(2,_),(4,_)] ?_
   refine cF_ ?_
   iterate 4 refine s1_ ?_
   refine ARun.build0 (lit_lt rfl) ty_sl_35 ?_
   intro b5 f5
   have g5:=f5
   repeat ((with_reducible replace g5:=fresh_set g5);obtain ⟨g5,_⟩:=g5)
   refine s1_ ?_
   refine ARun.appendNone (lit_lt rfl) ty_sl_35 (Nat.le_refl 0) rfl rfl ?_
   iterate 3 refine s1_ ?_
   refine su_ [(0,_),(2,_),(4,_)] ?_
   refine s1_ ?_
   refine ⟨_,S,⟨_,_,rfl,rfl,rfl⟩,less_,?_⟩
   exact .inl ⟨rfl,rfl,_,rfl⟩
  ·obtain ⟨b,off,hab,hkn⟩:=h3.resolve_left hl0
   cases hab
   have hall:=Sl.all (g:=fun x:Int=>Value.int .i64 x) hv
   refine ACall.enter (rs:=[.tmp 2]) 8 [(0,.slice (some ⟨b,off,none⟩) l.length cap)] Tryz.func27 rfl rfl (Nat.le_of_ble_eq_true rfl) rfl ⟨rfl,trivial⟩ ?_
   iterate 9 refine s1_ ?_
   refine rC (Calm.bin rfl rfl (bin_nil_eql Tryz.underlying35)) ?_
   iterate 2 refine s1_ ?_
   refine su_ [(0,_),(2,_),(4,_)] ?_
   refine cF_ ?_
   iterate 4 refine s1_ ?_
   refine ARun.build0 (lit_lt rfl) ty_sl_35 ?_
   intro b5 f5
   have g5:=f5
   repeat ((with_reducible replace g5:=fresh_set g5);obtain ⟨g5,_⟩:=g5)
   refine s1_ ?_
   refine ARun.append1K (lit_lt rfl) ty_sl_35 rfl own_ rfl rfl (hall.less less_) (by simp) (fun v hv=>by obtain ⟨x,_,rfl⟩:=List.mem_map.1 hv;rfl) (by omega) (by omega) ?_
   intro b7 c7 f7 hc7
   rw [List.nil_append,set_del_same' (del_base g5)] at *
   rw [Nat.zero_add] at *
   iterate 3 refine s1_ ?_
   refine su_ [(0,_),(2,_),(4,_)] ?_
   refine s1_ ?_
   refine ⟨_,_,⟨_,_,rfl,rfl,rfl⟩,Mem.Less.refl _,?_⟩
   exact .inr ⟨b7,c7,f7,hc7,rfl,rfl⟩
set_option maxHeartbeats 1000000 in
theorem losV_EqualI (a b : List Int) (va vb : Value) (S : Mem) (ha : Sl 1 i64s S va a) (hb : Sl 1 i64s S vb b) :
  ACall Tryz.prog 54 #[va,vb] S fun r S'=>r = .bool (decide (a=b))∧S'=S:=by
 obtain ⟨pa,ca,rfl,ha1,ha2,ha3⟩:=ha
 obtain ⟨pb,cb,rfl,hb1,hb2,hb3⟩:=hb
 by_cases hlen:a.length=b.length
 ·have hlen0:=hlen
  refine ACall.enter (rs:=[.tmp 4]) 26 [(0,.slice pa a.length ca),(1,.slice pb b.length cb)] Tryz.func54 rfl rfl (Nat.le_of_ble_eq_true rfl) rfl ⟨rfl,rfl,trivial⟩ ?_
  iterate 15 refine s1_ ?_
  refine su_ [(0,_),(1,_),(4,_),(10,_)] ?_
  refine cF_ ?_
  iterate 10 refine s1_ ?_
  refine su_ [(0,_),(1,_),(4,_),(10,_),(12,_),(13,_)] ?_
  refine s1_ ?_
  refine AWP.loop (X:=Nat) (fun x=>[(0,.slice pa a.length ca),(1,.slice pb b.length cb),(12,.int .i64 a.length),(13,.int .i64 x)]) (fun x=>S) (fun x=>x≤a.length ∧ ∀ j (hj:j<a.length) (hj2:j<b.length),j<x→a[j]=b[j]) (fun x=>a.length-x) (0) ⟨rfl,rfl,rfl,rfl,trivial⟩ (Mem.Less.refl _) (⟨Nat.zero_le _,fun _ _ _ h=>absurd h (Nat.not_lt_zero _)⟩) ?_
  rintro i ⟨hi1,hq⟩
  (try dsimp only at *)
  iterate 6 refine s1_ ?_
  refine AWP.condB rfl (fun hl=>?_) (fun hl=>?_)
  ·have hl:i<a.length:=by have:=of_decide_eq_true hl;omega
   have hlb:i<b.length:=by omega
   obtain ⟨b0,off,rfl,hkn⟩:=ha3.resolve_left (by intro h;rw [h] at hl;exact absurd hl (Nat.not_lt_zero _))
   obtain ⟨b1,off1,rfl,hkn1⟩:=hb3.resolve_left (by intro h;rw [h] at hlb;exact absurd hlb (Nat.not_lt_zero _))
   have hkk:=hkn i hl
   have hkk1:=hkn1 i hlb
   by_cases c1:a[i]=b[i]
   ·iterate 10 refine s1_ ?_
    refine su_ [(0,_),(1,_),(12,_),(13,_),(14,_),(5,_)] ?_
    refine s1_ ?_
    refine AWP.draw [(0,true),(1,true),(2,true),(3,true),(4,true),(5,true),(6,true),(7,true),(8,true)] [] mixed (by kernel_rfl) ?_
    iterate 11 refine s1_ ?_
    refine su_ [(0,_),(1,_),(12,_),(13,_),(14,_),(5,_),(24,_)] ?_
    refine cF_ ?_
    iterate 8 refine s1_ ?_
    refine ⟨i+1,?_,?_,?_,?_⟩
    all_goals (try dsimp only)
    ·exact ⟨rfl,rfl,rfl,rfl,trivial⟩
    ·exact Mem.Less.refl _
    ·exact ⟨hl,fun j hj hj2 hji=>by rcases Nat.lt_or_ge j i with h | h;exact hq j hj hj2 h;obtain rfl:j=i:=(by omega);exact c1⟩
    ·omega
   ·iterate 10 refine s1_ ?_
    refine su_ [(0,_),(1,_),(12,_),(13,_),(14,_),(5,_)] ?_
    refine s1_ ?_
    refine AWP.draw [(0,true),(1,true),(2,true),(3,true),(4,true),(5,true),(6,true),(7,true),(8,true)] [] mixed (by kernel_rfl) ?_
    iterate 11 refine s1_ ?_
    refine su_ [(0,_),(1,_),(12,_),(13,_),(14,_),(5,_),(24,_)] ?_
    refine cT_ ?_
    iterate 11 refine s1_ ?_
    refine ⟨_,S,⟨_,_,rfl,rfl,rfl⟩,less_,?_⟩
    exact ⟨by rw [decide_eq_false (fun e=>c1 (by subst e;rfl))];rfl,rfl⟩
  ·have hl:i=a.length:=by have:=of_decide_eq_false hl;omega
   iterate 11 refine s1_ ?_
   refine ⟨_,S,⟨_,_,rfl,rfl,rfl⟩,less_,?_⟩
   exact ⟨by rw [decide_eq_true (List.ext_getElem hlen fun j h1 h2=>hq j h1 h2 (by omega))];rfl,rfl⟩
 ·have hlen0:=hlen
  refine ACall.enter (rs:=[.tmp 4]) 26 [(0,.slice pa a.length ca),(1,.slice pb b.length cb)] Tryz.func54 rfl rfl (Nat.le_of_ble_eq_true rfl) rfl ⟨rfl,rfl,trivial⟩ ?_
  iterate 15 refine s1_ ?_
  refine su_ [(0,_),(1,_),(4,_),(10,_)] ?_
  refine cT_ ?_
  iterate 7 refine s1_ ?_
  refine ⟨_,S,⟨_,_,rfl,rfl,rfl⟩,less_,?_⟩
  exact ⟨by rw [decide_eq_false (fun e=>hlen (by rw [e]))];rfl,rfl⟩
/-- A copy beside a block of one's own. -/
theorem clone_step {α : Type} {g : α → Value} {e : TypeId} {l : List α} {M S' : Mem} {b : Nat} {r : Blk} {v : Value} (h : CloneR g e l (M.set b r) v S') (hf : Fresh M b) (hl : l.length ≤ 9223372036854775807) :
  ∃ M1 a c,M.Less M1∧Fresh M1 b∧S'=M1.set b r∧v = .slice a l.length c∧Sl 1 (fun x=>[g x]) M1 v l:=by
 rcases h with ⟨rfl,rfl,a,rfl⟩ | ⟨b',c,hf',hc,rfl,rfl⟩
 ·exact ⟨M,a,0,Mem.Less.refl _,hf,rfl,rfl,a,0,rfl,Nat.le_refl _,by simp,.inl rfl⟩
 ·obtain ⟨h1,h2⟩:=fresh_set hf'
  exact ⟨M.set b' ⟨e,l.map g,c⟩,_,c,Mem.less_set _ _ _ h1.1,fresh_more hf (Ne.symm h2),Mem.set_comm _ _ _ (Ne.symm h2),rfl,Sl.own1 (r:=⟨e,l.map g,c⟩) (Mem.own_set_same _ _ _) List.prefix_rfl rfl hc hl⟩
theorem pad_set (hs : List Value) (k i : Nat) (z v : Value) (hi : hs.length = i) (h : i < k) : (hs ++ List.replicate (k - i) z).set i v = (hs ++ [v]) ++ List.replicate (k - (i + 1)) z := by
 obtain ⟨m,hm⟩ : ∃ m,k-i=m+1:=⟨k-i-1,by omega⟩
 rw [hm,List.set_append_right _ _ (by omega),hi,Nat.sub_self,List.replicate_succ,List.set_cons_zero,List.append_assoc,show k-(i+1)=m from by omega]
 rfl
/-- Keys that are a tree's own. -/
def OwnK (ks : List (List Nat)) (S M : Mem) (b : Nat) (hs : List Value) : Prop := S.Less M ∧ Fresh M b ∧ hs.length = ks.length ∧ ∀ i (h : i < ks.length) (h' : i < hs.length), RowR M hs[i] ks[i]
def keysB (hs : List Value) : Blk := ⟨40, hs, hs.length⟩
theorem OwnK.slOf {ks : List (List Nat)} {S M : Mem} {b : Nat} {hs : List Value} (h : OwnK ks S M b hs) (hk : ks.length ≤ 256) : SlOf RowR (M.set b (keysB hs)) (.slice (some ⟨b, 0, none⟩) ks.length ks.length) ks := by
 obtain ⟨h1,h2,h3,h4⟩:=h
 have:=Sl.own1 (g:=fun x:Value=>x) (S:=M.set b (keysB hs)) (b:=b) (l:=hs) (cap:=ks.length) (len:=ks.length) (Mem.own_set_same _ _ _) (by simp [keysB]) h3 (Nat.le_refl _) (by omega)
 exact ⟨hs,h3,this,fun i h h'=>rowR_less _ _ _ _ (h4 i h h') (Mem.less_set _ _ _ h2.1)⟩
set_option maxHeartbeats 2000000 in
theorem losV_own (v : Value) (ks : List (List Nat)) (S : Mem) (hks : SlOf RowR S v ks) (hk : ks.length ≤ 256) (hrow : ∀ x ∈ ks, x.length ≤ 17592186043904) :
  ACall Tryz.prog 23 #[v] S fun r S'=>∃ M b hs,OwnK ks S M b hs∧r = .slice (some ⟨b,0,none⟩) ks.length ks.length∧S'=M.set b (keysB hs):=by
 obtain ⟨gs,hgl,⟨pa,ca,rfl,h1,h2,h3⟩,hge⟩:=hks
 unfold OwnK keysB
 rw [← hgl] at hk
 refine ACall.enter (rs:=[.tmp 2]) 23 [(0,.slice pa gs.length ca)] Tryz.func23 rfl rfl (Nat.le_of_ble_eq_true rfl) rfl ⟨rfl,trivial⟩ ?_
 iterate 9 refine s1_ ?_
 refine ARun.makeSlice (lit_lt rfl) ty_sl_22 rfl rfl (by omega) (by omega) (by omega) (by omega) ?_
 intro b8 f8
 have g8:=f8
 repeat ((with_reducible replace g8:=fresh_set g8);obtain ⟨g8,_⟩:=g8)
 iterate 3 refine s1_ ?_
 refine su_ [(0,_),(2,_),(3,_)] ?_
 simp only [Nat.mul_one,madeL_one,Int.toNat_natCast]
 iterate 9 refine s1_ ?_
 refine AWP.loop (X:=Nat × Mem × List Value) (fun x=>[(3,.slice (some ⟨b8,0,none⟩) gs.length gs.length),(9,.slice pa gs.length ca),(10,.int .i64 gs.length),(11,.int .i64 x.1)]) (fun x=>x.2.1.set b8 ⟨40,x.2.2 ++ List.replicate (gs.length-x.1) (.slice none 0 0),gs.length⟩) (fun x=>x.1≤gs.length∧S.Less x.2.1∧Fresh x.2.1 b8∧x.2.2.length=x.1 ∧ ∀ i (h:i<ks.length) (h':i<x.2.2.length),RowR x.2.1 x.2.2[i] ks[i]) (fun x=>gs.length-x.1) ((0,S,[])) ⟨rfl,rfl,rfl,rfl,trivial⟩ (Mem.Less.refl _) (⟨Nat.zero_le _,Mem.Less.refl _,g8,rfl,fun i h h'=>by cases h'⟩) ?_
 rintro ⟨i,M,hs⟩ ⟨hi,hM,hfM,hhl,hr⟩
 (try dsimp only at *)
 iterate 6 refine s1_ ?_
 refine AWP.condB rfl (fun hil=>?_) (fun hil=>?_)
 ·have hil:i<gs.length:=by have:=of_decide_eq_true hil;omega
  obtain ⟨b0,off,rfl,hkn⟩:=h3.resolve_left (by intro h;rw [h] at hil;exact absurd hil (Nat.not_lt_zero _))
  have hik:i<ks.length:=by omega
  have hlM:=hM.trans (Mem.less_set M b8 ⟨40,hs ++ List.replicate (gs.length-i) (.slice none 0 0),gs.length⟩ hfM.1)
  have hkk:=(hkn i hil).less hlM
  have hrw:=rowR_less _ _ _ _ (hge i hik hil) hlM
  have hrl:=hrow ks[i] (List.getElem_mem _)
  have hpl:(hs ++ List.replicate (gs.length-i) (Value.slice none 0 0)).length=gs.length:=by simp;omega
  iterate 13 refine s1_ ?_
  refine su_ [(3,_),(9,_),(10,_),(11,_),(12,_),(4,_),(5,_)] ?_
  iterate 4 refine s1_ ?_
  refine ca_ rfl (losV_CloneU ks[i] gs[i] _ hrw hrl) ?_
  rintro vc S1 hcl
  obtain ⟨M1,ac,cc,q1,q2,rfl,rfl,q5⟩:=clone_step hcl hfM (by omega);clear hcl
  iterate 5 refine s1_ ?_
  refine su_ [(3,_),(9,_),(10,_),(11,_),(12,_),(4,_),(5,_)] ?_
  simp only [Nat.zero_add,Nat.mul_one,Int.toNat_natCast,pad_set hs gs.length i _ _ hhl hil]
  iterate 5 refine s1_ ?_
  refine ⟨(i+1,M1,hs ++ [.slice ac ks[i].length cc]),?_,?_,?_,?_⟩
  all_goals (try dsimp only)
  ·exact ⟨rfl,rfl,rfl,rfl,trivial⟩
  ·exact Mem.Less.refl _
  ·exact ⟨hil,hM.trans q1,q2,by simp [hhl],fun j hj hj'=>by by_cases e:j<hs.length;(rw [List.getElem_append_left e];exact rowR_less _ _ _ _ (hr j hj e) q1);(obtain rfl:j=hs.length:=(by simp at hj';omega);subst hhl;rw [List.getElem_append_right (Nat.le_refl _)];simp only [Nat.sub_self,List.getElem_cons_zero];exact q5)⟩
  ·omega
 ·have hil:i=gs.length:=by have:=of_decide_eq_false hil;omega
  rw [hil,Nat.sub_self,List.replicate_zero,List.append_nil]
  have hhg:gs.length=hs.length:=by omega
  iterate 11 refine s1_ ?_
  refine su_ [(3,_),(9,_),(10,_),(11,_),(12,_),(2,_)] ?_
  refine s1_ ?_
  refine ⟨_,_,⟨_,_,rfl,rfl,rfl⟩,Mem.Less.refl _,?_⟩
  exact ⟨M,b8,hs,⟨hM,hfM,by omega,hr⟩,by rw [← hgl];rfl,by rw [hhg]⟩
/-! ### Plain answers -/
namespace Loser
noncomputable def chkP (ks : List (List Nat)) (tr : List Int) : Int := if 1 ≤ ks.length ∧ ks.length ≤ 256 ∧ tr = treeOf ks then 0 else 2
noncomputable def topP (ks : List (List Nat)) (tr : List Int) : Int × List Nat × Int := if chkP ks tr ≠ 0 then (0, [], 2) else if key ks (win ks 1) = [] then (0, [], 3) else ((win ks 1 : Int), key ks (win ks 1), 0)
noncomputable def putP (ks : List (List Nat)) (tr : List Int) (x : List Nat) : List (List Nat) × List Int × Int := if chkP ks tr ≠ 0 then ([], [], 2) else if key ks (win ks 1) = [] then (ks, tr, 3) else if x ≠ [] ∧ lessB x (key ks (win ks 1)) = true then (ks, tr, 12) else (ks.set (win ks 1) x, treeOf (ks.set (win ks 1) x), 0)
def makeP (ks : List (List Nat)) : List (List Nat) × List Int × Int := if 1 ≤ ks.length ∧ ks.length ≤ 256 then (ks, treeOf ks, 0) else ([], [], 1)
theorem chk_two {ks : List (List Nat)} {tr : List Int} (h : ¬ (1 ≤ ks.length ∧ ks.length ≤ 256 ∧ tr = treeOf ks)) : chkP ks tr = 2 := by unfold chkP; rw [if_neg h]
theorem chk_ok {ks : List (List Nat)} {tr : List Int} (h : 1 ≤ ks.length ∧ ks.length ≤ 256 ∧ tr = treeOf ks) : chkP ks tr = 0 := by unfold chkP; rw [if_pos h]
theorem chk_or (ks : List (List Nat)) (tr : List Int) : (chkP ks tr = 0 ∧ 1 ≤ ks.length ∧ ks.length ≤ 256 ∧ tr = treeOf ks) ∨ chkP ks tr = 2 := by
 by_cases h:1≤ks.length∧ks.length≤256∧tr=treeOf ks
 ·exact .inl ⟨chk_ok h,h⟩
 ·exact .inr (chk_two h)
end Loser
/-- A tree that is known. -/
def LoV (S : Mem) (hk ht : Value) (ks : List (List Nat)) (tr : List Int) : Prop := SlOf RowR S hk ks ∧ Sl 1 i64s S ht tr
theorem LoV.less {S S' : Mem} {hk ht : Value} {ks : List (List Nat)} {tr : List Int} (h : LoV S hk ht ks tr) (hl : S.Less S') : LoV S' hk ht ks tr := ⟨h.1.less rowR_less hl, h.2.less hl⟩
theorem sl_intB {S : Mem} {q : Nat} {l : List Int} {c len : Nat} (h : S.own q = some (intB l c)) (hl : l.length = len) (hc : len ≤ c) (hm : len ≤ 9223372036854775807) : Sl 1 i64s S (.slice (some ⟨q, 0, none⟩) len c) l :=
 Sl.own1 (g:=fun x:Int=>Value.int .i64 x) h List.prefix_rfl hl hc hm
set_option maxHeartbeats 2000000 in
theorem losV_Check (hk ht : Value) (ks : List (List Nat)) (tr : List Int) (S : Mem) (hl : LoV S hk ht ks tr) :
  ACall Tryz.prog 24 #[.agg #[hk,ht]] S fun r S'=>r = .int .i64 (chkP ks tr)∧S'=S:=by
 obtain ⟨hks,hts⟩:=hl
 obtain ⟨pt,ct,rfl,t1,t2,_⟩:=id hts
 obtain ⟨gs,hgl,⟨pa,ca,rfl,h1,h2,h3⟩,hge⟩:=id hks
 by_cases c1:gs.length<1
 ·rw [chk_two (by omega)]
  refine ACall.enter (rs:=[.tmp 2]) 33 [(0,.agg #[.slice pa gs.length ca,.slice pt tr.length ct])] Tryz.func24 rfl rfl (Nat.le_of_ble_eq_true rfl) rfl ⟨rfl,trivial⟩ ?_
  iterate 2 refine s1_ ?_
  refine ARun.boxA (cs:=[_,_]) (lit_lt rfl) rfl ?_
  intro b1 f1
  have g1:=f1
  repeat ((with_reducible replace g1:=fresh_set g1);obtain ⟨g1,_⟩:=g1)
  refine nl_ ?_
  iterate 11 refine s1_ ?_
  refine su_ [(0,_),(1,_),(2,_),(3,_)] ?_
  iterate 2 refine s1_ ?_
  refine AWP.draw [(0,true),(1,true),(2,true),(3,true),(4,true),(5,true),(6,true),(7,true),(8,true),(9,true),(10,true),(11,true),(12,true),(13,true),(14,true),(15,true),(21,true),(22,true),(16,false),(17,true),(18,true),(19,true),(20,true),(23,false),(24,true),(25,true)] [] mixed (by kernel_rfl) ?_
  iterate 18 refine s1_ ?_
  refine draw_only rfl ?_
  refine s1_ ?_
  refine arun_nil ⟨fun _=>less_,?_⟩
  iterate 4 refine s1_ ?_
  refine draw_only rfl ?_
  refine s1_ ?_
  refine arun_nil ⟨fun _=>less_,?_⟩
  iterate 4 refine s1_ ?_
  refine su_ [(0,_),(1,_),(2,_),(3,_),(32,_)] ?_
  refine cT_ ?_
  iterate 7 refine s1_ ?_
  refine ⟨_,S,⟨_,_,rfl,rfl,rfl⟩,less_,?_⟩
  exact ⟨rfl,rfl⟩
 by_cases c2:256<gs.length
 ·rw [chk_two (by omega)]
  refine ACall.enter (rs:=[.tmp 2]) 33 [(0,.agg #[.slice pa gs.length ca,.slice pt tr.length ct])] Tryz.func24 rfl rfl (Nat.le_of_ble_eq_true rfl) rfl ⟨rfl,trivial⟩ ?_
  iterate 2 refine s1_ ?_
  refine ARun.boxA (cs:=[_,_]) (lit_lt rfl) rfl ?_
  intro b1 f1
  have g1:=f1
  repeat ((with_reducible replace g1:=fresh_set g1);obtain ⟨g1,_⟩:=g1)
  refine nl_ ?_
  iterate 11 refine s1_ ?_
  refine su_ [(0,_),(1,_),(2,_),(3,_)] ?_
  iterate 2 refine s1_ ?_
  refine AWP.draw [(0,true),(1,true),(2,true),(3,true),(4,true),(5,true),(6,true),(7,true),(8,true),(9,true),(10,true),(11,true),(12,true),(13,true),(14,true),(15,true),(21,true),(22,true),(16,false),(17,true),(18,true),(19,true),(20,true),(23,false),(24,true),(25,true)] [] mixed (by kernel_rfl) ?_
  iterate 18 refine s1_ ?_
  refine draw_only rfl ?_
  refine s1_ ?_
  refine arun_nil ⟨fun _=>less_,?_⟩
  iterate 4 refine s1_ ?_
  refine draw_only rfl ?_
  refine s1_ ?_
  refine arun_nil ⟨fun _=>less_,?_⟩
  iterate 4 refine s1_ ?_
  refine su_ [(0,_),(1,_),(2,_),(3,_),(32,_)] ?_
  refine cT_ ?_
  iterate 7 refine s1_ ?_
  refine ⟨_,S,⟨_,_,rfl,rfl,rfl⟩,less_,?_⟩
  exact ⟨rfl,rfl⟩
 by_cases c3:tr.length=gs.length
 ·have hof:=losV_Of (.slice pa gs.length ca) ks
  have hcd:chkP ks tr=if treeOf ks=tr then 0 else 2:=by
   unfold chkP
   by_cases e:treeOf ks=tr
   ·rw [if_pos ⟨by omega,by omega,e.symm⟩,if_pos e]
   ·rw [if_neg (fun h=>e h.2.2.symm),if_neg e]
  have htl:=treeOf_length ks
  rw [hcd]
  refine ACall.enter (rs:=[.tmp 2]) 33 [(0,.agg #[.slice pa gs.length ca,.slice pt tr.length ct])] Tryz.func24 rfl rfl (Nat.le_of_ble_eq_true rfl) rfl ⟨rfl,trivial⟩ ?_
  iterate 2 refine s1_ ?_
  refine ARun.boxA (cs:=[_,_]) (lit_lt rfl) rfl ?_
  intro b1 f1
  have g1:=f1
  repeat ((with_reducible replace g1:=fresh_set g1);obtain ⟨g1,_⟩:=g1)
  refine nl_ ?_
  iterate 11 refine s1_ ?_
  refine su_ [(0,_),(1,_),(2,_),(3,_)] ?_
  iterate 2 refine s1_ ?_
  refine AWP.draw [(0,true),(1,true),(2,true),(3,true),(4,true),(5,true),(6,true),(7,true),(8,true),(9,true),(10,true),(11,true),(12,true),(13,true),(14,true),(15,true),(21,true),(22,true),(16,false),(17,true),(18,true),(19,true),(20,false),(23,false),(24,true),(25,true)] [] mixed (by kernel_rfl) ?_
  iterate 18 refine s1_ ?_
  refine draw_only rfl ?_
  refine ARun.callG 13 false 20 rfl (lit_lt rfl) rfl (lit_lt rfl) go_22 rfl (hof _ (hks.less rowR_less less_) (by omega) (by omega)) ?_
  rintro _ S1 ⟨p,q,hp,hq,hqp,rfl,h1⟩
  rw [h1];clear h1 S1;unfold treeB
  have gp:=(fresh_set hp).1
  have gq:=(fresh_set hq).1
  refine arun_nil ⟨fun _=>less_,?_⟩
  iterate 3 refine s1_ ?_
  refine draw_only rfl ?_
  refine s1_ ?_
  refine arun_nil ⟨fun _=>less_,?_⟩
  refine draw_only rfl ?_
  refine ARun.callG 13 false 20 rfl (lit_lt rfl) rfl (lit_lt rfl) go_54 rfl (losV_EqualI (treeOf ks) tr _ _ _ (sl_intB own_ htl (Nat.le_refl _) (by omega)) (hts.less less_)) ?_
  rintro _ S1 ⟨rfl,h1⟩
  rw [h1];clear h1 S1
  refine arun_nil ⟨fun _=>less_,?_⟩
  iterate 4 refine s1_ ?_
  refine su_ [(0,_),(1,_),(2,_),(3,_),(32,_)] ?_
  by_cases e:treeOf ks=tr
  ·refine AWP.condF rfl ((by rw [decide_eq_true e];rfl)) ?_
   iterate 8 refine s1_ ?_
   refine ⟨_,S,⟨_,_,rfl,rfl,rfl⟩,less_,?_⟩
   exact ⟨by rw [if_pos e];rfl,rfl⟩
  ·refine AWP.condT rfl ((by rw [decide_eq_false e];rfl)) ?_
   iterate 7 refine s1_ ?_
   refine ⟨_,S,⟨_,_,rfl,rfl,rfl⟩,less_,?_⟩
   exact ⟨by rw [if_neg e];rfl,rfl⟩
 ·rw [chk_two (by rintro ⟨_,_,e⟩;rw [e,treeOf_length] at c3;omega)]
  refine ACall.enter (rs:=[.tmp 2]) 33 [(0,.agg #[.slice pa gs.length ca,.slice pt tr.length ct])] Tryz.func24 rfl rfl (Nat.le_of_ble_eq_true rfl) rfl ⟨rfl,trivial⟩ ?_
  iterate 2 refine s1_ ?_
  refine ARun.boxA (cs:=[_,_]) (lit_lt rfl) rfl ?_
  intro b1 f1
  have g1:=f1
  repeat ((with_reducible replace g1:=fresh_set g1);obtain ⟨g1,_⟩:=g1)
  refine nl_ ?_
  iterate 11 refine s1_ ?_
  refine su_ [(0,_),(1,_),(2,_),(3,_)] ?_
  iterate 2 refine s1_ ?_
  refine AWP.draw [(0,true),(1,true),(2,true),(3,true),(4,true),(5,true),(6,true),(7,true),(8,true),(9,true),(10,true),(11,true),(12,true),(13,true),(14,true),(15,true),(21,true),(22,true),(16,false),(17,true),(18,true),(19,true),(20,true),(23,false),(24,true),(25,true)] [] mixed (by kernel_rfl) ?_
  iterate 18 refine s1_ ?_
  refine draw_only rfl ?_
  refine s1_ ?_
  refine arun_nil ⟨fun _=>less_,?_⟩
  iterate 4 refine s1_ ?_
  refine draw_only rfl ?_
  refine s1_ ?_
  refine arun_nil ⟨fun _=>less_,?_⟩
  iterate 4 refine s1_ ?_
  refine su_ [(0,_),(1,_),(2,_),(3,_),(32,_)] ?_
  refine cT_ ?_
  iterate 7 refine s1_ ?_
  refine ⟨_,S,⟨_,_,rfl,rfl,rfl⟩,less_,?_⟩
  exact ⟨rfl,rfl⟩
end Go.Proofs.YthbadpcmdlfmdaaGreatDoor
namespace Go.Proofs.YthbadpcmdlfmdaaGreatDoor
open Go.RowKit
open Mv Num Loser
set_option maxRecDepth 4000
/-- A tree, and why, that is returned. -/
def LosR (p : List (List Nat) × List Int × Int) (S : Mem) (r : Value) (S' : Mem) : Prop := ∃ hk ht, r = .tuple #[.agg #[hk, ht], .int .i64 p.2.2] ∧ S.Less S' ∧ LoV S' hk ht p.1 p.2.1
theorem loV_nil (S : Mem) : LoV S (.slice none 0 0) (.slice none 0 0) [] [] := ⟨SlOf.nil _ _, Sl.nil _ _ _⟩
set_option maxHeartbeats 2000000 in
theorem losV_Make (v : Value) (ks : List (List Nat)) (S : Mem) (hks : SlOf RowR S v ks) (hrow : ∀ x ∈ ks, x.length ≤ 17592186043904) :
  ACall Tryz.prog 9 #[v] S (LosR (makeP ks) S):=by
 obtain ⟨gs,hgl,⟨pa,ca,rfl,h1,h2,h3⟩,hge⟩:=id hks
 unfold makeP
 by_cases c1:gs.length<1
 ·rw [if_neg (by omega)]
  refine ACall.enter (rs:=[.cell 2 37,.tmp 3]) 19 [(0,.slice pa gs.length ca)] Tryz.func9 rfl rfl (Nat.le_of_ble_eq_true rfl) rfl ⟨rfl,trivial⟩ ?_
  iterate 2 refine s1_ ?_
  refine ARun.alloc (lit_lt rfl) ty_zero_37 ?_
  intro b2 f2
  have g2:=f2
  repeat ((with_reducible replace g2:=fresh_set g2);obtain ⟨g2,_⟩:=g2)
  refine nl_ ?_
  iterate 16 refine s1_ ?_
  refine su_ [(0,_),(2,_),(3,_),(11,_)] ?_
  refine cT_ ?_
  iterate 7 refine s1_ ?_
  refine su_ [(0,_),(2,_),(3,_),(11,_)] ?_
  iterate 2 refine s1_ ?_
  refine ⟨_,S,⟨_,_,_,rfl,.inr ⟨ty_agg_37,[_,_],ty_size_37,rds_,rfl⟩,⟨_,_,rfl,rfl,rfl⟩,rfl⟩,less_,?_⟩
  exact ⟨_,_,rfl,Mem.Less.refl _,loV_nil _⟩
 by_cases c2:256<gs.length
 ·rw [if_neg (by omega)]
  refine ACall.enter (rs:=[.cell 2 37,.tmp 3]) 19 [(0,.slice pa gs.length ca)] Tryz.func9 rfl rfl (Nat.le_of_ble_eq_true rfl) rfl ⟨rfl,trivial⟩ ?_
  iterate 2 refine s1_ ?_
  refine ARun.alloc (lit_lt rfl) ty_zero_37 ?_
  intro b2 f2
  have g2:=f2
  repeat ((with_reducible replace g2:=fresh_set g2);obtain ⟨g2,_⟩:=g2)
  refine nl_ ?_
  iterate 16 refine s1_ ?_
  refine su_ [(0,_),(2,_),(3,_),(11,_)] ?_
  refine cT_ ?_
  iterate 7 refine s1_ ?_
  refine su_ [(0,_),(2,_),(3,_),(11,_)] ?_
  iterate 2 refine s1_ ?_
  refine ⟨_,S,⟨_,_,_,rfl,.inr ⟨ty_agg_37,[_,_],ty_size_37,rds_,rfl⟩,⟨_,_,rfl,rfl,rfl⟩,rfl⟩,less_,?_⟩
  exact ⟨_,_,rfl,Mem.Less.refl _,loV_nil _⟩
 rw [if_pos (by omega)]
 have hown:=losV_own _ ks S hks (by omega) hrow
 refine ACall.enter (rs:=[.cell 2 37,.tmp 3]) 19 [(0,.slice pa gs.length ca)] Tryz.func9 rfl rfl (Nat.le_of_ble_eq_true rfl) rfl ⟨rfl,trivial⟩ ?_
 iterate 2 refine s1_ ?_
 refine ARun.alloc (lit_lt rfl) ty_zero_37 ?_
 intro b2 f2
 have g2:=f2
 repeat ((with_reducible replace g2:=fresh_set g2);obtain ⟨g2,_⟩:=g2)
 refine nl_ ?_
 iterate 16 refine s1_ ?_
 refine su_ [(0,_),(2,_),(3,_),(11,_)] ?_
 refine cF_ ?_
 iterate 5 refine s1_ ?_
 refine ca_ rfl (hown.frame g2) ?_
 rintro _ S1 ⟨S1',⟨M,b,hs,hO,rfl,rfl⟩,f2',rfl⟩
 have hO':=hO.slOf (by omega)
 refine ca_ rfl ((losV_Of _ ks _ hO' (by omega) (by omega)).frame f2') ?_
 rintro _ S2 ⟨S2',⟨p,q,hp,hq,hqp,rfl,rfl⟩,f2'',rfl⟩
 unfold treeB at *
 have npb:=f2''
 have hpn:p≠b2:=fun e=>by subst e;have:=f2''.1;rw [Mem.own_set_same] at this;cases this
 have hqn:q≠b2:=fun e=>by subst e;have:=f2''.1;rw [Mem.own_set_other _ _ hqp,Mem.own_set_same] at this;cases this
 have hlq:(M.set b (keysB hs)).Less (((M.set b (keysB hs)).set q (intB (treeOf ks) ks.length)).set p ⟨71,[.slice (some ⟨b,0,none⟩) ks.length ks.length,.slice (some ⟨q,0,none⟩) ks.length ks.length],2⟩):=less_
 iterate 7 refine s1_ ?_
 refine su_ [(0,_),(2,_),(3,_),(11,_)] ?_
 refine s1_ ?_
 refine ⟨_,_,⟨_,_,_,rfl,.inr ⟨ty_agg_37,[_,_],ty_size_37,rds_,rfl⟩,⟨_,_,rfl,rfl,rfl⟩,rfl⟩,Mem.less_set _ _ _ f2''.1,?_⟩
 exact ⟨_,_,rfl,hO.1.trans ((Mem.less_set _ _ _ hO.2.1.1).trans hlq),hO'.less rowR_less hlq,sl_intB own_ (treeOf_length ks) (Nat.le_refl _) (by omega)⟩
theorem treeOf_0 (ks : List (List Nat)) (h : 0 < (treeOf ks).length) : (treeOf ks)[0] = (win ks 1 : Int) := by
 have h1:=treeOf_zero ks (by rw [treeOf_length] at h;omega)
 rw [List.getElem?_eq_getElem h] at h1
 exact Option.some.inj h1
set_option maxHeartbeats 1000000 in
theorem losV_Win (p : Nat) (hk ht : Value) (ks : List (List Nat)) (S : Mem) (hp : S.own p = some (treeB hk ht)) (hl : LoV S hk ht ks (treeOf ks)) (h1 : 1 ≤ ks.length) :
  ACall Tryz.prog 25 #[.pointer (some ⟨p,0,none⟩)] S fun r S'=>r = .tuple #[.int .i64 (win ks 1:Nat),.bool (decide (key ks (win ks 1) ≠ []))]∧S'=S:=by
 unfold treeB at hp
 have hw:=win_lt (ks:=ks) (n:=1) (by decide) (by omega)
 have htl:=treeOf_length ks
 obtain ⟨hks,hts⟩:=hl
 obtain ⟨gs,hgl,hga,hge⟩:=hks
 obtain ⟨pa,ca,rfl,a1,a2,a3⟩:=id hga
 obtain ⟨pt,ct,rfl,t1,t2,t3⟩:=id hts
 obtain ⟨b0,off,rfl,_⟩:=a3.resolve_left (by intro h;rw [h] at hgl;simp at hgl;omega)
 obtain ⟨bt,offt,rfl,_⟩:=t3.resolve_left (by intro h;rw [h] at htl;simp at htl;omega)
 have k0:=hts.at1 0 (by omega)
 rw [treeOf_0 ks (by omega)] at k0
 unfold i64s at k0
 have k1:=hga.at1 (win ks 1) (by omega)
 have hr:=hge (win ks 1) hw (by omega)
 rw [← key_get ks _ hw] at hr
 obtain ⟨g,hg⟩ : ∃ g,g=gs[win ks 1]:=⟨_,rfl⟩
 rw [← hg] at k1 hr
 obtain ⟨qa,da,rfl,x1,x2,_⟩:=hr
 have hd:decide ((0:Int)<((key ks (win ks 1)).length:Int))=decide (key ks (win ks 1) ≠ []):=by
  rw [Bool.eq_iff_iff];simp only [decide_eq_true_eq,ne_eq,← List.length_eq_zero_iff];omega
 refine ACall.enter (rs:=[.tmp 2,.tmp 3]) 23 [(0,.pointer (some ⟨p,0,none⟩))] Tryz.func25 rfl rfl (Nat.le_of_ble_eq_true rfl) rfl ⟨rfl,trivial⟩ ?_
 iterate 18 refine s1_ ?_
 refine su_ [(0,_),(2,_),(3,_),(4,_)] ?_
 refine s1_ ?_
 refine AWP.draw [(0,true),(1,true),(2,true),(3,true),(4,true),(5,true),(6,true),(7,true),(8,true),(9,true),(10,true),(11,true),(12,true)] [] mixed (by kernel_rfl) ?_
 iterate 10 refine s1_ ?_
 refine dP (hc:=fun _=>Calm.bin rfl rfl (bin_bool (bin_gtr _ _) hd)) (h:=?_)
 iterate 4 refine s1_ ?_
 refine su_ [(0,_),(2,_),(3,_),(4,_)] ?_
 refine s1_ ?_
 refine ⟨_,S,⟨_,_,rfl,⟨_,_,rfl,rfl,rfl⟩,rfl⟩,less_,?_⟩
 exact ⟨rfl,rfl⟩
def TopR (p : Int × List Nat × Int) (S : Mem) (r : Value) (S' : Mem) : Prop := ∃ v, r = .tuple #[.int .i64 p.1, v, .int .i64 p.2.2] ∧ S.Less S' ∧ RowR S' v p.2.1
set_option maxHeartbeats 1000000 in
theorem losV_Top (hk ht : Value) (ks : List (List Nat)) (tr : List Int) (S : Mem) (hl : LoV S hk ht ks tr) (hrow : ∀ x ∈ ks, x.length ≤ 17592186043904) :
  ACall Tryz.prog 10 #[.agg #[hk,ht]] S (TopR (topP ks tr) S):=by
 unfold topP
 rcases chk_or ks tr with ⟨hc,hc1,hc2,rfl⟩ | hc
 ·rw [if_neg (by rw [hc];simp)]
  have hw:=win_lt (ks:=ks) (n:=1) (by decide) (by omega)
  obtain ⟨gs,hgl,hga,hge⟩:=id hl.1
  obtain ⟨pa,ca,rfl,a1,a2,a3⟩:=id hga
  obtain ⟨b0,off,rfl,_⟩:=a3.resolve_left (by intro h;rw [h] at hgl;simp at hgl;omega)
  have k1:=hga.at1 (win ks 1) (by omega)
  have hr:=hge (win ks 1) hw (by omega)
  rw [← key_get ks _ hw] at hr
  have hrl:(key ks (win ks 1)).length≤17592186043904:=by rw [key_get ks _ hw];exact hrow _ (List.getElem_mem _)
  obtain ⟨g,hg⟩ : ∃ g,g=gs[win ks 1]:=⟨_,rfl⟩
  rw [← hg] at k1 hr
  by_cases he:key ks (win ks 1) = []
  ·rw [if_pos he]
   refine ACall.enter (rs:=[.tmp 2,.tmp 3,.tmp 4]) 29 [(0,.agg #[.slice (some ⟨b0,off,none⟩) gs.length ca,ht])] Tryz.func10 rfl rfl (Nat.le_of_ble_eq_true rfl) rfl ⟨rfl,trivial⟩ ?_
   iterate 2 refine s1_ ?_
   refine ARun.boxA (cs:=[_,_]) (lit_lt rfl) rfl ?_
   intro b1 f1
   have g1:=f1
   repeat ((with_reducible replace g1:=fresh_set g1);obtain ⟨g1,_⟩:=g1)
   refine nl_ ?_
   iterate 9 refine s1_ ?_
   refine ca_ rfl (losV_Check _ ht ks (treeOf ks) _ (hl.less less_)) ?_
   rintro _ S1 ⟨rfl,h1⟩
   rw [h1,hc];clear h1 S1
   iterate 3 refine s1_ ?_
   refine su_ [(0,_),(1,_),(2,_),(3,_),(4,_),(5,_)] ?_
   iterate 6 refine s1_ ?_
   refine su_ [(0,_),(1,_),(2,_),(3,_),(4,_),(5,_),(11,_)] ?_
   refine cF_ ?_
   iterate 6 refine s1_ ?_
   refine ARun.boxA (cs:=[_,_]) (lit_lt rfl) rfl ?_
   intro b16 f16
   have g16:=f16
   repeat ((with_reducible replace g16:=fresh_set g16);obtain ⟨g16,_⟩:=g16)
   refine nl_ ?_
   refine ca_ rfl (losV_Win b16 _ ht ks _ own_ (hl.less less_) hc1) ?_
   rintro _ S1 ⟨rfl,h1⟩
   rw [h1,decide_eq_false (fun e=>e he)];clear h1 S1
   iterate 7 refine s1_ ?_
   refine su_ [(0,_),(1,_),(2,_),(3,_),(4,_),(5,_),(11,_),(6,_),(7,_)] ?_
   iterate 7 refine s1_ ?_
   refine su_ [(0,_),(1,_),(2,_),(3,_),(4,_),(5,_),(11,_),(6,_),(7,_),(21,_)] ?_
   refine cT_ ?_
   iterate 9 refine s1_ ?_
   refine ⟨_,S,⟨_,_,rfl,⟨_,_,rfl,⟨_,_,rfl,rfl,rfl⟩,rfl⟩,rfl⟩,less_,?_⟩
   exact ⟨_,rfl,Mem.Less.refl _,Sl.nil _ _ _⟩
  ·rw [if_neg he]
   obtain ⟨qa,da,rfl,x1,x2,_⟩:=id hr
   refine ACall.enter (rs:=[.tmp 2,.tmp 3,.tmp 4]) 29 [(0,.agg #[.slice (some ⟨b0,off,none⟩) gs.length ca,ht])] Tryz.func10 rfl rfl (Nat.le_of_ble_eq_true rfl) rfl ⟨rfl,trivial⟩ ?_
   iterate 2 refine s1_ ?_
   refine ARun.boxA (cs:=[_,_]) (lit_lt rfl) rfl ?_
   intro b1 f1
   have g1:=f1
   repeat ((with_reducible replace g1:=fresh_set g1);obtain ⟨g1,_⟩:=g1)
   refine nl_ ?_
   iterate 9 refine s1_ ?_
   refine ca_ rfl (losV_Check _ ht ks (treeOf ks) _ (hl.less less_)) ?_
   rintro _ S1 ⟨rfl,h1⟩
   rw [h1,hc];clear h1 S1
   iterate 3 refine s1_ ?_
   refine su_ [(0,_),(1,_),(2,_),(3,_),(4,_),(5,_)] ?_
   iterate 6 refine s1_ ?_
   refine su_ [(0,_),(1,_),(2,_),(3,_),(4,_),(5,_),(11,_)] ?_
   refine cF_ ?_
   iterate 6 refine s1_ ?_
   refine ARun.boxA (cs:=[_,_]) (lit_lt rfl) rfl ?_
   intro b16 f16
   have g16:=f16
   repeat ((with_reducible replace g16:=fresh_set g16);obtain ⟨g16,_⟩:=g16)
   refine nl_ ?_
   refine ca_ rfl (losV_Win b16 _ ht ks _ own_ (hl.less less_) hc1) ?_
   rintro _ S1 ⟨rfl,h1⟩
   rw [h1,decide_eq_true he];clear h1 S1
   iterate 7 refine s1_ ?_
   refine su_ [(0,_),(1,_),(2,_),(3,_),(4,_),(5,_),(11,_),(6,_),(7,_)] ?_
   iterate 7 refine s1_ ?_
   refine su_ [(0,_),(1,_),(2,_),(3,_),(4,_),(5,_),(11,_),(6,_),(7,_),(21,_)] ?_
   refine cF_ ?_
   iterate 10 refine s1_ ?_
   refine ca_ rfl (losV_CloneU (key ks (win ks 1)) _ _ (rowR_less _ _ _ _ hr less_) hrl) ?_
   rintro vc S1 hcl
   iterate 5 refine s1_ ?_
   refine su_ [(0,_),(1,_),(2,_),(3,_),(4,_),(5,_),(11,_),(6,_),(7,_),(21,_)] ?_
   refine s1_ ?_
   refine ⟨_,_,⟨_,_,rfl,⟨_,_,rfl,⟨_,_,rfl,rfl,rfl⟩,rfl⟩,rfl⟩,Mem.Less.refl _,?_⟩
   exact ⟨_,rfl,Mem.Less.trans less_ hcl.less,hcl.sl (by omega)⟩
 ·rw [if_pos (by rw [hc];simp)]
  refine ACall.enter (rs:=[.tmp 2,.tmp 3,.tmp 4]) 29 [(0,.agg #[hk,ht])] Tryz.func10 rfl rfl (Nat.le_of_ble_eq_true rfl) rfl ⟨rfl,trivial⟩ ?_
  iterate 2 refine s1_ ?_
  refine ARun.boxA (cs:=[_,_]) (lit_lt rfl) rfl ?_
  intro b1 f1
  have g1:=f1
  repeat ((with_reducible replace g1:=fresh_set g1);obtain ⟨g1,_⟩:=g1)
  refine nl_ ?_
  iterate 9 refine s1_ ?_
  refine ca_ rfl (losV_Check hk ht ks tr _ (hl.less less_)) ?_
  rintro _ S1 ⟨rfl,h1⟩
  rw [h1,hc];clear h1 S1
  iterate 3 refine s1_ ?_
  refine su_ [(0,_),(1,_),(2,_),(3,_),(4,_),(5,_)] ?_
  iterate 6 refine s1_ ?_
  refine su_ [(0,_),(1,_),(2,_),(3,_),(4,_),(5,_),(11,_)] ?_
  refine cT_ ?_
  iterate 8 refine s1_ ?_
  refine su_ [(0,_),(1,_),(2,_),(3,_),(4,_),(5,_),(11,_)] ?_
  iterate 2 refine s1_ ?_
  refine ⟨_,S,⟨_,_,rfl,⟨_,_,rfl,⟨_,_,rfl,rfl,rfl⟩,rfl⟩,rfl⟩,less_,?_⟩
  exact ⟨_,rfl,Mem.Less.refl _,Sl.nil _ _ _⟩
end Go.Proofs.YthbadpcmdlfmdaaGreatDoor
namespace Go.Proofs.YthbadpcmdlfmdaaGreatDoor
open Go.RowKit
open Mv Num Loser
set_option maxRecDepth 4000
theorem set_self {l : List Int} {n : Nat} {v : Int} (h : l[n]? = some v) : l.set n v = l := by
 apply List.ext_getElem?
 intro m
 by_cases e:n=m
 ·subst e
  have:=(List.getElem?_eq_some_iff.1 h).1
  rw [List.getElem?_set_self this,h]
 ·rw [List.getElem?_set_ne e]
/-- A tree's blocks: its keys, its nodes, itself. -/
def losM (M : Mem) (b q p : Nat) (hs : List Value) (tr : List Int) (k c : Nat) : Mem :=
  ((M.set b ⟨40, hs, k⟩).set q ⟨3, tr.map (fun x => Value.int .i64 x), c⟩).set p ⟨71, [.slice (some ⟨b, 0, none⟩) k k, .slice (some ⟨q, 0, none⟩) k c], 2⟩
structure LosF (M : Mem) (b q p : Nat) : Prop where
  fb : Fresh M b
  fq : Fresh M q
  fp : Fresh M p
  bq : b ≠ q
  bp : b ≠ p
  qp : q ≠ p
theorem losM_own_b {M : Mem} {b q p : Nat} {hs : List Value} {tr : List Int} {k c : Nat} (h : LosF M b q p) : (losM M b q p hs tr k c).own b = some ⟨40, hs, k⟩ := by
 unfold losM;rw [Mem.own_set_other _ _ h.bp,Mem.own_set_other _ _ h.bq,Mem.own_set_same]
theorem losM_own_q {M : Mem} {b q p : Nat} {hs : List Value} {tr : List Int} {k c : Nat} (h : LosF M b q p) : (losM M b q p hs tr k c).own q = some ⟨3, tr.map (fun x => Value.int .i64 x), c⟩ := by
 unfold losM;rw [Mem.own_set_other _ _ h.qp,Mem.own_set_same]
theorem losM_own_p {M : Mem} {b q p : Nat} {hs : List Value} {tr : List Int} {k c : Nat} : (losM M b q p hs tr k c).own p = some (treeB (.slice (some ⟨b, 0, none⟩) k k) (.slice (some ⟨q, 0, none⟩) k c)) := Mem.own_set_same _ _ _
theorem losM_less {M : Mem} {b q p : Nat} {hs : List Value} {tr : List Int} {k c : Nat} (h : LosF M b q p) : M.Less (losM M b q p hs tr k c) :=
 (Mem.less_set _ _ _ h.fb.1).trans ((Mem.less_set _ _ _ (by rw [Mem.own_set_other _ _ (Ne.symm h.bq)];exact h.fq.1)).trans (Mem.less_set _ _ _ (by rw [Mem.own_set_other _ _ (Ne.symm h.qp),Mem.own_set_other _ _ (Ne.symm h.bp)];exact h.fp.1)))
theorem losM_slOf {M : Mem} {b q p : Nat} {hs : List Value} {tr : List Int} {k c : Nat} {ks : List (List Nat)} (h : LosF M b q p) (hhl : hs.length = ks.length) (hk : k = ks.length) (hb : k ≤ 256) (hr : ∀ i (h : i < ks.length) (h' : i < hs.length), RowR M hs[i] ks[i]) : SlOf RowR (losM M b q p hs tr k c) (.slice (some ⟨b, 0, none⟩) k k) ks := by
 subst hk
 exact ⟨hs,hhl,Sl.own1 (g:=fun x:Value=>x) (r:=⟨_,hs,ks.length⟩) (losM_own_b h) (by simp) hhl (Nat.le_refl _) (by omega),fun i h1 h2=>rowR_less _ _ _ _ (hr i h1 h2) (losM_less h)⟩
theorem losM_lo {M : Mem} {b q p : Nat} {hs : List Value} {tr : List Int} {k c : Nat} {ks : List (List Nat)} (h : LosF M b q p) (hhl : hs.length = ks.length) (hk : k = ks.length) (hb : k ≤ 256) (htl : tr.length = k) (hc : k ≤ c) (hr : ∀ i (h : i < ks.length) (h' : i < hs.length), RowR M hs[i] ks[i]) : LoV (losM M b q p hs tr k c) (.slice (some ⟨b, 0, none⟩) k k) (.slice (some ⟨q, 0, none⟩) k c) ks tr :=
 ⟨losM_slOf h hhl hk hb hr,sl_intB (losM_own_q h) htl hc (by omega)⟩
theorem rows_set {M : Mem} {hs : List Value} {ks : List (List Nat)} {w : Nat} {vx : Value} {x : List Nat} (hr : ∀ i (h : i < ks.length) (h' : i < hs.length), RowR M hs[i] ks[i]) (hx : RowR M vx x) : ∀ i (h : i < (ks.set w x).length) (h' : i < (hs.set w vx).length), RowR M (hs.set w vx)[i] (ks.set w x)[i] := fun i h h' => by
 by_cases e:w=i
 ·subst e;simpa using hx
 ·rw [List.getElem_set_ne e,List.getElem_set_ne e];exact hr i (by simpa using h) (by simpa using h')
set_option maxHeartbeats 4000000 in
theorem losV_Replace (b q p : Nat) (ks : List (List Nat)) (hs : List Value) (k c : Nat) (x : List Nat) (vx : Value) (M : Mem) (hF : LosF M b q p) (hhl : hs.length = ks.length) (hk : k = ks.length) (hk1 : 1 ≤ k) (hk2 : k ≤ 256) (hc : k ≤ c) (hr : ∀ i (h : i < ks.length) (h' : i < hs.length), RowR M hs[i] ks[i]) (hx : RowR M vx x) :
  ACall Tryz.prog 29 #[.pointer (some ⟨p,0,none⟩),vx] (losM M b q p hs (treeOf ks) k c) fun r S'=>S'=losM M b q p (hs.set (win ks 1) vx) (treeOf (ks.set (win ks 1) x)) k c:=by
 obtain ⟨pv,cv,rfl,xv1,xv2,_⟩:=id hx
 have hw:=win_lt (ks:=ks) (n:=1) (by decide) (by omega)
 have htl:=treeOf_length ks
 have hksl:(ks.set (win ks 1) x).length=ks.length:=List.length_set
 have hhl':(hs.set (win ks 1) (.slice pv x.length cv)).length=(ks.set (win ks 1) x).length:=by simp [hhl]
 have hr':=rows_set (w:=win ks 1) hr hx
 have hwl0:win (ks.set (win ks 1) x) (ks.length+win ks 1)=win ks 1:=by rw [win_leaf _ (ks.length+win ks 1) (by rw [hksl];omega),hksl];omega
 have nbq:=hF.bq;have nbp:=hF.bp;have nqp:=hF.qp
 have t0:=kn_int (losM_own_q (hs:=hs) (tr:=treeOf ks) (k:=k) (c:=c) hF) 0 (treeOf_zero ks (by omega))
 unfold losM at t0 ⊢
 refine ACall.enter (rs:=[]) 68 [(0,.pointer (some ⟨p,0,none⟩)),(1,.slice pv x.length cv)] Tryz.func29 rfl rfl (Nat.le_of_ble_eq_true rfl) rfl ⟨rfl,rfl,trivial⟩ ?_
 iterate 12 refine s1_ ?_
 refine su_ [(0,_),(1,_),(4,_)] ?_
 iterate 13 refine s1_ ?_
 refine su_ [(0,_),(1,_),(4,_)] ?_
 simp only [Nat.zero_add,Nat.mul_one,Int.toNat_natCast]
 iterate 15 refine s1_ ?_
 refine su_ [(0,_),(1,_),(4,_),(5,_)] ?_
 refine s1_ ?_
 refine AWP.loop (X:=Nat × List Int) (fun y=>[(0,.pointer (some ⟨p,0,none⟩)),(4,.int .i64 (win (ks.set (win ks 1) x) y.1:Nat)),(5,.int .i64 (y.1 / 2:Nat))]) (fun y=>losM M b q p (hs.set (win ks 1) (.slice pv x.length cv)) y.2 k c) (fun y=>RepI ks x y.1 y.2) (fun y=>y.1) ((ks.length+win ks 1,treeOf ks)) ⟨rfl,some_int (by simp only [hwl0]),some_int (by omega),trivial⟩ (by unfold losM;exact less_) (RepI.start ks x (by omega)) ?_
 rintro ⟨nd,tr⟩ hI
 (try dsimp only at *)
 obtain ⟨a1,a2,a3⟩:=hI.at_
 have htrl:=hI.len
 have hsl:=losM_slOf (tr:=tr) (c:=c) hF hhl' (by omega) hk2 hr'
 have hop:=losM_own_p (M:=M) (b:=b) (q:=q) (p:=p) (hs:=hs.set (win ks 1) (.slice pv x.length cv)) (tr:=tr) (k:=k) (c:=c)
 by_cases hn1:1≤nd / 2
 ·iterate 7 refine s1_ ?_
  refine su_ [(0,_),(4,_),(5,_),(31,_)] ?_
  refine cT_ ?_
  obtain ⟨s,hcs,hts,hs1,hs2,hs3⟩:=hI.sib hn1
  have hws:=win_lt (ks:=ks.set (win ks 1) x) (n:=s) (by omega) (by omega)
  have hwc:=win_lt (ks:=ks.set (win ks 1) x) (n:=nd) (by omega) (by omega)
  have hg:=game (ks.set (win ks 1) x) (nd / 2) nd s hn1 (by omega) hcs
  have hst:=hI.step hn1
  have kt:=kn_int (losM_own_q (hs:=hs.set (win ks 1) (.slice pv x.length cv)) (tr:=tr) (k:=k) (c:=c) hF) (nd / 2) hts
  unfold losM at kt hop hsl ⊢
  iterate 16 refine s1_ ?_
  refine ca_ rfl (losV_beats p _ _ (ks.set (win ks 1) x) _ _ _ hop hsl hws hwc) ?_
  rintro _ S1 ⟨rfl,h1⟩
  rw [h1];clear h1 S1
  iterate 2 refine s1_ ?_
  refine su_ [(0,_),(4,_),(5,_),(31,_),(44,_)] ?_
  rcases Bool.eq_false_or_eq_true (beatsP (ks.set (win ks 1) x) (win (ks.set (win ks 1) x) s) (win (ks.set (win ks 1) x) nd)) with hb | hb
  ·obtain ⟨e1,e2⟩:=hg.1 hb
   refine AWP.condT rfl (hb) ?_
   refine AWP.draw [(0,true),(1,true),(2,true),(3,true),(4,true),(5,true),(6,true),(7,true),(8,true),(9,true),(10,true),(11,true),(12,true),(13,true),(14,true),(15,true),(16,true),(17,false)] [17] mixed (by kernel_rfl) ?_
   iterate 17 refine s1_ ?_
   refine draw_only rfl ?_
   refine s1_ ?_
   refine arun_nil ⟨fun h=>absurd h (by decide),?_⟩
   iterate 3 refine s1_ ?_
   refine su_ [(0,_),(4,_),(5,_),(31,_),(44,_)] ?_
   simp only [Nat.zero_add,Nat.mul_one,Int.toNat_natCast,icells_set]
   iterate 6 refine s1_ ?_
   refine ⟨(nd / 2,tr.set (nd / 2) (los (ks.set (win ks 1) x) (nd / 2):Int)),?_,?_,?_,?_⟩
   all_goals (try dsimp only)
   ·exact ⟨rfl,some_int (by rw [e1]),some_int (by omega),trivial⟩
   ·rw [e2];exact less_
   ·exact hst
   ·omega
  ·obtain ⟨e1,e2⟩:=hg.2 hb
   rw [← e2] at hts
   rw [set_self hts] at hst
   refine AWP.condF rfl (hb) ?_
   iterate 9 refine s1_ ?_
   refine ⟨(nd / 2,tr),?_,?_,?_,?_⟩
   all_goals (try dsimp only)
   ·exact ⟨rfl,some_int (by rw [e1]),some_int (by omega),trivial⟩
   ·exact Mem.Less.refl _
   ·exact hst
   ·omega
 ·iterate 7 refine s1_ ?_
  refine su_ [(0,_),(4,_),(5,_),(31,_)] ?_
  refine cF_ ?_
  obtain rfl:nd=1:=by omega
  have hdn:=hI.done (by omega)
  unfold losM
  iterate 15 refine s1_ ?_
  simp only [Nat.zero_add,Nat.mul_one,Int.toNat_zero,icells_set,hdn]
  refine ⟨_,losM M b q p (hs.set (win ks 1) (.slice pv x.length cv)) (treeOf (ks.set (win ks 1) x)) k c,rfl,(by unfold losM;exact less_),?_⟩
  rfl
set_option maxHeartbeats 4000000 in
theorem losV_Put (hk ht vx : Value) (ks : List (List Nat)) (tr : List Int) (x : List Nat) (S : Mem) (hl : LoV S hk ht ks tr) (hx : RowR S vx x) (hxl : x.length ≤ 17592186043904) (hrow : ∀ y ∈ ks, y.length ≤ 17592186043904) :
  ACall Tryz.prog 11 #[.agg #[hk,ht],vx] S (LosR (putP ks tr x) S):=by
 unfold putP
 rcases chk_or ks tr with ⟨hc,hc1,hc2,rfl⟩ | hc
 ·rw [if_neg (by rw [hc];simp)]
  have hw:=win_lt (ks:=ks) (n:=1) (by decide) (by omega)
  have htl:=treeOf_length ks
  obtain ⟨px,cx,rfl,x1,x2,_⟩:=id hx
  have hown:=losV_own hk ks S hl.1 hc2 hrow
  have hlz:x.length=0 ↔ x = []:=List.length_eq_zero_iff
  refine ACall.enter (rs:=[.cell 4 37,.tmp 5]) 65 [(0,.agg #[hk,ht]),(1,.slice px x.length cx)] Tryz.func11 rfl rfl (Nat.le_of_ble_eq_true rfl) rfl ⟨rfl,rfl,trivial⟩ ?_
  iterate 2 refine s1_ ?_
  refine ARun.boxA (cs:=[_,_]) (lit_lt rfl) rfl ?_
  intro b2 f2
  have g2:=f2
  repeat ((with_reducible replace g2:=fresh_set g2);obtain ⟨g2,_⟩:=g2)
  refine nl_ ?_
  refine ARun.alloc (lit_lt rfl) ty_zero_37 ?_
  intro b4 f4
  have g4:=f4
  repeat ((with_reducible replace g4:=fresh_set g4);obtain ⟨g4,_⟩:=g4)
  refine nl_ ?_
  iterate 7 refine s1_ ?_
  refine ca_ rfl (losV_Check hk ht ks (treeOf ks) _ (hl.less less_)) ?_
  rintro _ S1 ⟨rfl,h1⟩
  rw [h1,hc];clear h1 S1
  iterate 3 refine s1_ ?_
  refine su_ [(0,_),(1,_),(2,_),(4,_),(5,_),(6,_)] ?_
  iterate 6 refine s1_ ?_
  refine su_ [(0,_),(1,_),(2,_),(4,_),(5,_),(6,_),(13,_)] ?_
  refine cF_ ?_
  iterate 3 refine s1_ ?_
  refine AWP.draw [(0,true),(1,true),(3,true),(4,true),(2,false),(5,false),(6,true),(7,true),(8,false),(9,true)] [] mixed (by kernel_rfl) ?_
  iterate 4 refine s1_ ?_
  refine draw_only rfl ?_
  refine ca_ rfl ((hown.frame g2).frame f4) ?_
  rintro _ S1 ⟨S1a,⟨S1b,⟨M,b,hs,hO,rfl,rfl⟩,f2a,rfl⟩,f4a,rfl⟩
  have hMl:=hO.1
  have hbM:=hO.2.1
  have hbS:=hO.2.1.less hO.1
  have hOl:=hO.1.trans (Mem.less_set M b (keysB hs) hO.2.1.1)
  refine arun_nil ⟨fun _=>less_,?_⟩
  refine draw_only rfl ?_
  refine ca_ rfl (((losV_CloneI (treeOf ks) ht _ (hl.2.less hOl) (by omega)).frame f2a).frame f4a) ?_
  rintro _ S2 ⟨S2a,⟨S2b,hcl,f2b,rfl⟩,f4b,rfl⟩
  obtain ⟨hnil,_⟩ | ⟨q,c,fq,hqc,rfl,rfl⟩:=hcl
  (exfalso;rw [hnil] at htl;simp at htl;omega)
  have fqS:=((fresh_set fq).1).less hO.1
  have hhl:=hO.2.2.1
  have hrM:=hO.2.2.2
  obtain ⟨fqM,nqb⟩:=fresh_set fq
  obtain ⟨f4d,n42⟩:=fresh_set f4b
  obtain ⟨f4e,n4q⟩:=fresh_set f4d
  obtain ⟨f4M,n4b⟩:=fresh_set f4e
  obtain ⟨f2e,n2q⟩:=fresh_set f2b
  obtain ⟨f2M,n2b⟩:=fresh_set f2e
  refine arun_nil ⟨fun _=>less_,?_⟩
  iterate 2 refine s1_ ?_
  refine draw_only rfl ?_
  refine ARun.boxA (cs:=[_,_]) (lit_lt rfl) rfl ?_
  intro b24 f24
  have g24:=f24
  repeat ((with_reducible replace g24:=fresh_set g24);obtain ⟨g24,_⟩:=g24)
  refine nl_ ?_
  have g24S:=g24.less hMl
  refine arun_nil ⟨fun _=>less_,?_⟩
  iterate 3 refine s1_ ?_
  refine su_ [(0,_),(1,_),(2,_),(4,_),(5,_),(6,_),(13,_),(7,_)] ?_
  have hF:LosF M b q b24:=⟨hbM,fqM,g24,Ne.symm nqb,by (apply Ne.symm;assumption),by (apply Ne.symm;assumption)⟩
  have n424:b4≠b24:=by (apply Ne.symm;assumption)
  have n224:b2≠b24:=by (apply Ne.symm;assumption)
  have hF4:Fresh (losM M b q b24 hs (treeOf ks) ks.length c) b4:=by unfold losM;exact fresh_more (fresh_more (fresh_more f4M n4b) n4q) n424
  have hLo:LoV (losM M b q b24 hs (treeOf ks) ks.length c) (.slice (some ⟨b,0,none⟩) ks.length ks.length) (.slice (some ⟨q,0,none⟩) ks.length c) ks (treeOf ks):=losM_lo hF hhl rfl hc2 htl (by omega) hrM
  have hSl:S.Less (losM M b q b24 hs (treeOf ks) ks.length c):=hMl.trans (losM_less hF)
  simp only [keysB,intB,hhl,htl]
  refine AWP.less ((losM M b q b24 hs (treeOf ks) ks.length c).set b4 ⟨37,[.slice none 0 0,.slice none 0 0],2⟩) (by unfold losM;exact less_) ?_
  iterate 3 refine s1_ ?_
  refine ca_ rfl ((losV_Win b24 _ _ ks _ (losM_own_p (M:=M) (b:=b) (q:=q) (hs:=hs) (tr:=treeOf ks) (k:=ks.length) (c:=c)) hLo hc1).frame hF4) ?_
  rintro _ S3 ⟨_,⟨rfl,rfl⟩,_,rfl⟩
  have kb:=kn_cell (losM_own_b (hs:=hs) (tr:=treeOf ks) (k:=ks.length) (c:=c) hF) (win ks 1) (List.getElem?_eq_getElem (by omega:win ks 1<hs.length))
  have hrw:=hrM (win ks 1) hw (by omega)
  rw [← key_get ks _ hw] at hrw
  obtain ⟨g,hg⟩ : ∃ g,g=hs[win ks 1]'(by omega):=⟨_,rfl⟩
  rw [← hg] at kb hrw
  obtain ⟨qa,da,rfl,y1,y2,_⟩:=id hrw
  have nbq:=hF.bq;have nbp:=hF.bp;have nqp:=hF.qp;have n244:=Ne.symm n424
  have hrw2:=rowR_less _ _ _ _ hrw (losM_less (hs:=hs) (tr:=treeOf ks) (k:=ks.length) (c:=c) hF)
  iterate 7 refine s1_ ?_
  refine su_ [(0,_),(1,_),(2,_),(4,_),(5,_),(6,_),(13,_),(7,_),(8,_),(9,_)] ?_
  by_cases he:key ks (win ks 1) = []
  ·rw [decide_eq_false (fun e=>e he),if_pos he]
   unfold losM at hF4 ⊢
   iterate 9 refine s1_ ?_
   refine su_ [(0,_),(1,_),(2,_),(4,_),(5,_),(6,_),(13,_),(7,_),(8,_),(9,_),(30,_)] ?_
   refine cT_ ?_
   iterate 10 refine s1_ ?_
   refine su_ [(0,_),(1,_),(2,_),(4,_),(5,_),(6,_),(13,_),(7,_),(8,_),(9,_),(30,_)] ?_
   iterate 3 refine s1_ ?_
   refine ⟨_,losM M b q b24 hs (treeOf ks) ks.length c,⟨_,_,_,rfl,.inr ⟨ty_agg_37,[_,_],ty_size_37,rds_,rfl⟩,⟨_,_,rfl,rfl,rfl⟩,rfl⟩,(Mem.less_set _ _ _ hF4.1),?_⟩
   exact ⟨_,_,rfl,hSl,hLo⟩
  ·rw [decide_eq_true he,if_neg he]
   iterate 9 refine s1_ ?_
   refine su_ [(0,_),(1,_),(2,_),(4,_),(5,_),(6,_),(13,_),(7,_),(8,_),(9,_),(30,_)] ?_
   refine cF_ ?_
   by_cases hx0:x.length=0
   ·have hx00:=hlz.1 hx0
    unfold losM at hF4 kb hrw2 ⊢
    iterate 20 refine s1_ ?_
    refine su_ [(0,_),(1,_),(2,_),(4,_),(5,_),(6,_),(13,_),(7,_),(8,_),(9,_),(30,_),(37,_)] ?_
    refine cF_ ?_
    rw [if_neg (fun h=>h.1 hx00)]
    have hfq2:=fresh_more (r:=⟨40,hs,ks.length⟩) hF.fq (Ne.symm nbq)
    have hfp2:=fresh_more (r:=⟨3,(treeOf ks).map (fun x=>Value.int .i64 x),c⟩) (fresh_more (r:=⟨40,hs,ks.length⟩) hF.fp (Ne.symm nbp)) (Ne.symm nqp)
    iterate 7 refine s1_ ?_
    refine ca_ rfl (((((losV_CloneU x _ M (rowR_less _ _ _ _ hx hMl) hxl).frame hF.fb).frame hfq2).frame hfp2).frame hF4) ?_
    rintro vc S5 ⟨S5a,⟨S5b,⟨S5c,⟨M',hcl,fb',rfl⟩,fq',rfl⟩,fp',rfl⟩,f4',rfl⟩
    have hF':LosF M' b q b24:=⟨fb',(fresh_set fq').1,(fresh_set (fresh_set fp').1).1,nbq,nbp,nqp⟩
    have hr':∀ i (h:i<ks.length) (h':i<hs.length),RowR M' hs[i] ks[i]:=fun i h h'=>rowR_less _ _ _ _ (hrM i h h') hcl.less
    have hxc:RowR M' vc x:=hcl.sl (by omega)
    refine ca_ rfl ((losV_Replace b q b24 ks hs ks.length c x vc M' hF' hhl rfl hc1 hc2 (by omega) hr' hxc).frame f4') ?_
    rintro _ S6 ⟨_,rfl,f4'',rfl⟩
    have hLo':LoV (losM M' b q b24 (hs.set (win ks 1) vc) (treeOf (ks.set (win ks 1) x)) ks.length c) (.slice (some ⟨b,0,none⟩) ks.length ks.length) (.slice (some ⟨q,0,none⟩) ks.length c) (ks.set (win ks 1) x) (treeOf (ks.set (win ks 1) x)):=losM_lo hF' (by simp [hhl]) (by simp) hc2 (by rw [treeOf_length];simp) (by omega) (rows_set hr' hxc)
    have hSl':S.Less (losM M' b q b24 (hs.set (win ks 1) vc) (treeOf (ks.set (win ks 1) x)) ks.length c):=hMl.trans (hcl.less.trans (losM_less hF'))
    unfold losM at f4'' ⊢
    iterate 2 refine s1_ ?_
    refine su_ [(0,_),(1,_),(2,_),(4,_),(5,_),(6,_),(13,_),(7,_),(8,_),(9,_),(30,_),(37,_)] ?_
    iterate 10 refine s1_ ?_
    refine su_ [(0,_),(1,_),(2,_),(4,_),(5,_),(6,_),(13,_),(7,_),(8,_),(9,_),(30,_),(37,_)] ?_
    refine s1_ ?_
    refine ⟨_,losM M' b q b24 (hs.set (win ks 1) vc) (treeOf (ks.set (win ks 1) x)) ks.length c,⟨_,_,_,rfl,.inr ⟨ty_agg_37,[_,_],ty_size_37,rds_,rfl⟩,⟨_,_,rfl,rfl,rfl⟩,rfl⟩,(Mem.less_set _ _ _ f4''.1),?_⟩
    exact ⟨_,_,rfl,hSl',hLo'⟩
   ·have hx00:x ≠ []:=fun e=>hx0 (hlz.2 e)
    unfold losM at hF4 kb hrw2 ⊢
    iterate 15 refine s1_ ?_
    refine ARun.callG 3 true 41 rfl (lit_lt rfl) rfl (lit_lt rfl) go_28 rfl (numV_Less x (key ks (win ks 1)) _ _ _ (rowR_less _ _ _ _ hx (hSl.trans (Mem.less_set _ _ _ hF4.1))) (rowR_less _ _ _ _ hrw2 (Mem.less_set _ _ _ hF4.1))) ?_
    rintro _ S4 ⟨rfl,h1⟩
    rw [h1];clear h1 S4
    iterate 4 refine s1_ ?_
    refine su_ [(0,_),(1,_),(2,_),(4,_),(5,_),(6,_),(13,_),(7,_),(8,_),(9,_),(30,_),(37,_)] ?_
    rcases Bool.eq_false_or_eq_true (lessB x (key ks (win ks 1))) with hb | hb
    ·refine AWP.condT rfl (hb) ?_
     rw [if_pos ⟨hx00,hb⟩]
     iterate 10 refine s1_ ?_
     refine su_ [(0,_),(1,_),(2,_),(4,_),(5,_),(6,_),(13,_),(7,_),(8,_),(9,_),(30,_),(37,_)] ?_
     iterate 3 refine s1_ ?_
     refine ⟨_,losM M b q b24 hs (treeOf ks) ks.length c,⟨_,_,_,rfl,.inr ⟨ty_agg_37,[_,_],ty_size_37,rds_,rfl⟩,⟨_,_,rfl,rfl,rfl⟩,rfl⟩,(Mem.less_set _ _ _ hF4.1),?_⟩
     exact ⟨_,_,rfl,hSl,hLo⟩
    ·refine AWP.condF rfl (hb) ?_
     rw [if_neg (fun h=>by rw [hb] at h;exact absurd h.2 (by simp))]
     have hfq2:=fresh_more (r:=⟨40,hs,ks.length⟩) hF.fq (Ne.symm nbq)
     have hfp2:=fresh_more (r:=⟨3,(treeOf ks).map (fun x=>Value.int .i64 x),c⟩) (fresh_more (r:=⟨40,hs,ks.length⟩) hF.fp (Ne.symm nbp)) (Ne.symm nqp)
     iterate 7 refine s1_ ?_
     refine ca_ rfl (((((losV_CloneU x _ M (rowR_less _ _ _ _ hx hMl) hxl).frame hF.fb).frame hfq2).frame hfp2).frame hF4) ?_
     rintro vc S5 ⟨S5a,⟨S5b,⟨S5c,⟨M',hcl,fb',rfl⟩,fq',rfl⟩,fp',rfl⟩,f4',rfl⟩
     have hF':LosF M' b q b24:=⟨fb',(fresh_set fq').1,(fresh_set (fresh_set fp').1).1,nbq,nbp,nqp⟩
     have hr':∀ i (h:i<ks.length) (h':i<hs.length),RowR M' hs[i] ks[i]:=fun i h h'=>rowR_less _ _ _ _ (hrM i h h') hcl.less
     have hxc:RowR M' vc x:=hcl.sl (by omega)
     refine ca_ rfl ((losV_Replace b q b24 ks hs ks.length c x vc M' hF' hhl rfl hc1 hc2 (by omega) hr' hxc).frame f4') ?_
     rintro _ S6 ⟨_,rfl,f4'',rfl⟩
     have hLo':LoV (losM M' b q b24 (hs.set (win ks 1) vc) (treeOf (ks.set (win ks 1) x)) ks.length c) (.slice (some ⟨b,0,none⟩) ks.length ks.length) (.slice (some ⟨q,0,none⟩) ks.length c) (ks.set (win ks 1) x) (treeOf (ks.set (win ks 1) x)):=losM_lo hF' (by simp [hhl]) (by simp) hc2 (by rw [treeOf_length];simp) (by omega) (rows_set hr' hxc)
     have hSl':S.Less (losM M' b q b24 (hs.set (win ks 1) vc) (treeOf (ks.set (win ks 1) x)) ks.length c):=hMl.trans (hcl.less.trans (losM_less hF'))
     unfold losM at f4'' ⊢
     iterate 2 refine s1_ ?_
     refine su_ [(0,_),(1,_),(2,_),(4,_),(5,_),(6,_),(13,_),(7,_),(8,_),(9,_),(30,_),(37,_)] ?_
     iterate 10 refine s1_ ?_
     refine su_ [(0,_),(1,_),(2,_),(4,_),(5,_),(6,_),(13,_),(7,_),(8,_),(9,_),(30,_),(37,_)] ?_
     refine s1_ ?_
     refine ⟨_,losM M' b q b24 (hs.set (win ks 1) vc) (treeOf (ks.set (win ks 1) x)) ks.length c,⟨_,_,_,rfl,.inr ⟨ty_agg_37,[_,_],ty_size_37,rds_,rfl⟩,⟨_,_,rfl,rfl,rfl⟩,rfl⟩,(Mem.less_set _ _ _ f4''.1),?_⟩
     exact ⟨_,_,rfl,hSl',hLo'⟩
 ·rw [if_pos (by rw [hc];simp)]
  refine ACall.enter (rs:=[.cell 4 37,.tmp 5]) 65 [(0,.agg #[hk,ht]),(1,vx)] Tryz.func11 rfl rfl (Nat.le_of_ble_eq_true rfl) rfl ⟨rfl,rfl,trivial⟩ ?_
  iterate 2 refine s1_ ?_
  refine ARun.boxA (cs:=[_,_]) (lit_lt rfl) rfl ?_
  intro b2 f2
  have g2:=f2
  repeat ((with_reducible replace g2:=fresh_set g2);obtain ⟨g2,_⟩:=g2)
  refine nl_ ?_
  refine ARun.alloc (lit_lt rfl) ty_zero_37 ?_
  intro b4 f4
  have g4:=f4
  repeat ((with_reducible replace g4:=fresh_set g4);obtain ⟨g4,_⟩:=g4)
  refine nl_ ?_
  iterate 7 refine s1_ ?_
  refine ca_ rfl (losV_Check hk ht ks tr _ (hl.less less_)) ?_
  rintro _ S1 ⟨rfl,h1⟩
  rw [h1,hc];clear h1 S1
  iterate 3 refine s1_ ?_
  refine su_ [(0,_),(1,_),(2,_),(4,_),(5,_),(6,_)] ?_
  iterate 6 refine s1_ ?_
  refine su_ [(0,_),(1,_),(2,_),(4,_),(5,_),(6,_),(13,_)] ?_
  refine cT_ ?_
  iterate 8 refine s1_ ?_
  refine su_ [(0,_),(1,_),(2,_),(4,_),(5,_),(6,_),(13,_)] ?_
  iterate 2 refine s1_ ?_
  refine ⟨_,S,⟨_,_,_,rfl,.inr ⟨ty_agg_37,[_,_],ty_size_37,rds_,rfl⟩,⟨_,_,rfl,rfl,rfl⟩,rfl⟩,less_,?_⟩
  exact ⟨_,_,rfl,Mem.Less.refl _,loV_nil _⟩
end Go.Proofs.YthbadpcmdlfmdaaGreatDoor
namespace Go.Proofs.YthbadpcmdlfmdaaGreatDoor
open Go.RowKit
open Mv Num Loser
set_option maxRecDepth 4000
theorem kLess_lessB (x y : List Nat) (hx : x ≠ []) (hy : y ≠ []) : kLess x y = lessB x y := by
 cases x with
 | nil=>exact absurd rfl hx
 | cons _ _=>cases y with
  | nil=>exact absurd rfl hy
  | cons _ _=>rfl
end Go.Proofs.YthbadpcmdlfmdaaGreatDoor
namespace Go.Proofs.YthbadpcmdlfmdaaGreatDoor
open Go.RowKit
open Mv Num Loser
set_option maxRecDepth 4000
def LosCopyR (ks : List (List Nat)) (tr : List Int) (S : Mem) (r : Value) (S' : Mem) : Prop :=
  ∃ M o hs tv, GrowI RowR S M o hs ks ∧ Sl 1 i64s M tv tr ∧ r = .agg #[outV o ks.length, tv] ∧ S' = outM M o 40 hs
theorem LosCopyR.lo {ks : List (List Nat)} {tr : List Int} {S S' : Mem} {r : Value} (h : LosCopyR ks tr S r S') (hk : ks.length ≤ 5864062014634) : ∃ hk ht, r = .agg #[hk, ht] ∧ S.Less S' ∧ LoV S' hk ht ks tr := by
 obtain ⟨M,o,hs,tv,hI,ht,rfl,rfl⟩:=h
 have hsl:=hI.slOf (e:=40) rowR_less (by rw [hI.len];omega)
 rw [hI.len] at hsl
 exact ⟨_,_,rfl,hI.less.trans (outM_over hI.ok),hsl,ht.less (outM_over hI.ok)⟩
end Go.Proofs.YthbadpcmdlfmdaaGreatDoor
namespace Go.Proofs.YthbadpcmdlfmdaaGreatDoor
open Go.RowKit
open Mv Num Loser
set_option maxRecDepth 4000
theorem topP_put (ks : List (List Nat)) (tr : List Int) (x : List Nat) :
  (chkP ks tr=2∧topP ks tr=(0,[],2)∧putP ks tr x=([],[],2)) ∨
  (chkP ks tr=0∧1≤ks.length∧ks.length≤256∧tr=treeOf ks∧key ks (win ks 1) = []∧topP ks tr=(0,[],3)∧putP ks tr x=(ks,tr,3)) ∨
  (chkP ks tr=0∧1≤ks.length∧ks.length≤256∧tr=treeOf ks∧key ks (win ks 1) ≠ []∧topP ks tr=((win ks 1:Int),key ks (win ks 1),0)∧putP ks tr x=if x ≠ []∧lessB x (key ks (win ks 1))=true then (ks,tr,12) else (ks.set (win ks 1) x,treeOf (ks.set (win ks 1) x),0)):=by
 unfold topP putP
 rcases chk_or ks tr with ⟨hc,h1,h2,h3⟩ | hc
 ·right
  by_cases he:key ks (win ks 1) = []
  ·left;exact ⟨hc,h1,h2,h3,he,by rw [hc];simp [he],by rw [hc];simp [he]⟩
  ·right;exact ⟨hc,h1,h2,h3,he,by rw [hc];simp [he],by rw [hc];simp [he]⟩
 ·left;exact ⟨hc,by rw [hc];simp,by rw [hc];simp⟩
end Go.Proofs.YthbadpcmdlfmdaaGreatDoor
namespace Go.Proofs.YthbadpcmdlfmdaaGreatDoor
open Go.RowKit
open Mv Num Loser
set_option maxRecDepth 4000
theorem LoV.slices {S : Mem} {hk ht : Value} {ks : List (List Nat)} {tr : List Int} (h : LoV S hk ht ks tr) : ∃ pa ca pt ct, hk = .slice pa ks.length ca ∧ ht = .slice pt tr.length ct := by
 obtain ⟨pt,ct,e1,_⟩:=h.2
 obtain ⟨gs,hgl,⟨pa,ca,e2,_⟩,_⟩:=h.1
 exact ⟨pa,ca,pt,ct,by rw [e2,hgl],e1⟩
theorem LosR.slices {p : List (List Nat) × List Int × Int} {S S' : Mem} {r : Value} (h : LosR p S r S') : ∃ pa ca pt ct, r = .tuple #[.agg #[.slice pa p.1.length ca, .slice pt p.2.1.length ct], .int .i64 p.2.2] ∧ S.Less S' ∧ LoV S' (.slice pa p.1.length ca) (.slice pt p.2.1.length ct) p.1 p.2.1 := by
 obtain ⟨hk,ht,rfl,hl,hlo⟩:=h
 obtain ⟨pa,ca,pt,ct,rfl,rfl⟩:=hlo.slices
 exact ⟨pa,ca,pt,ct,rfl,hl,hlo⟩
end Go.Proofs.YthbadpcmdlfmdaaGreatDoor
namespace Go.Proofs.YthbadpcmdlfmdaaGreatDoor
open Go.RowKit
open Mv Num Loser
set_option maxRecDepth 4000
theorem slOf_at {S : Mem} {pa : Option Addr} {n ca : Nat} {ks : List (List Nat)} (h : SlOf RowR S (.slice pa n ca) ks) (j : Nat) (hj : j < ks.length) : ∃ b off g, pa = some ⟨b, off, none⟩ ∧ S.Knows ⟨b, off + j * 1, none⟩ [g] ∧ RowR S g (key ks j) := by
 obtain ⟨gs,hgl,⟨pa',ca',e,a1,a2,a3⟩,hge⟩:=h
 cases e
 obtain ⟨b,off,rfl,hkn⟩:=a3.resolve_left (by intro h;rw [h] at hgl;simp at hgl;omega)
 exact ⟨b,off,gs[j]'(by omega),rfl,hkn j (by omega),by rw [key_get ks j hj];exact hge j hj (by omega)⟩
theorem LosR.of {a : List (List Nat)} {b : List Int} {c : Int} {S S' : Mem} {r : Value} {n m : Nat} (h : LosR (a, b, c) S r S') (ha : a.length = n) (hb : b.length = m) : ∃ pa ca pt ct, r = .tuple #[.agg #[.slice pa n ca, .slice pt m ct], .int .i64 c] ∧ S.Less S' ∧ LoV S' (.slice pa n ca) (.slice pt m ct) a b := by
 subst ha hb;exact h.slices
/-- What holds between two rounds of a sorting by a tree: some are told, the rest comes behind what was told last. -/
structure SoI (ks cur : List (List Nat)) (told : List Bool) (last : List Nat) (at_ : Int) (m : Nat) : Prop where
  tl : told.length = ks.length
  cl : cur.length = ks.length
  cur_ : ∀ i, i < ks.length → key cur i = if told.getD i false = true then [] else key ks i
  told_ : ∀ i, i < ks.length → told.getD i false = true → key ks i ≠ []
  rest : ∀ j, j < ks.length → key cur j ≠ [] → lessB (key cur j) last = false ∧ (key cur j = last → at_ ≤ j)
  cnt : told.count true = m
  rl : ∀ y ∈ cur, y.length ≤ 17592186043904
theorem lessB_nil (x : List Nat) : lessB x [] = false := by cases x <;> rfl
theorem SoI.start (ks : List (List Nat)) (hr : ∀ y ∈ ks, y.length ≤ 17592186043904) : SoI ks ks (List.replicate ks.length false) [] (-1) 0 := by
 have hz:∀ i,(List.replicate ks.length false).getD i false=false:=fun i=>by
  by_cases h:i<ks.length <;> simp [List.getD,h]
 exact ⟨by simp,rfl,fun i h=>by rw [hz];rfl,fun i h e=>(by rw [hz] at e;cases e),fun j h e=>⟨lessB_nil _,fun e'=>absurd e' e⟩,by simp [List.count_replicate],hr⟩
theorem SoI.win_ {ks cur : List (List Nat)} {told : List Bool} {last : List Nat} {at_ : Int} {m : Nat} (h : SoI ks cur told last at_ m) (hk : 1 ≤ ks.length) (he : key cur (win cur 1) ≠ []) :
  win cur 1<ks.length∧told.getD (win cur 1) false=false∧key cur (win cur 1)=key ks (win cur 1)∧lessB (key cur (win cur 1)) last=false∧(key cur (win cur 1)=last→at_≤(win cur 1:Nat)):=by
 have hw:=win_lt (ks:=cur) (n:=1) (by decide) (by rw [h.cl];omega)
 rw [h.cl] at hw
 have hc:=h.cur_ _ hw
 have ht:told.getD (win cur 1) false=false:=by
  cases ht:told.getD (win cur 1) false with
  | false=>rfl
  | true=>rw [ht] at hc;exact absurd hc he
 rw [ht] at hc
 exact ⟨hw,ht,hc,h.rest _ hw he⟩
theorem SoI.step {ks cur : List (List Nat)} {told : List Bool} {last : List Nat} {at_ : Int} {m : Nat} (h : SoI ks cur told last at_ m) (hk : 1 ≤ ks.length) (he : key cur (win cur 1) ≠ []) :
  SoI ks (cur.set (win cur 1) []) (told.set (win cur 1) true) (key cur (win cur 1)) (win cur 1:Nat) (m+1):=by
 obtain ⟨hw,ht,hc,_⟩:=h.win_ hk he
 have hcl:=h.cl
 have hset:∀ i,i≠win cur 1→(told.set (win cur 1) true).getD i false=told.getD i false:=fun i e=>by simp [List.getD,Ne.symm e]
 have hsame:(told.set (win cur 1) true).getD (win cur 1) false=true:=by simp [List.getD,h.tl,hw]
 refine ⟨by simp [h.tl],by simp [hcl],fun i hi=>?_,fun i hi hti=>?_,fun j hj hje=>?_,?_,fun y hy=>?_⟩
 ·by_cases e:i=win cur 1
  ·subst e;rw [hsame,key_set_same _ _ _ (by omega)];rfl
  ·rw [hset i e,key_set_other _ _ _ _ e];exact h.cur_ i hi
 ·by_cases e:i=win cur 1
  ·subst e;rw [← hc];exact he
  ·rw [hset i e] at hti;exact h.told_ i hi hti
 ·by_cases e:j=win cur 1
  ·subst e;rw [key_set_same _ _ _ (by omega)] at hje;exact absurd rfl hje
  ·rw [key_set_other _ _ _ _ e] at hje ⊢
   have hb:=win_beats (ks:=cur) (n:=1) (i:=j) (by decide) (by omega) (by omega) (under_top (by omega)) e
   unfold beatsP at hb
   rw [kLess_lessB _ _ he hje] at hb
   simp only [Bool.or_eq_true,Bool.and_eq_true,decide_eq_true_eq] at hb
   rcases hb with hb | ⟨hb,hb'⟩
   ·refine ⟨?_,fun e'=>?_⟩
    ·cases h':lessB (key cur j) (key cur (win cur 1)) with
     | false=>rfl
     | true=>have:=lessB_trans _ _ _ hb h';rw [lessB_irrefl] at this;cases this
    ·rw [e',lessB_irrefl] at hb;cases hb
   ·rw [← hb];exact ⟨lessB_irrefl _,fun _=>by omega⟩
 ·have hw':win cur 1<told.length:=by rw [h.tl];exact hw
  rw [List.count_set hw']
  have:told[win cur 1]=false:=by simpa [List.getD,hw'] using ht
  rw [this,h.cnt];simp
 ·rcases List.mem_or_eq_of_mem_set hy with hy | rfl
  ·exact h.rl y hy
  ·simp
theorem SoI.done1 {ks cur : List (List Nat)} {told : List Bool} {last : List Nat} {at_ : Int} {m : Nat} (h : SoI ks cur told last at_ m) (hk : 1 ≤ ks.length) (he : key cur (win cur 1) = []) :
  ∀ i,i<ks.length→told.getD i false=decide (key ks i ≠ []):=fun i hi=>by
 have hcl:=h.cl
 have hce:key cur i = []:=by
  by_cases e:i=win cur 1
  ·rw [e];exact he
  ·have hb:=win_beats (ks:=cur) (n:=1) (i:=i) (by decide) (by omega) (by omega) (under_top (by omega)) e
   unfold beatsP at hb
   rw [he] at hb
   simp only [kLess,Bool.false_or,Bool.and_eq_true,decide_eq_true_eq] at hb
   exact hb.1.symm
 cases ht:told.getD i false with
 | true=>rw [decide_eq_true (h.told_ i hi ht)]
 | false =>
  have:=h.cur_ i hi
  rw [ht,hce] at this
  rw [decide_eq_false (fun e=>e this.symm)]
theorem SoI.done2 {ks cur : List (List Nat)} {told : List Bool} {last : List Nat} {at_ : Int} {m : Nat} (h : SoI ks cur told last at_ m) (hm : ks.length ≤ m) :
  ∀ i,i<ks.length→told.getD i false=decide (key ks i ≠ []):=fun i hi=>by
 have hc:told.count true=told.length:=by
  have:=List.count_le_length (a:=true) (l:=told)
  have:=h.cnt;have:=h.tl;omega
 have hall:=List.count_eq_length.1 hc
 have hi':i<told.length:=by rw [h.tl];exact hi
 have ht:told.getD i false=true:=by
  have:=hall told[i] (List.getElem_mem _)
  simp [List.getD,hi',← this]
 rw [ht,decide_eq_true (h.told_ i hi ht)]
/-- The state of the law's loop. -/
structure SoX where
  (m : Nat) (told : List Bool) (cur : List (List Nat)) (last : List Nat) (at_ : Int) (M : Mem) (lp : Option Addr) (lc : Nat) (ka : Option Addr) (kc : Nat) (ta : Option Addr) (tc : Nat)
end Go.Proofs.YthbadpcmdlfmdaaGreatDoor
