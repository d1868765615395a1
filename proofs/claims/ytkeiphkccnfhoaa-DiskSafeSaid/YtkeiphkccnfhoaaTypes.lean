/-
  What the program's types and functions are: closed facts, printed by walk.py.
-/
import Derived.Test.YtkeiphkccnfhoaaMem
namespace Go.Proofs.Ytkeiphkccnfhoaa
open Mv
namespace Mv
theorem mixed : Try.prog.follows .mixedOrders = true := by kernel_rfl
theorem ty_plain_3 : plainT Try.prog 3 = true := by kernel_rfl
theorem ty_size_3 : sizeT Try.prog 3 = some 1 := by kernel_rfl
theorem ty_plain_4 : plainT Try.prog 4 = true := by kernel_rfl
theorem ty_size_4 : sizeT Try.prog 4 = some 1 := by kernel_rfl
theorem ty_size_5 : sizeT Try.prog 5 = some 1 := by kernel_rfl
theorem ty_plain_9 : plainT Try.prog 9 = true := by kernel_rfl
theorem ty_size_9 : sizeT Try.prog 9 = some 1 := by kernel_rfl
theorem ty_str_9 : strT Try.prog 9 = true := by kernel_rfl
theorem ty_plain_22 : plainT Try.prog 22 = true := by kernel_rfl
theorem ty_size_22 : sizeT Try.prog 22 = some 1 := by kernel_rfl
theorem ty_sl_22 : slT Try.prog 22 = some (54, 2, 32, [.string ByteArray.empty, .string ByteArray.empty]) := by kernel_rfl
theorem ty_plain_23 : plainT Try.prog 23 = true := by kernel_rfl
theorem ty_size_23 : sizeT Try.prog 23 = some 1 := by kernel_rfl
theorem ty_sl_23 : slT Try.prog 23 = some (51, 3, 40, [.string ByteArray.empty, .int .i64 0, .string ByteArray.empty]) := by kernel_rfl
theorem ty_agg_25 : aggT Try.prog 25 = true := by kernel_rfl
theorem ty_bld_25 : bldT Try.prog 25 = some ([(0, 1), (1, 1), (2, 1), (3, 1), (4, 1)], [.int .i64 0, .slice none 0 0, .slice none 0 0, .int .i64 0, .bool false]) := by kernel_rfl
theorem ty_field_25_0 : fieldT Try.prog 25 0 = some (0, 0 + 1) := by kernel_rfl
theorem ty_field_25_1 : fieldT Try.prog 25 1 = some (1, 0 + 1) := by kernel_rfl
theorem ty_field_25_2 : fieldT Try.prog 25 2 = some (2, 0 + 1) := by kernel_rfl
theorem ty_field_25_3 : fieldT Try.prog 25 3 = some (3, 0 + 1) := by kernel_rfl
theorem ty_field_25_4 : fieldT Try.prog 25 4 = some (4, 0 + 1) := by kernel_rfl
theorem ty_size_25 : sizeT Try.prog 25 = some 5 := by kernel_rfl
theorem ty_zero_25 : zeroT Try.prog 25 = some [.int .i64 0, .slice none 0 0, .slice none 0 0, .int .i64 0, .bool false] := by kernel_rfl
theorem ty_sl_26 : slT Try.prog 26 = some (9, 1, 16, [.string ByteArray.empty]) := by kernel_rfl
theorem ty_plain_40 : plainT Try.prog 40 = true := by kernel_rfl
theorem ty_sl_40 : slT Try.prog 40 = some (4, 1, 1, [.bool false]) := by kernel_rfl
theorem ty_agg_51 : aggT Try.prog 51 = true := by kernel_rfl
theorem ty_bld_51 : bldT Try.prog 51 = some ([(0, 1), (1, 1), (2, 1)], [.string ByteArray.empty, .int .i64 0, .string ByteArray.empty]) := by kernel_rfl
theorem ty_field_51_0 : fieldT Try.prog 51 0 = some (0, 0 + 1) := by kernel_rfl
theorem ty_field_51_1 : fieldT Try.prog 51 1 = some (1, 0 + 1) := by kernel_rfl
theorem ty_field_51_2 : fieldT Try.prog 51 2 = some (2, 0 + 1) := by kernel_rfl
theorem ty_size_51 : sizeT Try.prog 51 = some 3 := by kernel_rfl
theorem ty_zero_51 : zeroT Try.prog 51 = some [.string ByteArray.empty, .int .i64 0, .string ByteArray.empty] := by kernel_rfl
theorem ty_agg_54 : aggT Try.prog 54 = true := by kernel_rfl
theorem ty_bld_54 : bldT Try.prog 54 = some ([(0, 1), (1, 1)], [.string ByteArray.empty, .string ByteArray.empty]) := by kernel_rfl
theorem ty_field_54_0 : fieldT Try.prog 54 0 = some (0, 0 + 1) := by kernel_rfl
theorem ty_field_54_1 : fieldT Try.prog 54 1 = some (1, 0 + 1) := by kernel_rfl
theorem ty_size_54 : sizeT Try.prog 54 = some 2 := by kernel_rfl
theorem ty_zero_54 : zeroT Try.prog 54 = some [.string ByteArray.empty, .string ByteArray.empty] := by kernel_rfl
theorem ty_bld_90 : bldT Try.prog 90 = some ([(0, 5)], [.int .i64 0, .slice none 0 0, .slice none 0 0, .int .i64 0, .bool false]) := by kernel_rfl
theorem ty_field_90_0 : fieldT Try.prog 90 0 = some (0, 4 + 1) := by kernel_rfl
theorem ty_sl_92 : slT Try.prog 92 = some (5, 1, 1, [.int .u8 0]) := by kernel_rfl
theorem ty_bytes_92 : bytesT Try.prog 92 = some 5 := by kernel_rfl
theorem go_12 : goFn Try.prog 12 = true := by kernel_rfl
theorem go_13 : goFn Try.prog 13 = true := by kernel_rfl
theorem go_14 : goFn Try.prog 14 = true := by kernel_rfl
theorem go_15 : goFn Try.prog 15 = true := by kernel_rfl
theorem go_16 : goFn Try.prog 16 = true := by kernel_rfl
theorem go_17 : goFn Try.prog 17 = true := by kernel_rfl
theorem go_18 : goFn Try.prog 18 = true := by kernel_rfl
theorem go_19 : goFn Try.prog 19 = true := by kernel_rfl
theorem go_20 : goFn Try.prog 20 = true := by kernel_rfl
theorem go_21 : goFn Try.prog 21 = true := by kernel_rfl
theorem go_22 : goFn Try.prog 22 = true := by kernel_rfl
theorem go_23 : goFn Try.prog 23 = true := by kernel_rfl
theorem go_24 : goFn Try.prog 24 = true := by kernel_rfl
theorem go_25 : goFn Try.prog 25 = true := by kernel_rfl
theorem go_26 : goFn Try.prog 26 = true := by kernel_rfl
theorem go_27 : goFn Try.prog 27 = true := by kernel_rfl
theorem go_28 : goFn Try.prog 28 = true := by kernel_rfl
theorem go_29 : goFn Try.prog 29 = true := by kernel_rfl
theorem go_30 : goFn Try.prog 30 = true := by kernel_rfl
theorem go_31 : goFn Try.prog 31 = true := by kernel_rfl
theorem go_32 : goFn Try.prog 32 = true := by kernel_rfl
theorem go_33 : goFn Try.prog 33 = true := by kernel_rfl
theorem go_34 : goFn Try.prog 34 = true := by kernel_rfl
theorem go_35 : goFn Try.prog 35 = true := by kernel_rfl
theorem go_36 : goFn Try.prog 36 = true := by kernel_rfl
theorem go_44 : goFn Try.prog 44 = true := by kernel_rfl
theorem go_45 : goFn Try.prog 45 = true := by kernel_rfl
theorem go_46 : goFn Try.prog 46 = true := by kernel_rfl
theorem go_47 : goFn Try.prog 47 = true := by kernel_rfl
theorem go_48 : goFn Try.prog 48 = true := by kernel_rfl
theorem go_49 : goFn Try.prog 49 = true := by kernel_rfl
theorem go_50 : goFn Try.prog 50 = true := by kernel_rfl
theorem go_51 : goFn Try.prog 51 = true := by kernel_rfl
theorem go_52 : goFn Try.prog 52 = true := by kernel_rfl
theorem go_53 : goFn Try.prog 53 = true := by kernel_rfl
theorem go_54 : goFn Try.prog 54 = true := by kernel_rfl
theorem go_55 : goFn Try.prog 55 = true := by kernel_rfl
theorem go_56 : goFn Try.prog 56 = true := by kernel_rfl
theorem go_57 : goFn Try.prog 57 = true := by kernel_rfl
theorem go_58 : goFn Try.prog 58 = true := by kernel_rfl
theorem go_59 : goFn Try.prog 59 = true := by kernel_rfl
theorem go_60 : goFn Try.prog 60 = true := by kernel_rfl
theorem go_61 : goFn Try.prog 61 = true := by kernel_rfl
theorem go_62 : goFn Try.prog 62 = true := by kernel_rfl
theorem go_63 : goFn Try.prog 63 = true := by kernel_rfl
theorem go_64 : goFn Try.prog 64 = true := by kernel_rfl
theorem go_65 : goFn Try.prog 65 = true := by kernel_rfl
theorem go_66 : goFn Try.prog 66 = true := by kernel_rfl
theorem go_67 : goFn Try.prog 67 = true := by kernel_rfl
theorem go_68 : goFn Try.prog 68 = true := by kernel_rfl
theorem go_83 : goFn Try.prog 83 = true := by kernel_rfl
theorem go_84 : goFn Try.prog 84 = true := by kernel_rfl
theorem go_85 : goFn Try.prog 85 = true := by kernel_rfl
theorem go_86 : goFn Try.prog 86 = true := by kernel_rfl
theorem go_87 : goFn Try.prog 87 = true := by kernel_rfl
theorem go_88 : goFn Try.prog 88 = true := by kernel_rfl
theorem go_89 : goFn Try.prog 89 = true := by kernel_rfl
theorem go_90 : goFn Try.prog 90 = true := by kernel_rfl
theorem go_91 : goFn Try.prog 91 = true := by kernel_rfl
theorem go_92 : goFn Try.prog 92 = true := by kernel_rfl
theorem go_93 : goFn Try.prog 93 = true := by kernel_rfl
theorem go_94 : goFn Try.prog 94 = true := by kernel_rfl
theorem go_96 : goFn Try.prog 96 = true := by kernel_rfl
theorem go_111 : goFn Try.prog 111 = true := by kernel_rfl
theorem go_112 : goFn Try.prog 112 = true := by kernel_rfl
theorem go_121 : goFn Try.prog 121 = true := by kernel_rfl
theorem go_122 : goFn Try.prog 122 = true := by kernel_rfl
theorem go_123 : goFn Try.prog 123 = true := by kernel_rfl
theorem go_131 : goFn Try.prog 131 = true := by kernel_rfl
theorem go_138 : goFn Try.prog 138 = true := by kernel_rfl
end Mv
end Go.Proofs.Ytkeiphkccnfhoaa
