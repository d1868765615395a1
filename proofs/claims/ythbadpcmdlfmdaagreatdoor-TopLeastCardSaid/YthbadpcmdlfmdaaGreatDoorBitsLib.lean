/-
  Of the library: Len64, OnesCount8, Clone: what the layer of bits calls. (Lines of the kit's worked walks, turned to this program.)
-/
import Derived.Test.YthbadpcmdlfmdaaGreatDoorBitsWrite
import Derived.Lib.BitFns
import Derived.Lib.BufferWrite
import Derived.Lib.UnsafeStr
import Derived.Laws.MakeOwn
namespace Go.Proofs.YthbadpcmdlfmdaaGreatDoor
open Go.RowKit
open Bits
set_option maxRecDepth 8000
set_option linter.unusedVariables false

set_option maxHeartbeats 4000000 in
set_option maxRecDepth 100000 in
theorem lib_Len64 (x : Int) (w : World) (h0 : 0 ≤ x) (h1 : x ≤ 18446744073709551615) :
    Calls Tryz.prog 32 #[.int .u64 x] w fun e w' => e = .returned (.int .i64 (Lib.bitLen x.toNat)) ∧ w' = w := by
  rcases (by omega : (0 ≤ x ∧ x < 256) ∨ (256 ≤ x ∧ x < 65536) ∨ (65536 ≤ x ∧ x < 16777216) ∨ (16777216 ≤ x ∧ x < 4294967296) ∨ (4294967296 ≤ x ∧ x < 1099511627776) ∨ (1099511627776 ≤ x ∧ x < 281474976710656) ∨ (281474976710656 ≤ x ∧ x < 72057594037927936) ∨ (72057594037927936 ≤ x ∧ x < 18446744073709551616)) with ⟨g0, g1⟩ | ⟨g0, g1⟩ | ⟨g0, g1⟩ | ⟨g0, g1⟩ | ⟨g0, g1⟩ | ⟨g0, g1⟩ | ⟨g0, g1⟩ | ⟨g0, g1⟩
  · have hy0 : 0 ≤ x := by omega
    have hy1 : x ≤ 255 := by omega
    have ey : (x).toNat = x.toNat / 1 := by omega
    have l := Lib.bitLen_le8' (x) hy0 hy1
    have e8 := Lib.len8_of (x) hy0 hy1
    have hb : Lib.bitLen x.toNat = 0 + Lib.bitLen (x.toNat / 1) := by rw [Nat.div_one, Nat.zero_add]
    rw [hb, ← ey]
    have ke := Lib.hid (And.intro e8 l)
    clear ey l e8 hb
    go_enter Tryz.func32, Tryz.ntmps32
    go_wp2
    all_goals first
      | (exfalso; omega)
      | (go_ret; refine ⟨congrArg Ending.returned (congrArg (Value.int IntKind.i64) ?_), rfl⟩
         rw [ke.out.1]; have := ke.out.2; first | omega | (simp only [wrap64]; omega))
  · have hy0 : 0 ≤ x / 256 := by omega
    have hy1 : x / 256 ≤ 255 := by omega
    have ey : (x / 256).toNat = x.toNat / 256 := by omega
    have l := Lib.bitLen_le8' (x / 256) hy0 hy1
    have e8 := Lib.len8_of (x / 256) hy0 hy1
    have hb : Lib.bitLen x.toNat = 8 + Lib.bitLen (x.toNat / 256) := Lib.bitLen_shift 8 x.toNat (by omega) (by omega)
    rw [hb, ← ey]
    have ke := Lib.hid (And.intro e8 l)
    clear ey l e8 hb
    go_enter Tryz.func32, Tryz.ntmps32
    go_wp2
    all_goals first
      | (exfalso; omega)
      | (go_ret; refine ⟨congrArg Ending.returned (congrArg (Value.int IntKind.i64) ?_), rfl⟩
         rw [ke.out.1]; have := ke.out.2; first | omega | (simp only [wrap64]; omega))
  · have hy0 : 0 ≤ x / 65536 := by omega
    have hy1 : x / 65536 ≤ 255 := by omega
    have ey : (x / 65536).toNat = x.toNat / 65536 := by omega
    have l := Lib.bitLen_le8' (x / 65536) hy0 hy1
    have e8 := Lib.len8_of (x / 65536) hy0 hy1
    have hb : Lib.bitLen x.toNat = 16 + Lib.bitLen (x.toNat / 65536) := Lib.bitLen_shift 16 x.toNat (by omega) (by omega)
    rw [hb, ← ey]
    have ke := Lib.hid (And.intro e8 l)
    clear ey l e8 hb
    go_enter Tryz.func32, Tryz.ntmps32
    go_wp2
    all_goals first
      | (exfalso; omega)
      | (go_ret; refine ⟨congrArg Ending.returned (congrArg (Value.int IntKind.i64) ?_), rfl⟩
         rw [ke.out.1]; have := ke.out.2; first | omega | (simp only [wrap64]; omega))
  · have hy0 : 0 ≤ x / 65536 / 256 := by omega
    have hy1 : x / 65536 / 256 ≤ 255 := by omega
    have ey : (x / 65536 / 256).toNat = x.toNat / 16777216 := by omega
    have l := Lib.bitLen_le8' (x / 65536 / 256) hy0 hy1
    have e8 := Lib.len8_of (x / 65536 / 256) hy0 hy1
    have hb : Lib.bitLen x.toNat = 24 + Lib.bitLen (x.toNat / 16777216) := Lib.bitLen_shift 24 x.toNat (by omega) (by omega)
    rw [hb, ← ey]
    have ke := Lib.hid (And.intro e8 l)
    clear ey l e8 hb
    go_enter Tryz.func32, Tryz.ntmps32
    go_wp2
    all_goals first
      | (exfalso; omega)
      | (go_ret; refine ⟨congrArg Ending.returned (congrArg (Value.int IntKind.i64) ?_), rfl⟩
         rw [ke.out.1]; have := ke.out.2; first | omega | (simp only [wrap64]; omega))
  · have hy0 : 0 ≤ x / 4294967296 := by omega
    have hy1 : x / 4294967296 ≤ 255 := by omega
    have ey : (x / 4294967296).toNat = x.toNat / 4294967296 := by omega
    have l := Lib.bitLen_le8' (x / 4294967296) hy0 hy1
    have e8 := Lib.len8_of (x / 4294967296) hy0 hy1
    have hb : Lib.bitLen x.toNat = 32 + Lib.bitLen (x.toNat / 4294967296) := Lib.bitLen_shift 32 x.toNat (by omega) (by omega)
    rw [hb, ← ey]
    have ke := Lib.hid (And.intro e8 l)
    clear ey l e8 hb
    go_enter Tryz.func32, Tryz.ntmps32
    go_wp2
    all_goals first
      | (exfalso; omega)
      | (go_ret; refine ⟨congrArg Ending.returned (congrArg (Value.int IntKind.i64) ?_), rfl⟩
         rw [ke.out.1]; have := ke.out.2; first | omega | (simp only [wrap64]; omega))
  · have hy0 : 0 ≤ x / 4294967296 / 256 := by omega
    have hy1 : x / 4294967296 / 256 ≤ 255 := by omega
    have ey : (x / 4294967296 / 256).toNat = x.toNat / 1099511627776 := by omega
    have l := Lib.bitLen_le8' (x / 4294967296 / 256) hy0 hy1
    have e8 := Lib.len8_of (x / 4294967296 / 256) hy0 hy1
    have hb : Lib.bitLen x.toNat = 40 + Lib.bitLen (x.toNat / 1099511627776) := Lib.bitLen_shift 40 x.toNat (by omega) (by omega)
    rw [hb, ← ey]
    have ke := Lib.hid (And.intro e8 l)
    clear ey l e8 hb
    go_enter Tryz.func32, Tryz.ntmps32
    go_wp2
    all_goals first
      | (exfalso; omega)
      | (go_ret; refine ⟨congrArg Ending.returned (congrArg (Value.int IntKind.i64) ?_), rfl⟩
         rw [ke.out.1]; have := ke.out.2; first | omega | (simp only [wrap64]; omega))
  · have hy0 : 0 ≤ x / 4294967296 / 65536 := by omega
    have hy1 : x / 4294967296 / 65536 ≤ 255 := by omega
    have ey : (x / 4294967296 / 65536).toNat = x.toNat / 281474976710656 := by omega
    have l := Lib.bitLen_le8' (x / 4294967296 / 65536) hy0 hy1
    have e8 := Lib.len8_of (x / 4294967296 / 65536) hy0 hy1
    have hb : Lib.bitLen x.toNat = 48 + Lib.bitLen (x.toNat / 281474976710656) := Lib.bitLen_shift 48 x.toNat (by omega) (by omega)
    rw [hb, ← ey]
    have ke := Lib.hid (And.intro e8 l)
    clear ey l e8 hb
    go_enter Tryz.func32, Tryz.ntmps32
    go_wp2
    all_goals first
      | (exfalso; omega)
      | (go_ret; refine ⟨congrArg Ending.returned (congrArg (Value.int IntKind.i64) ?_), rfl⟩
         rw [ke.out.1]; have := ke.out.2; first | omega | (simp only [wrap64]; omega))
  · have hy0 : 0 ≤ x / 4294967296 / 65536 / 256 := by omega
    have hy1 : x / 4294967296 / 65536 / 256 ≤ 255 := by omega
    have ey : (x / 4294967296 / 65536 / 256).toNat = x.toNat / 72057594037927936 := by omega
    have l := Lib.bitLen_le8' (x / 4294967296 / 65536 / 256) hy0 hy1
    have e8 := Lib.len8_of (x / 4294967296 / 65536 / 256) hy0 hy1
    have hb : Lib.bitLen x.toNat = 56 + Lib.bitLen (x.toNat / 72057594037927936) := Lib.bitLen_shift 56 x.toNat (by omega) (by omega)
    rw [hb, ← ey]
    have ke := Lib.hid (And.intro e8 l)
    clear ey l e8 hb
    go_enter Tryz.func32, Tryz.ntmps32
    go_wp2
    all_goals first
      | (exfalso; omega)
      | (go_ret; refine ⟨congrArg Ending.returned (congrArg (Value.int IntKind.i64) ?_), rfl⟩
         rw [ke.out.1]; have := ke.out.2; first | omega | (simp only [wrap64]; omega))

end Go.Proofs.YthbadpcmdlfmdaaGreatDoor
