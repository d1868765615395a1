/-
  Num: Put, Of and Get; five bytes and records of the document.
-/
import Derived.Test.YtpeljbmbgjeomaaVNum1
namespace Go.Proofs.Ytpeljbmbgjeomaa
open Go.RowKit
open Mv Num
set_option linter.unusedVariables false
set_option linter.unusedSimpArgs false
theorem sl_u64 {S : Mem} {b e : Nat} {l : List Nat} {len cap room : Nat} (hb : S.own b = some ⟨e, l.map (fun n : Nat => .int .u64 (n : Int)), room⟩) (hlen : l.length = len) (hc : len ≤ cap) (hm : len ≤ 9223372036854775807) : Sl 1 u64s S (.slice (some ⟨b, 0, none⟩) len cap) l :=
  Sl.own1 (g := fun n : Nat => .int .u64 (n : Int)) hb List.prefix_rfl hlen hc hm
theorem numV_Put (n : Nat) (S : Mem) (hn : n < 18446744073709551616) :
    ACall Try.prog 31 #[.int .u64 n] S fun r S' => r = pairV (recP [n]) ∧ S' = S := by
  refine ACall.enter (args := [.int .u64 n]) (rs := [.tmp 2, .tmp 3]) 9 [(0, .int .u64 n)] Try.func31 rfl rfl (Nat.le_of_ble_eq_true rfl) rfl ⟨rfl, trivial⟩ ?_
  refine AWP.seq ?_
  refine AWP.region ?_
  refine rC (Calm.assign rfl) ?_
  refine rC (Calm.assign rfl) ?_
  refine arun_nil ?_
  refine athen_n ?_
  refine AWP.seq ?_
  refine AWP.region ?_
  refine rC (Calm.move rfl) ?_
  refine ARun.build1s (lit_lt rfl) ty_sl_49 rfl rfl ?_
  intro b5 f5
  have g5 := f5
  repeat ((with_reducible replace g5 := fresh_set g5); obtain ⟨g5, _⟩ := g5)
  refine ARun.call (lit_lt rfl) go_40 rfl (numV_Record [n] _ _ (sl_u64 own_ rfl (by omega) (by omega)) (by simpa using hn)) ?_
  rintro _ S1 ⟨rfl, h1⟩
  rw [h1]; clear h1 S1
  refine rC (Calm.extract rfl rfl) ?_
  refine rC (Calm.extract rfl rfl) ?_
  refine rC (Calm.assign rfl) ?_
  refine rC (Calm.assign rfl) ?_
  refine arun_nil ?_
  refine athen_n ?_
  refine AWP.sub [(0, _), (2, _), (3, _)] ⟨rfl, rfl, rfl, trivial⟩ ?_
  refine AWP.ret ?_
  refine ⟨_, S, ⟨_, _, rfl, ⟨_, _, rfl, rfl, rfl⟩, rfl⟩, less_, ?_⟩
  exact ⟨rfl, rfl⟩
set_option maxHeartbeats 400000 in
theorem numV_Of (s : ByteArray) (S : Mem) (h5 : 5 ≤ s.size) (hs : s.size ≤ 9223372036854775807) :
    ACall Try.prog 60 #[.string s] S fun r S' => r = .int .u64 (ofB (s.data.toList.take 5) : Nat) ∧ S' = S := by
  have hsz := size_list s
  refine ACall.enter (args := [.string s]) (rs := [.tmp 2]) 17 [(0, .string s)] Try.func60 rfl rfl (Nat.le_of_ble_eq_true rfl) rfl ⟨rfl, trivial⟩ ?_
  refine AWP.seq ?_
  refine AWP.region ?_
  refine rC (Calm.assign rfl) ?_
  refine arun_nil ?_
  refine athen_n ?_
  refine AWP.seq ?_
  refine AWP.region ?_
  refine rC (Calm.assign rfl) ?_
  refine arun_nil ?_
  refine athen_n ?_
  refine AWP.seq ?_
  refine AWP.seq ?_
  refine AWP.region ?_
  refine rC (Calm.move rfl) ?_
  refine arun_nil ?_
  refine athen_n ?_
  refine AWP.block ?_
  refine AWP.loop (X := Nat) (fun x => [(0, .string s), (3, .int .u64 (ofB (s.data.toList.take x) : Nat)), (5, .int .i64 x)]) (fun x => S) (fun x => x ≤ 5) (fun x => 5 - x) (0) ⟨rfl, rfl, rfl, trivial⟩ (Mem.Less.refl _) (Nat.zero_le _) ?_
  rintro k hk
  (try dsimp only at *)
  refine AWP.seq ?_
  refine AWP.region ?_
  refine rC (Calm.bin rfl rfl b_lss) ?_
  refine arun_nil ?_
  refine athen_n ?_
  refine AWP.seq ?_
  refine AWP.condB rfl (fun hl => ?_) (fun hl => ?_)
  · have hl : k < 5 := by have := of_decide_eq_true hl; omega
    have hq := of_or (ofB (s.data.toList.take k)) (at8 s.data.toList k) (ofB_small _ _ (by omega))
    rw [← ofB_take _ _ (by omega)] at hq
    refine AWP.skip ?_
    refine athen_n ?_
    refine AWP.seq ?_
    refine AWP.block ?_
    refine AWP.seq ?_
    refine AWP.region ?_
    refine rC (Calm.move rfl) ?_
    refine rC (Calm.assign rfl) ?_
    refine arun_nil ?_
    refine athen_n ?_
    refine AWP.sub [(0, _), (3, _), (5, _), (6, _), (4, _)] ⟨rfl, rfl, rfl, rfl, rfl, trivial⟩ ?_
    refine AWP.region ?_
    refine rC (Calm.move rfl) ?_
    refine rC (Calm.bin rfl rfl b_shl) ?_
    refine rC (Calm.move rfl) ?_
    refine rC (Calm.move rfl) ?_
    refine rC ((by first | exact Calm.indexStrN (strT_spec ty_str_9) rfl rfl (by omega) | exact Calm.indexStr (strT_spec ty_str_9) rfl rfl (by omega) (by omega))) ?_
    refine rC (Calm.conv rfl (by first | exact conv_intW Try.underlying5 Try.underlying24 (IntWalk.u64_in _ (by omega)) | exact conv_intW Try.underlying5 Try.underlying24 (wrap_nb_u64 _) | exact conv_int Try.underlying5 Try.underlying24)) ?_
    refine rC (Calm.bin rfl rfl (bin_or _ _)) ?_
    refine rC (Calm.assign rfl) ?_
    refine arun_nil ?_
    refine ain_n ?_
    refine athen_n ?_
    refine AWP.sub [(0, _), (3, _), (5, _), (6, _), (4, _)] ⟨rfl, rfl, rfl, rfl, rfl, trivial⟩ ?_
    refine AWP.region ?_
    refine rC (Calm.bin rfl rfl b_add_i64) ?_
    refine rC (Calm.move rfl) ?_
    refine arun_nil ?_
    refine athen_n ?_
    refine ⟨k + 1, ?_, ?_, ?_, ?_⟩
    all_goals (try dsimp only)
    · exact ⟨rfl, some_int hq, some_int (by omega), trivial⟩
    · exact Mem.Less.refl _
    · exact hl
    · omega
  · have hl : k = 5 := by have := of_decide_eq_false hl; omega
    subst hl
    refine AWP.exit ?_
    refine athen_exit ?_
    refine athen_exit ?_
    refine ain_same ?_
    refine athen_n ?_
    refine AWP.seq ?_
    refine AWP.region ?_
    refine rC (Calm.move rfl) ?_
    refine rC (Calm.assign rfl) ?_
    refine arun_nil ?_
    refine athen_n ?_
    refine AWP.sub [(0, _), (3, _), (5, _), (6, _), (2, _)] ⟨rfl, rfl, rfl, rfl, rfl, trivial⟩ ?_
    refine AWP.ret ?_
    refine ⟨_, S, ⟨_, _, rfl, rfl, rfl⟩, less_, ?_⟩
    exact ⟨rfl, rfl⟩
set_option maxHeartbeats 400000 in
theorem rnumV_Of (s : ByteArray) (S : Mem) (h5 : s.size = 5) :
    ACall Try.prog 61 #[.string s] S fun r S' => r = .int .u64 (ofB s.data.toList : Nat) ∧ S' = S := by
  have hsz := size_list s
  refine ACall.enter (args := [.string s]) (rs := [.tmp 2]) 19 [(0, .string s)] Try.func61 rfl rfl (Nat.le_of_ble_eq_true rfl) rfl ⟨rfl, trivial⟩ ?_
  refine AWP.seq ?_
  refine AWP.region ?_
  refine rC (Calm.assign rfl) ?_
  refine arun_nil ?_
  refine athen_n ?_
  refine AWP.seq ?_
  refine AWP.region ?_
  refine rC (Calm.assign rfl) ?_
  refine arun_nil ?_
  refine athen_n ?_
  refine AWP.seq ?_
  refine AWP.seq ?_
  refine AWP.region ?_
  refine rC (Calm.assign rfl) ?_
  refine arun_nil ?_
  refine athen_n ?_
  refine AWP.block ?_
  refine AWP.loop (X := Nat) (fun x => [(0, .string s), (3, .int .u64 (ofB (s.data.toList.take x) : Nat)), (4, .int .i64 x)]) (fun x => S) (fun x => x ≤ 5) (fun x => 5 - x) (0) ⟨rfl, rfl, rfl, trivial⟩ (Mem.Less.refl _) (Nat.zero_le _) ?_
  rintro k hk
  (try dsimp only at *)
  have hb := ofB_small s.data.toList (min k 4) (by omega)
  refine AWP.seq ?_
  refine AWP.seq ?_
  refine AWP.region ?_
  refine rC (Calm.move rfl) ?_
  refine rC (Calm.move rfl) ?_
  refine rC (Calm.lenStr (strT_spec ty_str_9) rfl) ?_
  refine rC (Calm.bin rfl rfl b_lss) ?_
  refine arun_nil ?_
  refine athen_n ?_
  refine AWP.sub [(0, _), (3, _), (4, _), (8, _)] ⟨rfl, rfl, rfl, rfl, trivial⟩ ?_
  refine AWP.condB rfl (fun hl => ?_) (fun hl => ?_)
  · have hl : k < 5 := by have := of_decide_eq_true hl; omega
    have hb2 := ofB_small s.data.toList k (by omega)
    have hc1 := nb_nonneg (at8 s.data.toList k)
    have hc2 := nb_le (at8 s.data.toList k)
    have hq := ofB_take s.data.toList k (by omega)
    refine AWP.skip ?_
    refine athen_n ?_
    refine AWP.seq ?_
    refine AWP.block ?_
    refine AWP.region ?_
    refine rC (Calm.move rfl) ?_
    refine rC (Calm.bin rfl rfl b_mul_u64) ?_
    refine rC (Calm.move rfl) ?_
    refine rC (Calm.move rfl) ?_
    refine rC ((by first | exact Calm.indexStrN (strT_spec ty_str_9) rfl rfl (by omega) | exact Calm.indexStr (strT_spec ty_str_9) rfl rfl (by omega) (by omega))) ?_
    refine rC (Calm.conv rfl (by first | exact conv_intW Try.underlying5 Try.underlying24 (IntWalk.u64_in _ (by omega)) | exact conv_intW Try.underlying5 Try.underlying24 (wrap_nb_u64 _) | exact conv_int Try.underlying5 Try.underlying24)) ?_
    refine rC (Calm.bin rfl rfl b_add_u64) ?_
    refine rC (Calm.assign rfl) ?_
    refine arun_nil ?_
    refine ain_n ?_
    refine athen_n ?_
    refine AWP.sub [(0, _), (3, _), (4, _), (8, _)] ⟨rfl, rfl, rfl, rfl, trivial⟩ ?_
    refine AWP.region ?_
    refine rC (Calm.move rfl) ?_
    refine rC (Calm.bin rfl rfl b_add_i64) ?_
    refine rC (Calm.assign rfl) ?_
    refine arun_nil ?_
    refine athen_n ?_
    refine ⟨k + 1, ?_, ?_, ?_, ?_⟩
    all_goals (try dsimp only)
    · exact ⟨rfl, some_int (by rw [hq, nb_byte]; omega), some_int (by omega), trivial⟩
    · exact Mem.Less.refl _
    · exact hl
    · omega
  · have hl : k = 5 := by have := of_decide_eq_false hl; omega
    subst hl
    refine AWP.exit ?_
    refine athen_exit ?_
    refine athen_exit ?_
    refine ain_same ?_
    refine athen_n ?_
    refine AWP.seq ?_
    refine AWP.region ?_
    refine rC (Calm.move rfl) ?_
    refine rC (Calm.assign rfl) ?_
    refine arun_nil ?_
    refine athen_n ?_
    refine AWP.sub [(0, _), (3, _), (4, _), (8, _), (2, _)] ⟨rfl, rfl, rfl, rfl, rfl, trivial⟩ ?_
    refine AWP.ret ?_
    refine ⟨_, S, ⟨_, _, rfl, rfl, rfl⟩, less_, ?_⟩
    exact ⟨by rw [List.take_of_length_le (by omega)]; rfl, rfl⟩
set_option maxHeartbeats 400000 in
theorem numV_Get (s : ByteArray) (S : Mem) (hs : s.size ≤ 9223372036854775807) :
    ACall Try.prog 33 #[.string s] S fun r S' => r = getV (Num.getP s) ∧ S' = S := by
  unfold Num.getP
  by_cases h : s.size = 5
  · rw [if_pos h]
    refine ACall.enter (args := [.string s]) (rs := [.tmp 2, .tmp 3]) 9 [(0, .string s)] Try.func33 rfl rfl (Nat.le_of_ble_eq_true rfl) rfl ⟨rfl, trivial⟩ ?_
    refine AWP.seq ?_
    refine AWP.region ?_
    refine rC (Calm.assign rfl) ?_
    refine rC (Calm.assign rfl) ?_
    refine arun_nil ?_
    refine athen_n ?_
    refine AWP.seq ?_
    refine AWP.seq ?_
    refine AWP.region ?_
    refine rC (Calm.move rfl) ?_
    refine rC (Calm.lenStr (strT_spec ty_str_9) rfl) ?_
    refine rC (Calm.bin rfl rfl b_neq) ?_
    refine arun_nil ?_
    refine athen_n ?_
    refine AWP.sub [(0, _), (2, _), (3, _), (6, _)] ⟨rfl, rfl, rfl, rfl, trivial⟩ ?_
    refine AWP.condF rfl (by first | rfl | (simp; done) | (simp; omega)) ?_
    refine AWP.skip ?_
    refine athen_n ?_
    refine AWP.seq ?_
    refine AWP.region ?_
    refine rC (Calm.move rfl) ?_
    refine ARun.call (lit_lt rfl) go_60 rfl (numV_Of s _ (by omega) hs) ?_
    rintro _ S1 ⟨rfl, h1⟩
    rw [h1]; clear h1 S1
    refine rC (Calm.assign rfl) ?_
    refine rC (Calm.assign rfl) ?_
    refine arun_nil ?_
    refine athen_n ?_
    refine AWP.sub [(0, _), (2, _), (3, _), (6, _)] ⟨rfl, rfl, rfl, rfl, trivial⟩ ?_
    refine AWP.ret ?_
    refine ⟨_, S, ⟨_, _, rfl, ⟨_, _, rfl, rfl, rfl⟩, rfl⟩, less_, ?_⟩
    exact ⟨by rw [List.take_of_length_le (by have := size_list s; omega)]; rfl, rfl⟩
  · rw [if_neg h]
    refine ACall.enter (args := [.string s]) (rs := [.tmp 2, .tmp 3]) 9 [(0, .string s)] Try.func33 rfl rfl (Nat.le_of_ble_eq_true rfl) rfl ⟨rfl, trivial⟩ ?_
    refine AWP.seq ?_
    refine AWP.region ?_
    refine rC (Calm.assign rfl) ?_
    refine rC (Calm.assign rfl) ?_
    refine arun_nil ?_
    refine athen_n ?_
    refine AWP.seq ?_
    refine AWP.seq ?_
    refine AWP.region ?_
    refine rC (Calm.move rfl) ?_
    refine rC (Calm.lenStr (strT_spec ty_str_9) rfl) ?_
    refine rC (Calm.bin rfl rfl b_neq) ?_
    refine arun_nil ?_
    refine athen_n ?_
    refine AWP.sub [(0, _), (2, _), (3, _), (6, _)] ⟨rfl, rfl, rfl, rfl, trivial⟩ ?_
    refine AWP.condT rfl (by first | rfl | (simp; done) | (simp; omega)) ?_
    refine AWP.seq ?_
    refine AWP.region ?_
    refine rC (Calm.assign rfl) ?_
    refine rC (Calm.assign rfl) ?_
    refine arun_nil ?_
    refine athen_n ?_
    refine AWP.ret ?_
    refine athen_ret ?_
    refine ⟨_, S, ⟨_, _, rfl, ⟨_, _, rfl, rfl, rfl⟩, rfl⟩, less_, ?_⟩
    exact ⟨rfl, rfl⟩
set_option maxHeartbeats 400000 in
theorem rnumV_Get (s : ByteArray) (S : Mem) (hs : s.size ≤ 9223372036854775807) :
    ACall Try.prog 34 #[.string s] S fun r S' => r = getV (Num.getP s) ∧ S' = S := by
  unfold Num.getP
  by_cases h : s.size = 5
  · rw [if_pos h]
    refine ACall.enter (args := [.string s]) (rs := [.tmp 2, .tmp 3]) 9 [(0, .string s)] Try.func34 rfl rfl (Nat.le_of_ble_eq_true rfl) rfl ⟨rfl, trivial⟩ ?_
    refine AWP.seq ?_
    refine AWP.region ?_
    refine rC (Calm.assign rfl) ?_
    refine rC (Calm.assign rfl) ?_
    refine arun_nil ?_
    refine athen_n ?_
    refine AWP.seq ?_
    refine AWP.seq ?_
    refine AWP.region ?_
    refine rC (Calm.move rfl) ?_
    refine rC (Calm.lenStr (strT_spec ty_str_9) rfl) ?_
    refine rC (Calm.bin rfl rfl b_neq) ?_
    refine arun_nil ?_
    refine athen_n ?_
    refine AWP.sub [(0, _), (2, _), (3, _), (6, _)] ⟨rfl, rfl, rfl, rfl, trivial⟩ ?_
    refine AWP.condF rfl (by first | rfl | (simp; done) | (simp; omega)) ?_
    refine AWP.skip ?_
    refine athen_n ?_
    refine AWP.seq ?_
    refine AWP.region ?_
    refine rC (Calm.move rfl) ?_
    refine ARun.call (lit_lt rfl) go_61 rfl (rnumV_Of s _ h) ?_
    rintro _ S1 ⟨rfl, h1⟩
    rw [h1]; clear h1 S1
    refine rC (Calm.assign rfl) ?_
    refine rC (Calm.assign rfl) ?_
    refine arun_nil ?_
    refine athen_n ?_
    refine AWP.sub [(0, _), (2, _), (3, _), (6, _)] ⟨rfl, rfl, rfl, rfl, trivial⟩ ?_
    refine AWP.ret ?_
    refine ⟨_, S, ⟨_, _, rfl, ⟨_, _, rfl, rfl, rfl⟩, rfl⟩, less_, ?_⟩
    exact ⟨rfl, rfl⟩
  · rw [if_neg h]
    refine ACall.enter (args := [.string s]) (rs := [.tmp 2, .tmp 3]) 9 [(0, .string s)] Try.func34 rfl rfl (Nat.le_of_ble_eq_true rfl) rfl ⟨rfl, trivial⟩ ?_
    refine AWP.seq ?_
    refine AWP.region ?_
    refine rC (Calm.assign rfl) ?_
    refine rC (Calm.assign rfl) ?_
    refine arun_nil ?_
    refine athen_n ?_
    refine AWP.seq ?_
    refine AWP.seq ?_
    refine AWP.region ?_
    refine rC (Calm.move rfl) ?_
    refine rC (Calm.lenStr (strT_spec ty_str_9) rfl) ?_
    refine rC (Calm.bin rfl rfl b_neq) ?_
    refine arun_nil ?_
    refine athen_n ?_
    refine AWP.sub [(0, _), (2, _), (3, _), (6, _)] ⟨rfl, rfl, rfl, rfl, trivial⟩ ?_
    refine AWP.condT rfl (by first | rfl | (simp; done) | (simp; omega)) ?_
    refine AWP.seq ?_
    refine AWP.region ?_
    refine rC (Calm.assign rfl) ?_
    refine rC (Calm.assign rfl) ?_
    refine arun_nil ?_
    refine athen_n ?_
    refine AWP.ret ?_
    refine athen_ret ?_
    refine ⟨_, S, ⟨_, _, rfl, ⟨_, _, rfl, rfl, rfl⟩, rfl⟩, less_, ?_⟩
    exact ⟨rfl, rfl⟩
/-! ### The document's -/
theorem byte_quo (n k : Nat) : IntKind.u8.wrap ((n : Int) / (k : Int)) = nb (UInt8.ofNat (n / k)) := by rw [← u8_nat]; congr 1
theorem rnumV_Five (n : Nat) (S : Mem) (hn : n < 18446744073709551616) :
    ACall Try.prog 59 #[.int .u64 n] S fun r S' => r = .string (bs (five n)) ∧ S' = S := by
  have e0 := byte_quo n 4294967296; have e1 := byte_quo n 16777216; have e2 := byte_quo n 65536; have e3 := byte_quo n 256
  have e4 := u8_nat n
  have q0 := IntWalk.u64_quo (n : Int) 4294967296 (by omega); have q1 := IntWalk.u64_quo (n : Int) 16777216 (by omega)
  have q2 := IntWalk.u64_quo (n : Int) 65536 (by omega); have q3 := IntWalk.u64_quo (n : Int) 256 (by omega)
  refine ACall.enter (args := [.int .u64 n]) (rs := [.tmp 2]) 19 [(0, .int .u64 n)] Try.func59 rfl rfl (Nat.le_of_ble_eq_true rfl) rfl ⟨rfl, trivial⟩ ?_
  refine AWP.seq ?_
  refine AWP.region ?_
  refine rC (Calm.assign rfl) ?_
  refine arun_nil ?_
  refine athen_n ?_
  refine AWP.seq ?_
  refine AWP.region ?_
  refine rC (Calm.move rfl) ?_
  refine rC (Calm.bin rfl rfl b_quo_u64) ?_
  refine rC (Calm.conv rfl (conv_intW Try.underlying24 Try.underlying5 e0)) ?_
  refine rC (Calm.move rfl) ?_
  refine rC (Calm.bin rfl rfl b_quo_u64) ?_
  refine rC (Calm.conv rfl (conv_intW Try.underlying24 Try.underlying5 e1)) ?_
  refine rC (Calm.move rfl) ?_
  refine rC (Calm.bin rfl rfl b_quo_u64) ?_
  refine rC (Calm.conv rfl (conv_intW Try.underlying24 Try.underlying5 e2)) ?_
  refine rC (Calm.move rfl) ?_
  refine rC (Calm.bin rfl rfl b_quo_u64) ?_
  refine rC (Calm.conv rfl (conv_intW Try.underlying24 Try.underlying5 e3)) ?_
  refine rC (Calm.move rfl) ?_
  refine rC (Calm.conv rfl (conv_intW Try.underlying24 Try.underlying5 e4)) ?_
  refine ARun.buildN (cs := [_, _, _, _, _]) (lit_lt rfl) ty_sl_63 rfl rfl rfl rfl ?_
  intro b17 f17
  have g17 := f17
  repeat ((with_reducible replace g17 := fresh_set g17); obtain ⟨g17, _⟩ := g17)
  refine rC (Calm.toStr (l := five n) ty_bytes_63 ty_str_9 rfl (five_length n) rds_) ?_
  refine rC (Calm.assign rfl) ?_
  refine arun_nil ?_
  refine athen_n ?_
  refine AWP.sub [(0, _), (2, _)] ⟨rfl, rfl, trivial⟩ ?_
  refine AWP.ret ?_
  refine ⟨_, S, ⟨_, _, rfl, rfl, rfl⟩, less_, ?_⟩
  exact ⟨rfl, rfl⟩
theorem rnumV_Put (n : Nat) (S : Mem) (hn : n < 18446744073709551616) :
    ACall Try.prog 32 #[.int .u64 n] S fun r S' => r = pairV (recP [n]) ∧ S' = S := by
  have hq : recOK [n] = decide (n < top) := by simp [recOK]
  unfold recP
  rw [hq]
  by_cases h : n < top
  · rw [if_pos (by simpa using h)]
    unfold top at h
    refine ACall.enter (args := [.int .u64 n]) (rs := [.tmp 2, .tmp 3]) 8 [(0, .int .u64 n)] Try.func32 rfl rfl (Nat.le_of_ble_eq_true rfl) rfl ⟨rfl, trivial⟩ ?_
    refine AWP.seq ?_
    refine AWP.region ?_
    refine rC (Calm.assign rfl) ?_
    refine rC (Calm.assign rfl) ?_
    refine arun_nil ?_
    refine athen_n ?_
    refine AWP.seq ?_
    refine AWP.seq ?_
    refine AWP.region ?_
    refine rC (Calm.move rfl) ?_
    refine rC (Calm.bin rfl rfl b_geq) ?_
    refine arun_nil ?_
    refine athen_n ?_
    refine AWP.sub [(0, _), (2, _), (3, _), (5, _)] ⟨rfl, rfl, rfl, rfl, trivial⟩ ?_
    refine AWP.condF rfl (by first | rfl | (simp; done) | (simp; omega)) ?_
    refine AWP.skip ?_
    refine athen_n ?_
    refine AWP.seq ?_
    refine AWP.region ?_
    refine rC (Calm.move rfl) ?_
    refine ARun.call (lit_lt rfl) go_59 rfl (rnumV_Five n S hn) ?_
    rintro _ S1 ⟨rfl, h1⟩
    rw [h1]; clear h1 S1
    refine rC (Calm.assign rfl) ?_
    refine rC (Calm.assign rfl) ?_
    refine arun_nil ?_
    refine athen_n ?_
    refine AWP.sub [(0, _), (2, _), (3, _), (5, _)] ⟨rfl, rfl, rfl, rfl, trivial⟩ ?_
    refine AWP.ret ?_
    refine ⟨_, S, ⟨_, _, rfl, ⟨_, _, rfl, rfl, rfl⟩, rfl⟩, less_, ?_⟩
    exact ⟨by simp [pairV, two, recB, one], rfl⟩
  · rw [if_neg (by simpa using h)]
    unfold top at h
    refine ACall.enter (args := [.int .u64 n]) (rs := [.tmp 2, .tmp 3]) 8 [(0, .int .u64 n)] Try.func32 rfl rfl (Nat.le_of_ble_eq_true rfl) rfl ⟨rfl, trivial⟩ ?_
    refine AWP.seq ?_
    refine AWP.region ?_
    refine rC (Calm.assign rfl) ?_
    refine rC (Calm.assign rfl) ?_
    refine arun_nil ?_
    refine athen_n ?_
    refine AWP.seq ?_
    refine AWP.seq ?_
    refine AWP.region ?_
    refine rC (Calm.move rfl) ?_
    refine rC (Calm.bin rfl rfl b_geq) ?_
    refine arun_nil ?_
    refine athen_n ?_
    refine AWP.sub [(0, _), (2, _), (3, _), (5, _)] ⟨rfl, rfl, rfl, rfl, trivial⟩ ?_
    refine AWP.condT rfl (by first | rfl | (simp; done) | (simp; omega)) ?_
    refine AWP.seq ?_
    refine AWP.region ?_
    refine rC (Calm.assign rfl) ?_
    refine rC (Calm.assign rfl) ?_
    refine arun_nil ?_
    refine athen_n ?_
    refine AWP.ret ?_
    refine athen_ret ?_
    refine ⟨_, S, ⟨_, _, rfl, ⟨_, _, rfl, rfl, rfl⟩, rfl⟩, less_, ?_⟩
    exact ⟨rfl, rfl⟩
set_option maxHeartbeats 1000000 in
theorem rnumV_Record (l : List Nat) (v : Value) (S : Mem) (hv : Sl 1 u64s S v l) (hb : ∀ x ∈ l, x < 18446744073709551616) :
    ACall Try.prog 41 #[v] S fun r S' => r = pairV (recP l) ∧ S' = S := by
  have hq := recOK_spec l
  unfold recP
  obtain ⟨a, cap, rfl, hlc, hcap, hk⟩ := id hv
  by_cases c1 : l.length < 1
  · rw [if_neg (by rw [hq]; simp [c1])]
    refine ACall.enter (args := [.slice a l.length cap]) (rs := [.tmp 2, .tmp 3]) 29 [(0, .slice a l.length cap)] Try.func41 rfl rfl (Nat.le_of_ble_eq_true rfl) rfl ⟨rfl, trivial⟩ ?_
    refine AWP.seq ?_
    refine AWP.region ?_
    refine rC (Calm.assign rfl) ?_
    refine rC (Calm.assign rfl) ?_
    refine arun_nil ?_
    refine athen_n ?_
    refine AWP.seq ?_
    refine AWP.seq ?_
    refine AWP.region ?_
    refine rC (Calm.move rfl) ?_
    refine rC (Calm.lenSl Try.underlying49 rfl) ?_
    refine rC (Calm.bin rfl rfl b_lss) ?_
    refine rC (Calm.move rfl) ?_
    first | refine rS 10 ?_ | refine rU 10 ?_ | refine rG 10 (Calm.move rfl) ?_
    first | refine rS 10 ?_ | refine rU 10 ?_ | refine rG 10 (Calm.lenSl Try.underlying49 rfl) ?_
    first | refine rS 10 ?_ | refine rU 10 ?_ | refine rG 10 (Calm.bin rfl rfl b_gtr) ?_
    refine rC ((by first | exact Calm.pickT rfl rfl | exact Calm.pickF rfl rfl)) ?_
    refine arun_nil ?_
    refine athen_n ?_
    refine AWP.sub [(0, _), (2, _), (3, _), (14, _)] ⟨rfl, rfl, rfl, rfl, trivial⟩ ?_
    refine AWP.condT rfl (by first | rfl | (simp; done) | (simp; omega)) ?_
    refine AWP.seq ?_
    refine AWP.region ?_
    refine rC (Calm.assign rfl) ?_
    refine rC (Calm.assign rfl) ?_
    refine arun_nil ?_
    refine athen_n ?_
    refine AWP.ret ?_
    refine athen_ret ?_
    refine ⟨_, S, ⟨_, _, rfl, ⟨_, _, rfl, rfl, rfl⟩, rfl⟩, less_, ?_⟩
    exact ⟨rfl, rfl⟩
  by_cases c2 : 8 < l.length
  · rw [if_neg (by rw [hq]; simp [c2])]
    refine ACall.enter (args := [.slice a l.length cap]) (rs := [.tmp 2, .tmp 3]) 29 [(0, .slice a l.length cap)] Try.func41 rfl rfl (Nat.le_of_ble_eq_true rfl) rfl ⟨rfl, trivial⟩ ?_
    refine AWP.seq ?_
    refine AWP.region ?_
    refine rC (Calm.assign rfl) ?_
    refine rC (Calm.assign rfl) ?_
    refine arun_nil ?_
    refine athen_n ?_
    refine AWP.seq ?_
    refine AWP.seq ?_
    refine AWP.region ?_
    refine rC (Calm.move rfl) ?_
    refine rC (Calm.lenSl Try.underlying49 rfl) ?_
    refine rC (Calm.bin rfl rfl b_lss) ?_
    refine rC (Calm.move rfl) ?_
    first | refine rS 10 ?_ | refine rU 10 ?_ | refine rG 10 (Calm.move rfl) ?_
    first | refine rS 10 ?_ | refine rU 10 ?_ | refine rG 10 (Calm.lenSl Try.underlying49 rfl) ?_
    first | refine rS 10 ?_ | refine rU 10 ?_ | refine rG 10 (Calm.bin rfl rfl b_gtr) ?_
    refine rC ((by first | exact Calm.pickT rfl rfl | exact Calm.pickF rfl rfl)) ?_
    refine arun_nil ?_
    refine athen_n ?_
    refine AWP.sub [(0, _), (2, _), (3, _), (14, _)] ⟨rfl, rfl, rfl, rfl, trivial⟩ ?_
    refine AWP.condT rfl (by first | rfl | (simp; done) | (simp; omega)) ?_
    refine AWP.seq ?_
    refine AWP.region ?_
    refine rC (Calm.assign rfl) ?_
    refine rC (Calm.assign rfl) ?_
    refine arun_nil ?_
    refine athen_n ?_
    refine AWP.ret ?_
    refine athen_ret ?_
    refine ⟨_, S, ⟨_, _, rfl, ⟨_, _, rfl, rfl, rfl⟩, rfl⟩, less_, ?_⟩
    exact ⟨rfl, rfl⟩
  obtain ⟨b0, off, rfl, hkn⟩ := hk.resolve_left (by intro h; rw [h] at c1; simp at c1)
  have hsome : ∀ k (h : k < l.length), top ≤ l[k] → (if recOK l = true then (bs (recB l), (0 : Int)) else (ByteArray.empty, 1)) = (ByteArray.empty, 1) := fun k h ht => by
    rw [if_neg]; rw [hq]
    have : (l.any fun n => decide (top ≤ n)) = true := List.any_eq_true.2 ⟨l[k], List.getElem_mem h, by simpa using ht⟩
    rw [this]; simp
  have hall : (∀ k (h : k < l.length), l[k] < top) → (if recOK l = true then (bs (recB l), (0 : Int)) else (ByteArray.empty, 1)) = (bs (recB l), 0) := fun h => by
    rw [if_pos]; rw [hq]
    have : (l.any fun n => decide (top ≤ n)) = false := List.any_eq_false.2 fun x hx => by
      obtain ⟨k, hk, rfl⟩ := List.getElem_of_mem hx
      have := h k hk; simp; omega
    simp only [c1, c2, decide_false, this]; rfl
  refine ACall.enter (args := [.slice (some ⟨b0, off, none⟩) l.length cap]) (rs := [.tmp 2, .tmp 3]) 29 [(0, .slice (some ⟨b0, off, none⟩) l.length cap)] Try.func41 rfl rfl (Nat.le_of_ble_eq_true rfl) rfl ⟨rfl, trivial⟩ ?_
  refine AWP.seq ?_
  refine AWP.region ?_
  refine rC (Calm.assign rfl) ?_
  refine rC (Calm.assign rfl) ?_
  refine arun_nil ?_
  refine athen_n ?_
  refine AWP.seq ?_
  refine AWP.seq ?_
  refine AWP.region ?_
  refine rC (Calm.move rfl) ?_
  refine rC (Calm.lenSl Try.underlying49 rfl) ?_
  refine rC (Calm.bin rfl rfl b_lss) ?_
  refine rC (Calm.move rfl) ?_
  first | refine rS 10 ?_ | refine rU 10 ?_ | refine rG 10 (Calm.move rfl) ?_
  first | refine rS 10 ?_ | refine rU 10 ?_ | refine rG 10 (Calm.lenSl Try.underlying49 rfl) ?_
  first | refine rS 10 ?_ | refine rU 10 ?_ | refine rG 10 (Calm.bin rfl rfl b_gtr) ?_
  refine rC ((by first | exact Calm.pickT rfl rfl | exact Calm.pickF rfl rfl)) ?_
  refine arun_nil ?_
  refine athen_n ?_
  refine AWP.sub [(0, _), (2, _), (3, _), (14, _)] ⟨rfl, rfl, rfl, rfl, trivial⟩ ?_
  refine AWP.condF rfl (by first | rfl | (simp; done) | (simp; omega)) ?_
  refine AWP.skip ?_
  refine athen_n ?_
  refine AWP.seq ?_
  refine AWP.region ?_
  refine rC (Calm.assign rfl) ?_
  refine arun_nil ?_
  refine athen_n ?_
  refine AWP.seq ?_
  refine AWP.seq ?_
  refine AWP.region ?_
  refine rC (Calm.move rfl) ?_
  refine rC (Calm.lenSl Try.underlying49 rfl) ?_
  refine rC (Calm.move rfl) ?_
  refine arun_nil ?_
  refine athen_n ?_
  refine AWP.block ?_
  refine AWP.loop (X := Nat) (fun x => [(4, .string (bs (recB (l.take x)))), (15, .slice (some ⟨b0, off, none⟩) l.length cap), (16, .int .i64 l.length), (17, .int .i64 x)]) (fun x => S) (fun x => x ≤ l.length ∧ ∀ k (h : k < l.length), k < x → l[k] < top) (fun x => l.length - x) (0) ⟨rfl, rfl, rfl, rfl, trivial⟩ (Mem.Less.refl _) (⟨Nat.zero_le _, fun _ _ h => absurd h (Nat.not_lt_zero _)⟩) ?_
  rintro k ⟨hk1, hk2⟩
  (try dsimp only at *)
  refine AWP.seq ?_
  refine AWP.region ?_
  refine rC (Calm.bin rfl rfl b_lss) ?_
  refine arun_nil ?_
  refine athen_n ?_
  refine AWP.seq ?_
  refine AWP.condB rfl (fun hl => ?_) (fun hl => ?_)
  · have hl : k < l.length := by have := of_decide_eq_true hl; omega
    have hkk := hkn k hl
    refine AWP.skip ?_
    refine athen_n ?_
    refine AWP.seq ?_
    refine AWP.block ?_
    refine AWP.seq ?_
    refine AWP.region ?_
    refine rC (Calm.indexS Try.underlying49 ty_size_24 rfl rfl (by omega) (by omega)) ?_
    refine rC (ld_ ty_plain_24 rfl) ?_
    refine rC (Calm.assign rfl) ?_
    refine arun_nil ?_
    refine athen_n ?_
    refine AWP.sub [(4, _), (15, _), (16, _), (17, _), (18, _), (6, _)] ⟨rfl, rfl, rfl, rfl, rfl, rfl, trivial⟩ ?_
    refine AWP.seq ?_
    refine AWP.seq ?_
    refine AWP.region ?_
    refine rC (Calm.move rfl) ?_
    refine rC (Calm.bin rfl rfl b_geq) ?_
    refine arun_nil ?_
    refine athen_n ?_
    refine AWP.sub [(4, _), (15, _), (16, _), (17, _), (18, _), (6, _), (22, _)] ⟨rfl, rfl, rfl, rfl, rfl, rfl, rfl, trivial⟩ ?_
    refine AWP.condB rfl (fun hc => ?_) (fun hc => ?_)
    · refine AWP.seq ?_
      refine AWP.region ?_
      refine rC (Calm.assign rfl) ?_
      refine rC (Calm.assign rfl) ?_
      refine arun_nil ?_
      refine athen_n ?_
      refine AWP.ret ?_
      refine athen_ret ?_
      refine ain_ret ?_
      refine athen_ret ?_
      refine athen_ret ?_
      refine ain_ret ?_
      refine athen_ret ?_
      refine ⟨_, S, ⟨_, _, rfl, ⟨_, _, rfl, rfl, rfl⟩, rfl⟩, less_, ?_⟩
      exact ⟨by rw [hsome k hl (by have := of_decide_eq_true hc; unfold top; omega)]; rfl, rfl⟩
    · have hc : l[k] < top := by have := of_decide_eq_false hc; unfold top; omega
      refine AWP.skip ?_
      refine athen_n ?_
      refine AWP.region ?_
      refine rC (Calm.move rfl) ?_
      refine rC (Calm.move rfl) ?_
      refine ARun.call (lit_lt rfl) go_59 rfl (rnumV_Five l[k] S (hb _ (List.getElem_mem _))) ?_
      rintro _ S1 ⟨rfl, h1⟩
      rw [h1]; clear h1 S1
      have hr := recB_length (l.take k)
      have hr5 := five_length l[k]
      rw [List.length_take] at hr
      refine rC (Calm.bin rfl rfl (bin_str_add (by rw [bs_size, bs_size]; omega))) ?_
      rw [bs_append, ← recB_snoc, ← List.take_succ_eq_append_getElem hl]
      refine rC (Calm.assign rfl) ?_
      refine arun_nil ?_
      refine ain_n ?_
      refine athen_n ?_
      refine AWP.sub [(4, _), (15, _), (16, _), (17, _), (18, _), (6, _), (22, _)] ⟨rfl, rfl, rfl, rfl, rfl, rfl, rfl, trivial⟩ ?_
      refine AWP.region ?_
      refine rC (Calm.bin rfl rfl b_add_i64) ?_
      refine rC (Calm.move rfl) ?_
      refine arun_nil ?_
      refine athen_n ?_
      refine ⟨k + 1, ?_, ?_, ?_, ?_⟩
      all_goals (try dsimp only)
      · exact ⟨rfl, rfl, rfl, some_int (by omega), trivial⟩
      · exact Mem.Less.refl _
      · exact ⟨hl, fun j hj hj2 => by rcases Nat.lt_or_ge j k with h | h; exact hk2 j hj h; obtain rfl : j = k := (by omega); exact hc⟩
      · omega
  · have hl : k = l.length := by have := of_decide_eq_false hl; omega
    subst hl
    rw [List.take_length]
    refine AWP.exit ?_
    refine athen_exit ?_
    refine athen_exit ?_
    refine ain_same ?_
    refine athen_n ?_
    refine AWP.seq ?_
    refine AWP.region ?_
    refine rC (Calm.move rfl) ?_
    refine rC (Calm.assign rfl) ?_
    refine rC (Calm.assign rfl) ?_
    refine arun_nil ?_
    refine athen_n ?_
    refine AWP.sub [(4, _), (15, _), (16, _), (17, _), (18, _), (2, _), (3, _)] ⟨rfl, rfl, rfl, rfl, rfl, rfl, rfl, trivial⟩ ?_
    refine AWP.ret ?_
    refine ⟨_, S, ⟨_, _, rfl, ⟨_, _, rfl, rfl, rfl⟩, rfl⟩, less_, ?_⟩
    exact ⟨by rw [hall (fun k h => hk2 k h h)]; rfl, rfl⟩
end Go.Proofs.Ytpeljbmbgjeomaa
