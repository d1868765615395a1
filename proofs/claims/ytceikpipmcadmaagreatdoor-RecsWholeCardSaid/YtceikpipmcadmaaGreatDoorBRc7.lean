/-
  Texts that belong together: RecMath3, RecLv0, RecLv, RecR1, RecR2, VNum7, RecR3, RecR4, DiskOpen, RecL1, Laid, RecMath4, RecL2.
-/
import Derived.Test.YtceikpipmcadmaaGreatDoorBRc6
import Derived.Test.YtceikpipmcadmaaGreatDoorRows
import Derived.LaidLaws
import Derived.LaidMore
import Derived.MakeChecks
import Derived.LaidByTextLater
import Derived.Stop.Joined
import Derived.ProofKit
set_option linter.unusedVariables false
set_option linter.unusedSimpArgs false
set_option linter.unusedSectionVars false
namespace Go.Proofs.YtceikpipmcadmaaGreatDoor
open Go.RowKit
open Mv Disk Num
namespace Rec
/-- Of a write that went well: the body's sectors wait, ahead of the seal. -/
theorem put_steps {d : D} {s : ByteArray} {w c : Nat} {body : ByteArray} (h : (putP d s w c body).2 = 0) :
  (newD d s (needN w c:Nat)).2=0∧(putTo (newD d s (needN w c:Nat)).1 s (padS body) (needN w c-1)).2=0∧putP d s w c body=sealD (putTo (newD d s (needN w c:Nat)).1 s (padS body) (needN w c-1)).1 s (headS w c):=by
 unfold putP at h ⊢
 by_cases q1:(newD d s (needN w c:Nat)).2=0
 ·rw [if_neg (by omega)] at h ⊢
  by_cases q2:(putTo (newD d s (needN w c:Nat)).1 s (padS body) (needN w c-1)).2=0
  ·rw [if_neg (by omega)];exact ⟨q1,q2,rfl⟩
  ·rw [if_pos q2] at h;exact absurd h q2
 ·rw [if_pos q1] at h;exact absurd h q1
theorem put_law {d : D} {s : ByteArray} {w c : Nat} {body : ByteArray} (hR : Right d) (hdn : d.down = false) (hf : d.fuse ≤ 9223372036854775807) (hk : w ≤ 8) (hc : c ≤ 65536) (hb : body.size = eachN w * c) (h : (putP d s w c body).2 = 0) :
  ∃ z,putP d s w c body=(z,0)∧Right z∧z.down=false∧z.fuse≤9223372036854775807∧z.waits = []∧FileR z s w c body ∧ ∀ o k,o≠s→readO z o k=readO d o k:=by
 obtain ⟨q1,q2,q3⟩:=put_steps h
 rw [q3] at h ⊢
 have hn1:=needN_pos w c
 obtain ⟨hR1,hd1,hf1,_⟩:=(new_law (s:=s) (n:=((needN w c:Nat):Int)) hR hdn).2 q1
 have hf1:(newD d s (needN w c:Nat)).1.fuse≤9223372036854775807:=by rw [hf1];exact hf
 obtain ⟨kR,kf,kd⟩:=putTo_keep hR1 hd1 hf1 s (padS body) (needN w c-1)
 have kd:=kd q2
 obtain ⟨f,f0,f1,e⟩:=putTo_yes (s:=s) (all:=padS body) hR hdn hf q1 _ q2
 rw [e] at kR kf kd h ⊢
 obtain ⟨x1,x2⟩:=exOf_new hR q1
 obtain ⟨z,z1,z2,z3,z4,z5,z6,z7⟩:=sealed (w:=w) (c:=c) (body:=body) kR kd kf (show has (newD d s (needN w c:Nat)).1.ext s=true from x2) (by
  show sec (exOf (newD d s (needN w c:Nat)).1.ext s)=_
  rw [x1];unfold sec;simp only;rw [zeros_size,Int.toNat_natCast];omega) (fun i hi=>by
  rw [seen_put hR q1,if_pos ⟨rfl,by omega,by omega⟩]
  rw [show (((i+1:Nat):Int)).toNat-1=i from by omega]) h
 refine ⟨z,z1,z2,z3,z4,z5,z6,fun o k ho=>(z7 o k ho).trans ?_⟩
 rw [read_ok kR kd,read_ok hR hdn]
 have hp:(placeD (putE' d s (padS body) (needN w c:Nat) (needN w c-1) f) o k).2=(placeD d o k).2:=place_other hR q1 ho k
 rw [hp]
 by_cases hp0:(placeD d o k).2=0
 ·rw [if_neg (by simpa using hp0),if_neg (by simpa using hp0),seen_put hR q1,if_neg (fun h=>ho h.1),seen_other hR q1 ho hp0]
 ·rw [if_pos hp0,if_pos hp0]
theorem padS_data (s : ByteArray) : (padS s).data.toList = s.data.toList ++ List.replicate ((64 - s.size % 64) % 64) 0 := bs_data _
theorem headS_list (w c : Nat) : (headS w c).data.toList = (preS w c ++ Crc.tailS (sumOf (preS w c))).data.toList ++ List.replicate 52 0 := by
 unfold headS
 have h8:(preS w c).size=8:=by unfold preS;rw [size_bs];rfl
 rw [padS_data,ByteArray.size_append,h8,Crc.tailS_size]
theorem headS_take (w c : Nat) : (headS w c).extract 0 12 = preS w c ++ Crc.tailS (sumOf (preS w c)) := by
 have h8:(preS w c).size=8:=by unfold preS;rw [size_bs];rfl
 apply str_ext
 rw [Lib.extract_data,headS_list]
 have hl:(preS w c ++ Crc.tailS (sumOf (preS w c))).data.toList.length=12:=by rw [St.len_list,ByteArray.size_append,h8,Crc.tailS_size]
 rw [List.drop_zero,List.take_append_of_le_length (by omega),List.take_of_length_le (by omega)]
theorem form_head {w c : Nat} (hk : w ≤ 8) (hc : c ≤ 65536) : formP (headS w c) = (w, c, 0) := by
 have hl:(headS w c).data.toList = [87,82,UInt8.ofNat w] ++ five c ++ (Crc.tailS (sumOf (preS w c))).data.toList ++ List.replicate 52 0:=by
  rw [headS_list]
  have:(preS w c ++ Crc.tailS (sumOf (preS w c))).data.toList=(preS w c).data.toList ++ (Crc.tailS (sumOf (preS w c))).data.toList:=by simp
  rw [this]
  unfold preS
  rw [bs_data]
 have h5:(five c).length=5:=rfl
 have h4:(Crc.tailS (sumOf (preS w c))).data.toList.length=4:=by rw [St.len_list,Crc.tailS_size]
 have hw:(UInt8.ofNat w).toNat=w:=by rw [UInt8.toNat_ofNat'];omega
 have hop:openS ((headS w c).extract 0 12)=(preS w c,0):=by
  rw [headS_take]
  exact Crc.open_ok (preS w c) (by unfold preS;rw [size_bs];show 8≤65536;decide)
 have g3:(headS w c).data.toList.drop 12=List.replicate 52 0:=by
  rw [hl,List.drop_append,List.drop_of_length_le (by simp only [List.length_append,h4,h5,List.length_cons,List.length_nil];omega)]
  simp only [List.length_append,h4,h5,List.length_cons,List.length_nil]
  rfl
 unfold formP
 rw [if_neg,hop,if_neg (by simp)]
 ·refine Prod.ext ?_ (Prod.ext ?_ rfl)
  ·show ((headS w c).data.toList.getD 2 0).toNat=w
   rw [hl];exact hw
  ·show ofB (((headS w c).data.toList.drop 3).take 5)=c
   rw [hl]
   show ofB ((five c ++ (Crc.tailS (sumOf (preS w c))).data.toList ++ List.replicate 52 0).take 5)=c
   rw [List.append_assoc,List.take_append_of_le_length (by rw [h5];omega),List.take_of_length_le (by rw [h5];omega)]
   exact ofB_five c (by unfold top;omega)
 ·rintro (h | h | h)
  ·exact h (by rw [hl];rfl)
  ·rw [hl] at h
   have h:8<(UInt8.ofNat w).toNat:=h
   omega
  ·rw [g3] at h;revert h;decide
theorem file_head {z : D} {s : ByteArray} {w c : Nat} {body : ByteArray} (hk : w ≤ 8) (hc : c ≤ 65536) (h : FileR z s w c body) : headP z s = (w, c, 0) := by
 unfold headP
 rw [h.head,if_neg (by simp),form_head hk hc,if_neg (by simp),h.size,(need_iff hk).2 hc,if_neg (by simp)]
theorem file_bodyL {z : D} {s : ByteArray} {w c : Nat} {body : ByteArray} (hb : body.size = eachN w * c) (h : FileR z s w c body) : ∀ k, k ≤ needN w c - 1 → bodyL z s k = (padS body).data.toList.take (64 * k)
 | 0,_=>rfl
 | k+1,hk=>by
  have hall:(padS body).size=64*(needN w c-1):=by rw [padS_size,hb];unfold needN;omega
  rw [bodyL,file_bodyL hb h k (by omega),h.secs k (by omega)]
  unfold secAt
  show _ ++ ((padS body).extract (64*k) (64*k+64)).data.toList=_
  rw [Lib.extract_data,show 64*(k+1)=64*k+64 from by omega,show 64*k+64-64*k=64 from by omega,List.take_add]
theorem file_body {z : D} {s : ByteArray} {w c : Nat} {body : ByteArray} (hk : w ≤ 8) (hc : c ≤ 65536) (hb : body.size = eachN w * c) (h : FileR z s w c body) : bodyP z s (decide (w = 0)) = (w, body, 0) := by
 have hall:(padS body).size=64*(needN w c-1):=by rw [padS_size,hb];unfold needN;omega
 have hl:=file_bodyL hb h (needN w c-1) (Nat.le_refl _)
 rw [List.take_of_length_le (by rw [St.len_list,hall];exact Nat.le_refl _),padS_data] at hl
 have hbl:body.data.toList.length=eachN w*c:=by rw [St.len_list,hb]
 unfold bodyP
 rw [file_head hk hc h]
 simp only [hl,← hbl,List.drop_left,List.take_left]
 rw [if_neg (by simp),if_neg (by simp),if_neg]
 ·rw [bs_of]
 ·unfold zeroL;simp
end Rec
end Go.Proofs.YtceikpipmcadmaaGreatDoor
namespace Go.Proofs.YtceikpipmcadmaaGreatDoor
open Go.RowKit
open Mv Disk Num
namespace Rec
def r0 : D := ⟨6, [], [], -1, false⟩
def lA : List (List Nat) := [[5], [300]]
def tB : ByteArray := ⟨#[120, 121, 122]⟩
noncomputable def p1 : D × Int := putP r0 nA 1 2 (bs (lA.flatMap recB))
noncomputable def p2 : D × Int := putP p1.1 nB 0 3 tB
theorem right_r0 : Right r0 := ⟨by decide, by decide, by decide, by decide, ⟨fun x h => (by cases h), List.Pairwise.nil, by decide⟩, fun w h => (by cases h)⟩
set_option maxRecDepth 100000 in
theorem p1_ok : p1.2 = 0 := by decide +kernel
set_option maxRecDepth 100000 in
theorem p2_ok : p2.2 = 0 := by decide +kernel
theorem nAB : nA ≠ nB := by decide
theorem law1 : ∃ z, p1 = (z, 0) ∧ Right z ∧ z.down = false ∧ z.fuse ≤ 9223372036854775807 ∧ z.waits = [] ∧ FileR z nA 1 2 (bs (lA.flatMap recB)) ∧ ∀ o k, o ≠ nA → readO z o k = readO r0 o k :=
 put_law right_r0 rfl (by decide) (by decide) (by decide) (by decide) p1_ok
theorem right1 : Right p1.1 ∧ p1.1.down = false ∧ p1.1.fuse ≤ 9223372036854775807 := by
 obtain ⟨z,e,h1,h2,h3,_⟩:=law1
 rw [e];exact ⟨h1,h2,h3⟩
theorem law2 : ∃ z, p2 = (z, 0) ∧ Right z ∧ z.down = false ∧ z.fuse ≤ 9223372036854775807 ∧ z.waits = [] ∧ FileR z nB 0 3 tB ∧ ∀ o k, o ≠ nB → readO z o k = readO p1.1 o k :=
 put_law right1.1 right1.2.1 right1.2.2 (by decide) (by decide) (by decide) p2_ok
theorem right2 : Right p2.1 ∧ p2.1.down = false ∧ p2.1.fuse ≤ 9223372036854775807 := by
 obtain ⟨z,e,h1,h2,h3,_⟩:=law2
 rw [e];exact ⟨h1,h2,h3⟩
set_option maxRecDepth 100000 in
theorem sec2 : has p2.1.ext nA = true ∧ sec (exOf p2.1.ext nA) = 2 := by decide +kernel
theorem fileA : FileR p2.1 nA 1 2 (bs (lA.flatMap recB)) := by
 obtain ⟨z,e,h1,h2,h3,h4,h5,h6⟩:=law1
 obtain ⟨y,g,g1,g2,g3,g4,g5,g6⟩:=law2
 have e1:p1.1=z:=by rw [e]
 have e2:p2.1=y:=by rw [g]
 have hrd:∀ k,readO p2.1 nA k=readO z nA k:=fun k=>by rw [e2,g6 nA k nAB,e1]
 refine ⟨(hrd 0).trans h5.head,fun i hi=>(hrd _).trans (h5.secs i hi),?_⟩
 rw [sectors_sec right2.1 right2.2.1 sec2.1,sec2.2];rfl
theorem fileB : FileR p2.1 nB 0 3 tB := by
 obtain ⟨y,g,g1,g2,g3,g4,g5,g6⟩:=law2
 rw [g];exact g5
theorem s1 : writeP r0 nA 1 lA = (p1.1, 0) := by
 unfold writeP
 rw [if_neg (by decide),if_pos (by decide),opened_ok right_r0 rfl]
 have h:=p1_ok
 unfold p1 at h ⊢
 rw [show (1:Int).toNat=1 from rfl,show lA.length=2 from rfl]
 generalize putP r0 nA 1 2 (bs (lA.flatMap recB))=q at *
 exact Prod.ext rfl h
theorem s2 : writeTextP p1.1 nB tB = (p2.1, 0) := by
 unfold writeTextP
 rw [if_neg (by decide),opened_ok right1.1 right1.2.1]
 have h:=p2_ok
 unfold p2 at h ⊢
 rw [show tB.size=3 from rfl]
 generalize putP p1.1 nB 0 3 tB=q at *
 exact Prod.ext rfl h
theorem s3 : headP p2.1 nA = (1, 2, 0) := file_head (by decide) (by decide) fileA
theorem s4 : readRP p2.1 nA = (1, lA, 0) := by
 have h:=file_body (by decide) (by decide) (by decide) fileA
 rw [show decide ((1:Nat)=0)=false from rfl] at h
 unfold readRP
 rw [h,if_neg (by simp)]
 decide +kernel
theorem s5 : readTP p2.1 nB = (tB, 0) := by
 have h:=file_body (by decide) (by decide) (by decide) fileB
 rw [show decide ((0:Nat)=0)=true from rfl] at h
 unfold readTP
 rw [h]
theorem s6 : readRP p2.1 nB = (0, [], 7) := by
 have h:=file_head (by decide) (by decide) fileB
 have e:bodyP p2.1 nB false=(0,ByteArray.empty,7):=by
  unfold bodyP
  rw [h,if_neg (by simp),if_pos (by decide)]
 unfold readRP
 rw [e,if_pos (by simp)]
theorem s7 : needP 8 2 = (3, 0) := by decide
theorem s8 : writeP p2.1 nC 1 [[1, 2]] = (p2.1, 1) := by
 unfold writeP
 rw [if_neg (by decide),if_neg (by decide)]
 unfold refD
 rw [open_ok right2.1 right2.2.1]
end Rec
end Go.Proofs.YtceikpipmcadmaaGreatDoor
namespace Go.Proofs.YtceikpipmcadmaaGreatDoor
open Go.RowKit
open Mv Disk Num
set_option maxRecDepth 4000
namespace Rec
theorem row_own {S : Mem} {b : Nat} {e : TypeId} {l : List Nat} {k : Nat} (h : S.own b = some ⟨e, l.map (fun n : Nat => Value.int .u64 (n : Int)), k⟩) (hk : l.length ≤ k) (hl : l.length ≤ 9223372036854775807) : RowR S (.slice (some ⟨b, 0, none⟩) l.length k) l :=
 Sl.own1 h List.prefix_rfl rfl hk hl
theorem rowsA {S : Mem} {b1 b2 b3 : Nat} {e1 e2 e3 : TypeId} (h1 : S.own b1 = some ⟨e1, [.int .u64 5], 1⟩) (h2 : S.own b2 = some ⟨e2, [.int .u64 300], 1⟩) (h3 : S.own b3 = some ⟨e3, [.slice (some ⟨b1, 0, none⟩) 1 1, .slice (some ⟨b2, 0, none⟩) 1 1], 2⟩) :
  SlOf RowR S (.slice (some ⟨b3,0,none⟩) 2 2) lA:=by
 have r1:RowR S (.slice (some ⟨b1,0,none⟩) 1 1) [5]:=row_own (l:=[5]) h1 (Nat.le_refl _) (by decide)
 have r2:RowR S (.slice (some ⟨b2,0,none⟩) 1 1) [300]:=row_own (l:=[300]) h2 (Nat.le_refl _) (by decide)
 refine ⟨[.slice (some ⟨b1,0,none⟩) 1 1,.slice (some ⟨b2,0,none⟩) 1 1],rfl,?_,?_⟩
 ·exact Sl.own1 (g:=fun x:Value=>x) (r:=⟨e3,[.slice (some ⟨b1,0,none⟩) 1 1,.slice (some ⟨b2,0,none⟩) 1 1],2⟩) h3 (by rw [List.map_id'];exact List.prefix_rfl) rfl (by decide) (by decide)
 ·intro i hi hi'
  match i,hi with
  | 0,_=>exact r1
  | 1,_=>exact r2
theorem rowsC {S : Mem} {b1 b3 : Nat} {e1 e3 : TypeId} (h1 : S.own b1 = some ⟨e1, [.int .u64 1, .int .u64 2], 2⟩) (h3 : S.own b3 = some ⟨e3, [.slice (some ⟨b1, 0, none⟩) 2 2], 1⟩) :
  SlOf RowR S (.slice (some ⟨b3,0,none⟩) 1 1) [[1,2]]:=by
 have r1:RowR S (.slice (some ⟨b1,0,none⟩) 2 2) [1,2]:=row_own (l:=[1,2]) h1 (Nat.le_refl _) (by decide)
 refine ⟨[.slice (some ⟨b1,0,none⟩) 2 2],rfl,?_,?_⟩
 ·exact Sl.own1 (g:=fun x:Value=>x) (r:=⟨e3,[.slice (some ⟨b1,0,none⟩) 2 2],1⟩) h3 (by rw [List.map_id'];exact List.prefix_rfl) rfl (by decide) (by decide)
 ·intro i hi hi'
  match i,hi with
  | 0,_=>exact r1
theorem less_under {M : Mem} {x a b c : Nat} {X A B C : Blk} (hx : M.own x = none) : (((M.set a A).set b B).set c C).Less ((((M.set x X).set a A).set b B).set c C) :=
 ⟨fun k r hk=>by
  by_cases h1:k=c
  ·subst h1;rw [Mem.own_set_same] at hk ⊢;exact hk
  rw [Mem.own_set_other _ _ h1] at hk ⊢
  by_cases h2:k=b
  ·subst h2;rw [Mem.own_set_same] at hk ⊢;exact hk
  rw [Mem.own_set_other _ _ h2] at hk ⊢
  by_cases h3:k=a
  ·subst h3;rw [Mem.own_set_same] at hk ⊢;exact hk
  rw [Mem.own_set_other _ _ h3] at hk ⊢
  rw [Mem.own_set_other _ _ (fun e=>by rw [e,hx] at hk;cases hk)];exact hk,rfl⟩
set_option maxHeartbeats 4000000 in
theorem rec_lives (S : Mem) : ACall Tryz.prog 17 #[] S fun r S' => r = .bool true ∧ S' = S := by
 have dz0:Dz r0:=dz_right right_r0 (by decide)
 have dz1:Dz p1.1:=dz_right right1.1 right1.2.2
 have dz2:Dz p2.1:=dz_right right2.1 right2.2.2
 have c0:∀ S,ACall Tryz.prog 48 #[.int .i64 6] S (DkRes (r0,0) S):=fun S=>by have:=disk_Make 6 S;rw [show makeD 6=(r0,0) from rfl] at this;exact this
 have c1:=fun v vl S hd hl=>rec_Write v r0 nA 1 lA vl S hd dz0 hl (by decide)
 have c2:=fun v S hd=>rec_WriteText v p1.1 nB tB S hd dz1
 have c3:=fun v S hd=>rec_Head v p2.1 nA S hd dz2
 have c4:=fun v S hd=>rec_Read v p2.1 nA S hd dz2
 have c5:=fun v S hd=>rec_ReadText v p2.1 nB S hd dz2
 have c6:=fun v S hd=>rec_Read v p2.1 nB S hd dz2
 have c7:=fun S=>rec_Need 8 2 S
 have c8:=fun v vl S hd hl=>rec_Write v p2.1 nC 1 [[1,2]] vl S hd dz2 hl (by decide)
 rw [s1] at c1;rw [s2] at c2;rw [s3] at c3;rw [s4] at c4;rw [s5] at c5;rw [s6] at c6;rw [s7] at c7;rw [s8] at c8
 simp only [formV] at c3
 simp only [needV] at c7
 clear dz0 dz1 dz2
 generalize p1.1=y1 at *
 generalize p2.1=y2 at *
 refine ACall.enter (rs:=[.tmp 0]) 145 [] Tryz.func17 rfl rfl (Nat.le_of_ble_eq_true rfl) rfl trivial ?_
 iterate 7 refine s1_ ?_
 refine ca_ rfl (c0 _) ?_
 rintro _ M1 ⟨v1,rfl,hl1,hk1⟩
 obtain ⟨qe1,de1,qw1,dw1,rfl,_⟩:=id hk1
 iterate 3 refine s1_ ?_
 refine ARun.alloc (lit_lt rfl) ty_zero_25 ?_
 intro b1 f1
 have g1:=f1
 repeat ((with_reducible replace g1:=fresh_set g1);obtain ⟨g1,_⟩:=g1)
 refine nl_ ?_
 iterate 4 refine s1_ ?_
 refine su_ [(0,_),(1,_),(2,_)] ?_
 iterate 3 refine s1_ ?_
 refine ARun.build1s (lit_lt rfl) ty_sl_69 rfl rfl ?_
 intro b26 f26
 have g26:=f26
 repeat ((with_reducible replace g26:=fresh_set g26);obtain ⟨g26,_⟩:=g26)
 refine ARun.build1s (lit_lt rfl) ty_sl_69 rfl rfl ?_
 intro b27 f27
 have g27:=f27
 repeat ((with_reducible replace g27:=fresh_set g27);obtain ⟨g27,_⟩:=g27)
 refine ARun.buildN (cs:=[_,_]) (lit_lt rfl) ty_sl_26 rfl rfl rfl rfl ?_
 intro b28 f28
 have g28:=f28
 repeat ((with_reducible replace g28:=fresh_set g28);obtain ⟨g28,_⟩:=g28)
 have n1:=g1.1
 refine ca_ rfl ((c1 _ _ (((M1.set b26 _).set b27 _).set b28 _) (hk1.less less_) (rowsA (b1:=b26) (b2:=b27) (b3:=b28) own_ own_ own_)).over (less_under g1.1)) ?_
 rintro _ T2 ⟨M2,⟨v2,rfl,hl2,hk2⟩,hMT,hkeep⟩
 obtain ⟨o1,n1⟩:=hkeep b1 _ own_ own_
 obtain ⟨qe2,de2,qw2,dw2,rfl,_⟩:=id hk2
 have hS2:=hl1.trans ((show M1.Less _ from less_).trans hl2)
 iterate 7 refine s1_ ?_
 refine su_ [(0,_),(1,_),(2,_),(3,_)] ?_
 have hMT:=less_set_skip (r:=⟨25,[.int .i64 y1.size,.slice qe2 y1.ext.length de2,.slice qw2 y1.waits.length dw2,.int .i64 y1.fuse,.bool y1.down],5⟩) hMT n1
 have o1:=Mem.own_set_same T2 b1 ⟨25,[.int .i64 y1.size,.slice qe2 y1.ext.length de2,.slice qw2 y1.waits.length dw2,.int .i64 y1.fuse,.bool y1.down],5⟩
 generalize hT2:T2.set b1 _=U2 at *
 iterate 3 refine s1_ ?_
 refine ca_ rfl ((c2 _ M2 hk2).over hMT) ?_
 rintro _ T3 ⟨M3,⟨v3,rfl,hl3,hk3⟩,hMT,hkeep⟩
 obtain ⟨o1,n1⟩:=hkeep b1 _ n1 o1
 obtain ⟨qe3,de3,qw3,dw3,rfl,_⟩:=id hk3
 have hS3:=hS2.trans hl3
 iterate 7 refine s1_ ?_
 refine su_ [(0,_),(1,_),(2,_),(3,_),(4,_)] ?_
 have hMT:=less_set_skip (r:=⟨25,[.int .i64 y2.size,.slice qe3 y2.ext.length de3,.slice qw3 y2.waits.length dw3,.int .i64 y2.fuse,.bool y2.down],5⟩) hMT n1
 have o1:=Mem.own_set_same T3 b1 ⟨25,[.int .i64 y2.size,.slice qe3 y2.ext.length de3,.slice qw3 y2.waits.length dw3,.int .i64 y2.fuse,.bool y2.down],5⟩
 have hk3:=hk3.less hMT
 have hS3:=hS3.trans hMT
 generalize hT3:T3.set b1 _=U3 at *
 iterate 3 refine s1_ ?_
 refine ca_ rfl (c3 _ _ hk3) ?_
 rintro _ Sx ⟨rfl,h1⟩
 rw [h1];clear h1 Sx
 iterate 9 refine s1_ ?_
 refine su_ [(0,_),(1,_),(2,_),(3,_),(4,_),(5,_),(6,_),(7,_)] ?_
 iterate 3 refine s1_ ?_
 refine ca_ rfl (c4 _ _ hk3) ?_
 rintro _ T5 ⟨v5,rfl,hl5,hv5⟩
 have hS3:=hS3.trans hl5
 have hk3:=hk3.less hl5
 have o1:=hl5.own o1
 iterate 9 refine s1_ ?_
 refine su_ [(0,_),(1,_),(2,_),(3,_),(4,_),(5,_),(6,_),(7,_),(8,_),(9,_),(10,_)] ?_
 iterate 3 refine s1_ ?_
 refine ca_ rfl (c5 _ _ hk3) ?_
 rintro _ Sx ⟨rfl,h1⟩
 rw [h1];clear h1 Sx
 iterate 7 refine s1_ ?_
 refine su_ [(0,_),(1,_),(2,_),(3,_),(4,_),(5,_),(6,_),(7,_),(8,_),(9,_),(10,_),(11,_),(12,_)] ?_
 iterate 3 refine s1_ ?_
 refine ca_ rfl (c6 _ _ hk3) ?_
 rintro _ T7 ⟨v7,rfl,hl7,hv7⟩
 have hS3:=hS3.trans hl7
 have hk3:=hk3.less hl7
 have o1:=hl7.own o1
 have hv5:=hv5.less rowR_less hl7
 iterate 9 refine s1_ ?_
 refine su_ [(0,_),(1,_),(2,_),(3,_),(4,_),(5,_),(6,_),(7,_),(8,_),(9,_),(10,_),(11,_),(12,_),(15,_)] ?_
 iterate 2 refine s1_ ?_
 refine ca_ rfl (c7 _) ?_
 rintro _ Sx ⟨rfl,h1⟩
 rw [h1];clear h1 Sx
 iterate 7 refine s1_ ?_
 refine su_ [(0,_),(1,_),(2,_),(3,_),(4,_),(5,_),(6,_),(7,_),(8,_),(9,_),(10,_),(11,_),(12,_),(15,_),(16,_),(17,_)] ?_
 iterate 3 refine s1_ ?_
 refine ARun.buildN (cs:=[_,_]) (lit_lt rfl) ty_sl_69 rfl rfl rfl rfl ?_
 intro b66 f66
 have g66:=f66
 repeat ((with_reducible replace g66:=fresh_set g66);obtain ⟨g66,_⟩:=g66)
 refine ARun.build1s (lit_lt rfl) ty_sl_26 rfl rfl ?_
 intro b67 f67
 have g67:=f67
 repeat ((with_reducible replace g67:=fresh_set g67);obtain ⟨g67,_⟩:=g67)
 refine ca_ rfl (c8 _ _ _ (hk3.less less_) (rowsC (b1:=b66) (b3:=b67) own_ own_)) ?_
 rintro _ T9 ⟨v9,rfl,hl9,hk9⟩
 have hS3:=hS3.trans ((show T7.Less _ from less_).trans hl9)
 have hv5:=hv5.less rowR_less ((show T7.Less _ from less_).trans hl9)
 obtain ⟨qe9,de9,qw9,dw9,rfl,_⟩:=id hk9
 iterate 3 refine s1_ ?_
 refine ARun.alloc (lit_lt rfl) ty_zero_25 ?_
 intro b18 f18
 have g18:=f18
 repeat ((with_reducible replace g18:=fresh_set g18);obtain ⟨g18,_⟩:=g18)
 refine nl_ ?_
 iterate 4 refine s1_ ?_
 refine su_ [(0,_),(1,_),(2,_),(3,_),(4,_),(5,_),(6,_),(7,_),(8,_),(9,_),(10,_),(11,_),(12,_),(15,_),(16,_),(17,_),(19,_)] ?_
 obtain ⟨hs,hlen,⟨pa,ca,rfl,a1,a2,a3⟩,hae⟩:=hv5
 rw [show hs.length=2 from hlen]
 obtain ⟨h0,h1,rfl⟩ : ∃ h0 h1,hs = [h0,h1]:=by match hs,hlen with | [h0,h1],_=>exact ⟨h0,h1,rfl⟩
 obtain ⟨pb,po,rfl,hkn⟩:=a3.resolve_left (by simp)
 obtain ⟨xa,xc,hx1,x1,x2,x3⟩ : RowR T9 h1 [300]:=hae 1 (by decide) (by simp)
 have hk1:T9.Knows ⟨pb,po+1*1,none⟩ [h1]:=hkn 1 (by simp)
 have hx1:h1 = .slice xa 1 xc:=hx1
 subst hx1
 obtain ⟨xb,xo,rfl,hxk⟩:=x3.resolve_left (by simp)
 have hk0:T9.Knows ⟨xb,xo+0*1,none⟩ [.int .u64 300]:=hxk 0 (by simp)
 have hk1:=hk1.less (show T9.Less _ from less_)
 have hk0:=hk0.less (show T9.Less _ from less_)
 iterate 79 refine s1_ ?_
 refine su_ [(0,_),(1,_),(2,_),(3,_),(4,_),(5,_),(6,_),(7,_),(8,_),(9,_),(10,_),(11,_),(12,_),(15,_),(16,_),(17,_),(19,_)] ?_
 refine s1_ ?_
 refine ⟨_,S,⟨_,_,rfl,rfl,rfl⟩,hS3.trans less_,?_⟩
 exact ⟨rfl,rfl⟩
end Rec
end Go.Proofs.YtceikpipmcadmaaGreatDoor
namespace Go.Proofs.YtceikpipmcadmaaGreatDoor
open Go.RowKit
open Mv Disk Num
set_option maxRecDepth 4000
namespace Rec
theorem rr_each (w : Nat) (S : Mem) (hw : w ≤ 8) : ACall Tryz.prog 47 #[.int .i64 (w : Int)] S fun r S' => r = .int .i64 ((eachN w : Nat) : Int) ∧ S' = S := by
 unfold eachN
 by_cases h0:w=0
 ·subst h0
  refine ACall.enter (rs:=[.tmp 2]) 7 [(0,.int .i64 ((0:Nat):Int))] Tryz.func47 rfl rfl (Nat.le_of_ble_eq_true rfl) rfl ⟨rfl,trivial⟩ ?_
  iterate 12 refine s1_ ?_
  refine su_ [(0,_),(2,_),(4,_)] ?_
  refine cT_ ?_
  iterate 7 refine s1_ ?_
  refine ⟨_,S,⟨_,_,rfl,rfl,rfl⟩,less_,?_⟩
  exact ⟨rfl,rfl⟩
 ·rw [if_neg h0]
  refine ACall.enter (rs:=[.tmp 2]) 7 [(0,.int .i64 (w:Int))] Tryz.func47 rfl rfl (Nat.le_of_ble_eq_true rfl) rfl ⟨rfl,trivial⟩ ?_
  iterate 12 refine s1_ ?_
  refine su_ [(0,_),(2,_),(4,_)] ?_
  refine cF_ ?_
  iterate 9 refine s1_ ?_
  refine su_ [(0,_),(2,_),(4,_)] ?_
  refine s1_ ?_
  refine ⟨_,S,⟨_,_,rfl,rfl,rfl⟩,less_,?_⟩
  exact ⟨by rw [show ((5*w:Nat):Int)=5*(w:Int) from by omega];rfl,rfl⟩
theorem rr_Need (w : Int) (c : Nat) (S : Mem) : ACall Tryz.prog 16 #[.int .i64 w, .int .u64 (c : Int)] S fun r S' => r = needV (needP w c) ∧ S' = S := by
 unfold needV needP
 by_cases h1:w<0
 ·rw [if_pos (.inl h1)]
  refine ACall.enter (rs:=[.tmp 4,.tmp 5]) 25 [(0,.int .i64 w),(1,.int .u64 (c:Int))] Tryz.func16 rfl rfl (Nat.le_of_ble_eq_true rfl) rfl ⟨rfl,rfl,trivial⟩ ?_
  iterate 21 refine s1_ ?_
  refine su_ [(0,_),(1,_),(4,_),(5,_),(15,_)] ?_
  refine cT_ ?_
  iterate 8 refine s1_ ?_
  refine ⟨_,S,⟨_,_,rfl,⟨_,_,rfl,rfl,rfl⟩,rfl⟩,less_,?_⟩
  exact ⟨rfl,rfl⟩
 by_cases h2:8<w
 ·rw [if_pos (.inr (.inl h2))]
  refine ACall.enter (rs:=[.tmp 4,.tmp 5]) 25 [(0,.int .i64 w),(1,.int .u64 (c:Int))] Tryz.func16 rfl rfl (Nat.le_of_ble_eq_true rfl) rfl ⟨rfl,rfl,trivial⟩ ?_
  iterate 21 refine s1_ ?_
  refine su_ [(0,_),(1,_),(4,_),(5,_),(15,_)] ?_
  refine cT_ ?_
  iterate 8 refine s1_ ?_
  refine ⟨_,S,⟨_,_,rfl,⟨_,_,rfl,rfl,rfl⟩,rfl⟩,less_,?_⟩
  exact ⟨rfl,rfl⟩
 by_cases h3:65536<c
 ·rw [if_pos (.inr (.inr h3))]
  refine ACall.enter (rs:=[.tmp 4,.tmp 5]) 25 [(0,.int .i64 w),(1,.int .u64 (c:Int))] Tryz.func16 rfl rfl (Nat.le_of_ble_eq_true rfl) rfl ⟨rfl,rfl,trivial⟩ ?_
  iterate 21 refine s1_ ?_
  refine su_ [(0,_),(1,_),(4,_),(5,_),(15,_)] ?_
  refine cT_ ?_
  iterate 8 refine s1_ ?_
  refine ⟨_,S,⟨_,_,rfl,⟨_,_,rfl,rfl,rfl⟩,rfl⟩,less_,?_⟩
  exact ⟨rfl,rfl⟩
 rw [if_neg (by omega)]
 obtain ⟨k,rfl⟩:=Int.eq_ofNat_of_zero_le (by omega:0≤w)
 obtain ⟨m1,m2,m3⟩:=mul_le_each (k:=k) (c:=c) (by omega) (by omega)
 refine ACall.enter (rs:=[.tmp 4,.tmp 5]) 25 [(0,.int .i64 (k:Int)),(1,.int .u64 (c:Int))] Tryz.func16 rfl rfl (Nat.le_of_ble_eq_true rfl) rfl ⟨rfl,rfl,trivial⟩ ?_
 iterate 21 refine s1_ ?_
 refine su_ [(0,_),(1,_),(4,_),(5,_),(15,_)] ?_
 refine cF_ ?_
 iterate 5 refine s1_ ?_
 refine ca_ rfl (rr_each k S (by omega)) ?_
 rintro _ S1 ⟨rfl,h1⟩
 rw [h1];clear h1 S1
 iterate 11 refine s1_ ?_
 refine su_ [(0,_),(1,_),(4,_),(5,_),(15,_)] ?_
 refine s1_ ?_
 refine ⟨_,S,⟨_,_,rfl,⟨_,_,rfl,rfl,rfl⟩,rfl⟩,less_,?_⟩
 exact ⟨by rw [m3,Int.toNat_natCast,show (1+(((eachN k*c:Nat):Int)+64-1) / 64)=((needN k c:Nat):Int) from by unfold needN;omega];rfl,rfl⟩
theorem rr_padded (s : ByteArray) (S : Mem) (hs : s.size ≤ 140737488355328) : ACall Tryz.prog 95 #[.string s] S fun r S' => r = .string (padS s) ∧ S' = S := by
 have hzs:∀ j,(bs (s.data.toList ++ List.replicate j 0)).size=s.size+j:=fun j=>by rw [size_bs,List.length_append,List.length_replicate];exact congrArg (·+j) (Array.length_toList (xs:=s.data))
 have z1:(⟨#[0]⟩ : ByteArray).size=1:=rfl
 unfold padS
 refine ACall.enter (rs:=[.tmp 2]) 10 [(0,.string s)] Tryz.func95 rfl rfl (Nat.le_of_ble_eq_true rfl) rfl ⟨rfl,trivial⟩ ?_
 iterate 7 refine s1_ ?_
 refine AWP.loop (X:=Nat) (fun j=>[(0,.string (bs (s.data.toList ++ List.replicate j 0)))]) (fun j=>S) (fun j=>j≤(64-s.size % 64) % 64) (fun j=>(64-s.size % 64) % 64-j) (0) ⟨by rw [List.replicate_zero,List.append_nil,bs_of];rfl,trivial⟩ (Mem.Less.refl _) (Nat.zero_le _) ?_
 rintro j hj
 (try dsimp only at *)
 have hz:=hzs j
 by_cases hq:j=(64-s.size % 64) % 64
 ·iterate 9 refine s1_ ?_
  refine su_ [(0,_),(6,_)] ?_
  refine cF_ ?_
  iterate 11 refine s1_ ?_
  refine su_ [(0,_),(6,_),(2,_)] ?_
  refine s1_ ?_
  refine ⟨_,S,⟨_,_,rfl,rfl,rfl⟩,less_,?_⟩
  exact ⟨by rw [← hq];rfl,rfl⟩
 ·iterate 9 refine s1_ ?_
  refine su_ [(0,_),(6,_)] ?_
  refine cT_ ?_
  iterate 10 refine s1_ ?_
  refine ⟨j+1,?_,?_,?_,?_⟩
  all_goals (try dsimp only)
  ·exact ⟨by rw [show bs (s.data.toList ++ List.replicate (j+1) 0)=bs (s.data.toList ++ List.replicate j 0) ++ ⟨#[0]⟩ from by apply str_ext;rw [List.replicate_succ'];simp [bs]];rfl,trivial⟩
  ·exact less_
  ·omega
  ·omega
theorem rr_head (k c : Nat) (S : Mem) (hk : k ≤ 8) (hc : c < 18446744073709551616) : ACall Tryz.prog 98 #[.int .i64 (k : Int), .int .u64 (c : Int)] S fun r S' => r = .string (headS k c) ∧ S' = S := by
 have h5:(five c).length=5:=rfl
 have hp:((⟨#[87,82]⟩ : ByteArray) ++ bs [UInt8.ofNat k]) ++ bs (five c)=preS k c:=by
  unfold preS
  apply str_ext
  simp [bs]
 have hsz:(preS k c).size=8:=by unfold preS;rw [size_bs];simp [h5]
 have hfr:frameS (preS k c)=(preS k c ++ Crc.tailS (sumOf (preS k c)),0):=by unfold frameS;rw [if_neg (by omega)]
 have hfs:(preS k c ++ Crc.tailS (sumOf (preS k c))).size=12:=by rw [ByteArray.size_append,hsz,Crc.tailS_size]
 have hF:∀ S,ACall Tryz.prog 146 #[.string (((⟨#[87,82]⟩ : ByteArray) ++ bs [UInt8.ofNat k]) ++ bs (five c))] S fun r S'=>r = .tuple #[.string (preS k c ++ Crc.tailS (sumOf (preS k c))),.int .i64 0]∧S'=S:=fun S=>ACall.of_calls fun w=>by
  rw [hp]
  have:=ref_Frame (preS k c) (by rw [hsz];decide) w
  rw [hfr] at this
  exact this
 have z1:(⟨#[87,82]⟩ : ByteArray).size=2:=rfl
 have z2:(bs [UInt8.ofNat k]).size=1:=rfl
 have z3:((⟨#[87,82]⟩ : ByteArray) ++ bs [UInt8.ofNat k]).size=3:=by rw [ByteArray.size_append,z1,z2]
 have z4:(bs (five c)).size=5:=rfl
 have hnb:nb (UInt8.ofNat k)=(k:Int):=by unfold nb;rw [UInt8.toNat_ofNat'];omega
 have hcell:([.int .u8 (k:Int)] : List Value)=cellsB [UInt8.ofNat k]:=by unfold cellsB;simp only [List.map_cons,List.map_nil,hnb]
 unfold headS
 refine ACall.enter (rs:=[.tmp 4]) 21 [(0,.int .i64 (k:Int)),(1,.int .u64 (c:Int))] Tryz.func98 rfl rfl (Nat.le_of_ble_eq_true rfl) rfl ⟨rfl,rfl,trivial⟩ ?_
 iterate 6 refine s1_ ?_
 refine AWP.drawG [] mixed ?_
 refine DG.pure 0 (by kernel_rfl) (by kernel_rfl) rfl rfl rfl rfl (lit_lt rfl) (fun _=>Calm.move rfl) ?_
 refine DG.look 1 (by kernel_rfl) (by kernel_rfl) rfl rfl rfl rfl (lit_lt rfl) less_ (Calm.conv rfl (by first | exact conv_intW Tryz.underlying3 Tryz.underlying5 (IntWalk.u8_in _ (by omega)) | exact conv_int Tryz.underlying3 Tryz.underlying5)) ?_
 refine DG.pure 5 (by kernel_rfl) (by kernel_rfl) rfl rfl rfl rfl (lit_lt rfl) (fun _=>Calm.move rfl) ?_
 refine DG.two 2 6 (by kernel_rfl) rfl ?_ rfl ?_
 ·refine ARun.build1s (lit_lt rfl) ty_sl_61 rfl rfl ?_
  intro b10 f10
  have g10:=f10
  repeat ((with_reducible replace g10:=fresh_set g10);obtain ⟨g10,_⟩:=g10)
  rw [hcell]
  refine arun_nil ⟨fun _=>less_,?_⟩
  refine DG.two 3 6 (by kernel_rfl) rfl ?_ rfl ?_
  ·refine rC (Calm.toStr (l:=[UInt8.ofNat k]) ty_bytes_61 ty_str_9 rfl rfl (rds_own (r:=⟨_,cellsB [UInt8.ofNat k],_⟩) own_)) ?_
   refine arun_nil ⟨fun _=>less_,?_⟩
   refine DG.pure 4 (by kernel_rfl) (by kernel_rfl) rfl rfl rfl rfl (lit_lt rfl) (fun _=>Calm.bin rfl rfl (bin_str_add (by omega))) ?_
   refine DG.only 6 (by kernel_rfl) rfl ?_
   refine ca_ rfl (rnumV_Five c _ hc) ?_
   rintro _ S1 ⟨rfl,h1⟩
   rw [h1];clear h1 S1
   refine arun_nil ⟨fun _=>less_,?_⟩
   refine DG.pure 7 (by kernel_rfl) (by kernel_rfl) rfl rfl rfl rfl (lit_lt rfl) (fun _=>Calm.bin rfl rfl (bin_str_add (by omega))) ?_
   refine DG.only 8 (by kernel_rfl) rfl ?_
   refine ca_ rfl (hF _) ?_
   rintro _ S1 ⟨rfl,h1⟩
   rw [h1];clear h1 S1
   refine arun_nil ⟨fun _=>less_,?_⟩
   refine DG.pure 9 (by kernel_rfl) (by kernel_rfl) rfl rfl rfl rfl (lit_lt rfl) (fun _=>Calm.move rfl) ?_
   refine DG.pure 10 (by kernel_rfl) (by kernel_rfl) rfl rfl rfl rfl (lit_lt rfl) (fun _=>Calm.extract rfl rfl) ?_
   refine DG.pure 11 (by kernel_rfl) (by kernel_rfl) rfl rfl rfl rfl (lit_lt rfl) (fun _=>Calm.extract rfl rfl) ?_
   refine DG.pure 12 (by kernel_rfl) (by kernel_rfl) rfl rfl rfl rfl (lit_lt rfl) (fun _=>Calm.assign rfl) ?_
   refine DG.pure 13 (by kernel_rfl) (by kernel_rfl) rfl rfl rfl rfl (lit_lt rfl) (fun _=>Calm.assign rfl) ?_
   refine DG.end_ (by kernel_rfl) ?_
   refine s1_ ?_
   refine su_ [(0,_),(1,_),(4,_),(5,_)] ?_
   iterate 3 refine s1_ ?_
   refine ca_ rfl (rr_padded _ _ (by rw [hfs];decide)) ?_
   rintro _ S1 ⟨rfl,h1⟩
   rw [h1];clear h1 S1
   iterate 3 refine s1_ ?_
   refine su_ [(0,_),(1,_),(4,_),(5,_)] ?_
   refine s1_ ?_
   refine ⟨_,S,⟨_,_,rfl,rfl,rfl⟩,less_,?_⟩
   exact ⟨rfl,rfl⟩
  ·refine ca_ rfl (rnumV_Five c _ hc) ?_
   rintro _ S1 ⟨rfl,h1⟩
   rw [h1];clear h1 S1
   refine arun_nil ⟨fun _=>less_,?_⟩
   refine DG.only 3 (by kernel_rfl) rfl ?_
   refine rC (Calm.toStr (l:=[UInt8.ofNat k]) ty_bytes_61 ty_str_9 rfl rfl (rds_own (r:=⟨_,cellsB [UInt8.ofNat k],_⟩) own_)) ?_
   refine arun_nil ⟨fun _=>less_,?_⟩
   refine DG.pure 4 (by kernel_rfl) (by kernel_rfl) rfl rfl rfl rfl (lit_lt rfl) (fun _=>Calm.bin rfl rfl (bin_str_add (by omega))) ?_
   refine DG.pure 7 (by kernel_rfl) (by kernel_rfl) rfl rfl rfl rfl (lit_lt rfl) (fun _=>Calm.bin rfl rfl (bin_str_add (by omega))) ?_
   refine DG.only 8 (by kernel_rfl) rfl ?_
   refine ca_ rfl (hF _) ?_
   rintro _ S1 ⟨rfl,h1⟩
   rw [h1];clear h1 S1
   refine arun_nil ⟨fun _=>less_,?_⟩
   refine DG.pure 9 (by kernel_rfl) (by kernel_rfl) rfl rfl rfl rfl (lit_lt rfl) (fun _=>Calm.move rfl) ?_
   refine DG.pure 10 (by kernel_rfl) (by kernel_rfl) rfl rfl rfl rfl (lit_lt rfl) (fun _=>Calm.extract rfl rfl) ?_
   refine DG.pure 11 (by kernel_rfl) (by kernel_rfl) rfl rfl rfl rfl (lit_lt rfl) (fun _=>Calm.extract rfl rfl) ?_
   refine DG.pure 12 (by kernel_rfl) (by kernel_rfl) rfl rfl rfl rfl (lit_lt rfl) (fun _=>Calm.assign rfl) ?_
   refine DG.pure 13 (by kernel_rfl) (by kernel_rfl) rfl rfl rfl rfl (lit_lt rfl) (fun _=>Calm.assign rfl) ?_
   refine DG.end_ (by kernel_rfl) ?_
   refine s1_ ?_
   refine su_ [(0,_),(1,_),(4,_),(5,_)] ?_
   iterate 3 refine s1_ ?_
   refine ca_ rfl (rr_padded _ _ (by rw [hfs];decide)) ?_
   rintro _ S1 ⟨rfl,h1⟩
   rw [h1];clear h1 S1
   iterate 3 refine s1_ ?_
   refine su_ [(0,_),(1,_),(4,_),(5,_)] ?_
   refine s1_ ?_
   refine ⟨_,S,⟨_,_,rfl,rfl,rfl⟩,less_,?_⟩
   exact ⟨rfl,rfl⟩
 ·refine ca_ rfl (rnumV_Five c _ hc) ?_
  rintro _ S1 ⟨rfl,h1⟩
  rw [h1];clear h1 S1
  refine arun_nil ⟨fun _=>less_,?_⟩
  refine DG.only 2 (by kernel_rfl) rfl ?_
  refine ARun.build1s (lit_lt rfl) ty_sl_61 rfl rfl ?_
  intro b10 f10
  have g10:=f10
  repeat ((with_reducible replace g10:=fresh_set g10);obtain ⟨g10,_⟩:=g10)
  rw [hcell]
  refine arun_nil ⟨fun _=>less_,?_⟩
  refine DG.only 3 (by kernel_rfl) rfl ?_
  refine rC (Calm.toStr (l:=[UInt8.ofNat k]) ty_bytes_61 ty_str_9 rfl rfl (rds_own (r:=⟨_,cellsB [UInt8.ofNat k],_⟩) own_)) ?_
  refine arun_nil ⟨fun _=>less_,?_⟩
  refine DG.pure 4 (by kernel_rfl) (by kernel_rfl) rfl rfl rfl rfl (lit_lt rfl) (fun _=>Calm.bin rfl rfl (bin_str_add (by omega))) ?_
  refine DG.pure 7 (by kernel_rfl) (by kernel_rfl) rfl rfl rfl rfl (lit_lt rfl) (fun _=>Calm.bin rfl rfl (bin_str_add (by omega))) ?_
  refine DG.only 8 (by kernel_rfl) rfl ?_
  refine ca_ rfl (hF _) ?_
  rintro _ S1 ⟨rfl,h1⟩
  rw [h1];clear h1 S1
  refine arun_nil ⟨fun _=>less_,?_⟩
  refine DG.pure 9 (by kernel_rfl) (by kernel_rfl) rfl rfl rfl rfl (lit_lt rfl) (fun _=>Calm.move rfl) ?_
  refine DG.pure 10 (by kernel_rfl) (by kernel_rfl) rfl rfl rfl rfl (lit_lt rfl) (fun _=>Calm.extract rfl rfl) ?_
  refine DG.pure 11 (by kernel_rfl) (by kernel_rfl) rfl rfl rfl rfl (lit_lt rfl) (fun _=>Calm.extract rfl rfl) ?_
  refine DG.pure 12 (by kernel_rfl) (by kernel_rfl) rfl rfl rfl rfl (lit_lt rfl) (fun _=>Calm.assign rfl) ?_
  refine DG.pure 13 (by kernel_rfl) (by kernel_rfl) rfl rfl rfl rfl (lit_lt rfl) (fun _=>Calm.assign rfl) ?_
  refine DG.end_ (by kernel_rfl) ?_
  refine s1_ ?_
  refine su_ [(0,_),(1,_),(4,_),(5,_)] ?_
  iterate 3 refine s1_ ?_
  refine ca_ rfl (rr_padded _ _ (by rw [hfs];decide)) ?_
  rintro _ S1 ⟨rfl,h1⟩
  rw [h1];clear h1 S1
  iterate 3 refine s1_ ?_
  refine su_ [(0,_),(1,_),(4,_),(5,_)] ?_
  refine s1_ ?_
  refine ⟨_,S,⟨_,_,rfl,rfl,rfl⟩,less_,?_⟩
  exact ⟨rfl,rfl⟩
theorem chk_open (d : D) : (chkD d ≠ 0 → (openD d).1 = D0) ∧ (chkD d = 0 → (openD d).1 = d) := by
 unfold openD
 exact ⟨fun h=>by rw [if_neg h],fun h=>by rw [if_pos h]⟩
theorem rr_as (v : Value) (d : D) (S : Mem) (hd : DkR S v d) (hz : Dz d) : ACall Tryz.prog 43 #[v] S (DkRes (refD d) S) := by
 have hcheck:=fun M h=>rd_Check v d M h hz
 have hcopy:=rd_CopyW v d S hd hz
 obtain ⟨pe,ce,pw,cw,rfl,hE,hW⟩:=id hd
 obtain ⟨c1,c2⟩:=chk_open d
 unfold refD
 by_cases hc:chkD d=0
 ·rw [c2 hc]
  rw [hc] at hcheck
  refine ACall.enter (rs:=[.cell 2 25,.tmp 3]) 10 [(0,.agg #[.int .i64 d.size,.slice pe d.ext.length ce,.slice pw d.waits.length cw,.int .i64 d.fuse,.bool d.down])] Tryz.func43 rfl rfl (Nat.le_of_ble_eq_true rfl) rfl ⟨rfl,trivial⟩ ?_
  iterate 2 refine s1_ ?_
  refine k_b5 rfl ?_
  intro b1 f1
  have g1:=f1
  repeat ((with_reducible replace g1:=fresh_set g1);obtain ⟨g1,_⟩:=g1)
  refine nl_ ?_
  refine ARun.alloc (lit_lt rfl) ty_zero_25 ?_
  intro b2 f2
  have g2:=f2
  repeat ((with_reducible replace g2:=fresh_set g2);obtain ⟨g2,_⟩:=g2)
  refine nl_ ?_
  iterate 7 refine s1_ ?_
  refine ca_ rfl (hcheck _ (hd.less less_)) ?_
  rintro _ S1 ⟨rfl,h1⟩
  rw [h1];clear h1 S1
  iterate 3 refine s1_ ?_
  refine su_ [(0,_),(1,_),(2,_),(3,_),(6,_)] ?_
  refine cF_ ?_
  iterate 5 refine s1_ ?_
  refine ca_ rfl ((hcopy.frame f1).frame f2) ?_
  rintro _ S1 ⟨Sa,⟨M,⟨hSM,hdk⟩,fa,hSa⟩,fb,h1⟩
  rw [h1,hSa];rw [hSa] at fb;clear h1 S1 hSa Sa
  obtain ⟨fbm,_⟩:=fresh_set fb
  obtain ⟨qe,de,qw,dw,rfl,_⟩:=id hdk
  iterate 4 refine s1_ ?_
  refine su_ [(0,_),(1,_),(2,_),(3,_),(6,_)] ?_
  refine s1_ ?_
  refine ⟨_,M,⟨_,_,_,rfl,.inr ⟨ty_agg_25,[_,_,_,_,_],ty_size_25,rds_,rfl⟩,⟨_,_,rfl,rfl,rfl⟩,rfl⟩,less_,?_⟩
  exact ⟨_,rfl,hSM,hdk⟩
 ·rw [c1 hc]
  generalize chkD d=er at *
  refine ACall.enter (rs:=[.cell 2 25,.tmp 3]) 10 [(0,.agg #[.int .i64 d.size,.slice pe d.ext.length ce,.slice pw d.waits.length cw,.int .i64 d.fuse,.bool d.down])] Tryz.func43 rfl rfl (Nat.le_of_ble_eq_true rfl) rfl ⟨rfl,trivial⟩ ?_
  iterate 2 refine s1_ ?_
  refine k_b5 rfl ?_
  intro b1 f1
  have g1:=f1
  repeat ((with_reducible replace g1:=fresh_set g1);obtain ⟨g1,_⟩:=g1)
  refine nl_ ?_
  refine ARun.alloc (lit_lt rfl) ty_zero_25 ?_
  intro b2 f2
  have g2:=f2
  repeat ((with_reducible replace g2:=fresh_set g2);obtain ⟨g2,_⟩:=g2)
  refine nl_ ?_
  iterate 7 refine s1_ ?_
  refine ca_ rfl (hcheck _ (hd.less less_)) ?_
  rintro _ S1 ⟨rfl,h1⟩
  rw [h1];clear h1 S1
  iterate 3 refine s1_ ?_
  refine su_ [(0,_),(1,_),(2,_),(3,_),(6,_)] ?_
  refine cT_ ?_
  iterate 7 refine s1_ ?_
  refine su_ [(0,_),(1,_),(2,_),(3,_),(6,_)] ?_
  iterate 2 refine s1_ ?_
  refine ⟨_,S,⟨_,_,_,rfl,.inr ⟨ty_agg_25,[_,_,_,_,_],ty_size_25,rds_,rfl⟩,⟨_,_,rfl,rfl,rfl⟩,rfl⟩,less_,?_⟩
  exact ⟨_,rfl,Mem.Less.refl _,dkR_zero S⟩
theorem fresh_again {T : Mem} {b c : Nat} {X X' : Blk} (h : Fresh (T.set b X) c) : Fresh (T.set b X') c := by
 obtain ⟨h1,h2⟩:=fresh_set h
 exact ⟨by rw [Mem.own_set_other _ _ h2];exact h1.1,h1.2⟩
theorem sec_cut (x : ByteArray) (j : Nat) : x.extract (64 * (((j + 1 : Nat) : Int) - 1)).toNat (64 * ((j + 1 : Nat) : Int)).toNat = secAt x j := by
 unfold secAt
 rw [show (64*(((j+1:Nat):Int)-1)).toNat=64*j from by omega,show (64*((j+1:Nat):Int)).toNat=64*j+64 from by omega]
set_option maxHeartbeats 4000000 in
theorem rr_Put (v : Value) (d : D) (s : ByteArray) (k c : Nat) (body : ByteArray) (S : Mem) (hd : DkR S v d) (hz : Dz d) (hk : k ≤ 8) (hc : c ≤ 65536) (hb : body.size = eachN k * c) :
  ACall Tryz.prog 45 #[v,.string s,.int .i64 (k:Int),.int .u64 (c:Int),.string body] S (DkRes (opened d (putP d s k c body)) S):=by
 have hneed:needP (k:Int) c=(((needN k c:Nat):Int),0):=by unfold needP;rw [if_neg (by omega),Int.toNat_natCast]
 have hN:=rr_Need (k:Int) c
 have hHd:=fun S=>rr_head k c S hk (by omega)
 rw [hneed] at hN
 have hn1:=needN_pos k c
 have hn2:=needN_le hk hc
 have hall:(padS body).size=64*(needN k c-1):=by rw [padS_size,hb];unfold needN;omega
 have hbz:body.size≤140737488355328:=by have:=(mul_le_each hk hc).2;rw [hb];omega
 have hpad:=fun S=>rr_padded body S hbz
 have hnew:=rd_New v d s ((needN k c:Nat):Int) S hd hz
 unfold putP
 generalize needN k c=n at *
 generalize padS body=all at *
 generalize headS k c=hs at *
 obtain ⟨pe,ce,pw,cw,rfl,hE,hW⟩:=id hd
 by_cases hq:(opened d (newD d s (n:Int))).2=0
 ·have hop:openD d=(d,0)∧Right d∧d.down=false:=by
   unfold opened at hq
   rcases openD_or d with ⟨ho,hR⟩ | ⟨ho,hR,hdn⟩ | ⟨ho,hR,hdn⟩ <;> rw [ho] at hq
   ·simp at hq
   ·simp at hq
   ·exact ⟨ho,hR,hdn⟩
  obtain ⟨ho,hR,hdn⟩:=hop
  have hop:=fun f=>opened_ok hR hdn f
  rw [hop] at hq hnew ⊢
  rw [if_neg (by omega)]
  obtain ⟨hR1,hd1,hf1,_⟩:=(new_law (s:=s) (n:=(n:Int)) hR hdn).2 hq
  have hf1:(newD d s (n:Int)).1.fuse≤9223372036854775807:=by rw [hf1];exact hz.f1
  have hkeep:=putTo_keep hR1 hd1 hf1 s all
  have hst:=fun j=>putTo_stuck (d:=(newD d s (n:Int)).1) (s:=s) (all:=all) (k:=j)
  have hp0:putTo (newD d s (n:Int)).1 s all 0=((newD d s (n:Int)).1,0):=rfl
  have hps:∀ j,(putTo (newD d s (n:Int)).1 s all j).2=0→putTo (newD d s (n:Int)).1 s all (j+1)=writeD (putTo (newD d s (n:Int)).1 s all j).1 s ((j+1:Nat):Int) (secAt all j):=fun j h=>by rw [putTo,if_pos h]
  rw [show newD d s (n:Int)=((newD d s (n:Int)).1,0) from Prod.ext rfl hq] at hnew
  generalize (newD d s (n:Int)).1=e1 at *
  generalize hP:putTo e1 s all=P at *
  refine ACall.enter (rs:=[.cell 10 25,.tmp 11]) 81 [(0,.agg #[.int .i64 d.size,.slice pe d.ext.length ce,.slice pw d.waits.length cw,.int .i64 d.fuse,.bool d.down]),(1,.string s),(2,.int .i64 (k:Int)),(3,.int .u64 (c:Int)),(4,.string body)] Tryz.func45 rfl rfl (Nat.le_of_ble_eq_true rfl) rfl ⟨rfl,rfl,rfl,rfl,rfl,trivial⟩ ?_
  iterate 2 refine s1_ ?_
  refine k_b5 rfl ?_
  intro b5 f5
  have g5:=f5
  repeat ((with_reducible replace g5:=fresh_set g5);obtain ⟨g5,_⟩:=g5)
  refine nl_ ?_
  refine ARun.alloc (lit_lt rfl) ty_zero_25 ?_
  intro b10 f10
  have g10:=f10
  repeat ((with_reducible replace g10:=fresh_set g10);obtain ⟨g10,_⟩:=g10)
  refine nl_ ?_
  iterate 7 refine s1_ ?_
  refine ca_ rfl (hN _) ?_
  rintro _ S1 ⟨rfl,h1⟩
  rw [h1];clear h1 S1
  iterate 7 refine s1_ ?_
  refine su_ [(0,_),(1,_),(2,_),(3,_),(4,_),(5,_),(10,_),(11,_),(12,_)] ?_
  iterate 5 refine s1_ ?_
  refine ca_ rfl ((hnew.frame f5).frame f10) ?_
  rintro _ S1 ⟨Sa,⟨T0,⟨v,rfl,hl0,hdk0⟩,fa0,hSa⟩,fb0,h1⟩
  rw [h1,hSa];rw [hSa] at fb0;clear h1 S1 hSa Sa
  obtain ⟨qe0,de0,qw0,dw0,rfl,_⟩:=id hdk0
  have n5:b10≠b5:=(fresh_set fb0).2
  iterate 7 refine s1_ ?_
  refine su_ [(0,_),(1,_),(2,_),(3,_),(4,_),(5,_),(10,_),(11,_),(12,_),(14,_)] ?_
  rw [set_back _ n5]
  iterate 7 refine s1_ ?_
  refine su_ [(0,_),(1,_),(2,_),(3,_),(4,_),(5,_),(10,_),(11,_),(12,_),(14,_),(31,_)] ?_
  refine cF_ ?_
  iterate 5 refine s1_ ?_
  refine ca_ rfl (hpad _) ?_
  rintro _ S1 ⟨rfl,h1⟩
  rw [h1];clear h1 S1
  iterate 3 refine s1_ ?_
  refine su_ [(0,_),(1,_),(2,_),(3,_),(4,_),(5,_),(10,_),(11,_),(12,_),(14,_),(31,_),(15,_)] ?_
  iterate 7 refine s1_ ?_
  refine AWP.loop (X:=Nat × Mem × Option Addr × Nat × Option Addr × Nat) (fun x=>[(1,.string s),(2,.int .i64 (k:Int)),(3,.int .u64 (c:Int)),(5,.pointer (some ⟨b5,0,none⟩)),(10,.pointer (some ⟨b10,0,none⟩)),(12,.int .i64 ((n:Nat):Int)),(15,.string all),(16,.int .i64 ((x.1+1:Nat):Int))]) (fun x=>(x.2.1.set b5 (bx (P x.1).1 x.2.2.1 x.2.2.2.1 x.2.2.2.2.1 x.2.2.2.2.2)).set b10 zb) (fun x=>x.1+1≤n∧(P x.1).2=0∧S.Less x.2.1∧DkR x.2.1 (.agg #[.int .i64 (P x.1).1.size,.slice x.2.2.1 (P x.1).1.ext.length x.2.2.2.1,.slice x.2.2.2.2.1 (P x.1).1.waits.length x.2.2.2.2.2,.int .i64 (P x.1).1.fuse,.bool (P x.1).1.down]) (P x.1).1∧Fresh x.2.1 b5∧Fresh (x.2.1.set b5 (bx (P x.1).1 x.2.2.1 x.2.2.2.1 x.2.2.2.2.1 x.2.2.2.2.2)) b10) (fun x=>n-x.1) ((0,T0,qe0,de0,qw0,dw0)) ⟨rfl,rfl,rfl,rfl,rfl,rfl,rfl,rfl,trivial⟩ (by rw [hp0];exact Mem.Less.refl _) (by show 0+1≤n∧_;rw [hp0];exact ⟨by omega,rfl,hl0,hdk0,fa0,fresh_again fb0⟩) ?_
  rintro ⟨j,T,qe,de,qw,dw⟩ ⟨hj,hc0,hST,hdk,fa,fb⟩
  (try dsimp only at *)
  clear fa0 fb0 hdk0 hl0
  obtain ⟨kR,kf,kd⟩:=hkeep j
  have kd:=kd hc0
  have kz:=dz_right kR kf
  by_cases hi:j+1<n
  ·iterate 8 refine s1_ ?_
   refine su_ [(1,_),(2,_),(3,_),(5,_),(10,_),(12,_),(15,_),(16,_),(38,_)] ?_
   refine cT_ ?_
   have hw1:=rd_Write _ (P j).1 s ((j+1:Nat):Int) (secAt all j) T hdk kz
   rw [opened_ok kR kd,← hps j hc0,← sec_cut all j] at hw1
   iterate 5 refine s1_ ?_
   refine AWP.draw [(0,true),(1,true),(2,true),(3,true),(4,true),(5,true),(6,true),(7,true),(8,true),(9,true),(10,false),(11,true),(12,true),(13,true),(14,false),(15,true)] [14] mixed (by kernel_rfl) ?_
   iterate 10 refine s1_ ?_
   refine draw_only rfl ?_
   refine ca_ rfl ((hw1.frame fa).frame fb) ?_
   rintro _ S1 ⟨Sa,⟨T3,⟨v,rfl,hl3,hdk3⟩,fa3,hSa⟩,fb3,h1⟩
   rw [h1,hSa];rw [hSa] at fb3;clear h1 S1 hSa Sa
   obtain ⟨qe3,de3,qw3,dw3,rfl,_⟩:=id hdk3
   refine arun_nil ⟨fun _=>less_,?_⟩
   iterate 3 refine s1_ ?_
   refine draw_only rfl ?_
   refine s1_ ?_
   refine arun_nil ⟨fun h=>absurd h (by decide),?_⟩
   iterate 3 refine s1_ ?_
   refine su_ [(1,_),(2,_),(3,_),(5,_),(10,_),(12,_),(15,_),(16,_),(38,_),(14,_)] ?_
   rw [set_back _ n5]
   by_cases hc1:(P (j+1)).2=0
   ·iterate 6 refine s1_ ?_
    refine su_ [(1,_),(2,_),(3,_),(5,_),(10,_),(12,_),(15,_),(16,_),(38,_),(14,_),(56,_)] ?_
    refine cF_ ?_
    iterate 9 refine s1_ ?_
    refine ⟨(j+1,T3,qe3,de3,qw3,dw3),?_,?_,?_,?_⟩
    all_goals (try dsimp only)
    ·exact ⟨rfl,rfl,rfl,rfl,rfl,rfl,rfl,some_int (by omega),trivial⟩
    ·exact Mem.Less.refl _
    ·exact ⟨by omega,hc1,hST.trans hl3,hdk3,fa3,fresh_again fb3⟩
    ·omega
   ·iterate 6 refine s1_ ?_
    refine su_ [(1,_),(2,_),(3,_),(5,_),(10,_),(12,_),(15,_),(16,_),(38,_),(14,_),(56,_)] ?_
    refine cT_ ?_
    have hfin:=hst (j+1) hc1 (n-1) (by omega)
    rw [hfin,if_pos hc1]
    obtain ⟨gb,_⟩:=fresh_set fb3
    iterate 8 refine s1_ ?_
    refine su_ [(1,_),(2,_),(3,_),(5,_),(10,_),(12,_),(15,_),(16,_),(38,_),(14,_),(56,_),(11,_)] ?_
    iterate 6 refine s1_ ?_
    refine ⟨_,T3,⟨_,_,_,rfl,.inr ⟨ty_agg_25,[_,_,_,_,_],ty_size_25,rds_,rfl⟩,⟨_,_,rfl,rfl,rfl⟩,rfl⟩,less_,?_⟩
    exact ⟨_,rfl,hST.trans hl3,hdk3⟩
  ·obtain rfl:j=n-1:=by omega
   iterate 8 refine s1_ ?_
   refine su_ [(1,_),(2,_),(3,_),(5,_),(10,_),(12,_),(15,_),(16,_),(38,_)] ?_
   refine cF_ ?_
   rw [if_neg (by omega)]
   have hsy:=rd_Sync _ (P (n-1)).1 T hdk kz
   rw [opened_ok kR kd] at hsy
   iterate 8 refine s1_ ?_
   refine ca_ rfl ((hsy.frame fa).frame fb) ?_
   rintro _ S1 ⟨Sa,⟨T3,⟨v,rfl,hl3,hdk3⟩,fa3,hSa⟩,fb3,h1⟩
   rw [h1,hSa];rw [hSa] at fb3;clear h1 S1 hSa Sa
   obtain ⟨qe3,de3,qw3,dw3,rfl,_⟩:=id hdk3
   have fb3:=fresh_again (X':=bx (settleD (P (n-1)).1 fun _=>true) qe3 de3 qw3 dw3) fb3
   iterate 6 refine s1_ ?_
   refine su_ [(1,_),(2,_),(3,_),(5,_),(10,_),(12,_),(15,_),(16,_),(38,_)] ?_
   rw [set_back _ n5]
   have hR3:=right_settle kR (fun _=>true)
   have hd3:(settleD (P (n-1)).1 fun _=>true).down=false:=kd
   have hf3:(settleD (P (n-1)).1 fun _=>true).fuse≤9223372036854775807:=kf
   have hdk3:DkR T3 _ (settleD (P (n-1)).1 fun _=>true):=hdk3
   have hw1:=rd_Write _ (settleD (P (n-1)).1 fun _=>true) s 0 hs T3 hdk3 (dz_right hR3 hf3)
   rw [opened_ok hR3 hd3] at hw1
   unfold sealD
   simp only [syncD] at *
   generalize settleD (P (n-1)).1 (fun _=>true)=e3 at *
   refine s1_ ?_
   refine AWP.draw [(0,true),(1,true),(2,true),(3,true),(4,false),(5,false),(6,true),(7,true),(8,true),(9,false),(10,true)] [9] mixed (by kernel_rfl) ?_
   iterate 4 refine s1_ ?_
   refine draw_only rfl ?_
   refine ca_ rfl (hHd _) ?_
   rintro _ S1 ⟨rfl,h1⟩
   rw [h1];clear h1 S1
   refine arun_nil ⟨fun _=>less_,?_⟩
   refine draw_only rfl ?_
   refine ca_ rfl ((hw1.frame fa3).frame fb3) ?_
   rintro _ S1 ⟨Sa,⟨T4,⟨v,rfl,hl4,hdk4⟩,fa4,hSa⟩,fb4,h1⟩
   rw [h1,hSa];rw [hSa] at fb4;clear h1 S1 hSa Sa
   obtain ⟨qe4,de4,qw4,dw4,rfl,_⟩:=id hdk4
   have fb4:=fresh_again (X':=bx (writeD e3 s 0 hs).1 qe4 de4 qw4 dw4) fb4
   refine arun_nil ⟨fun _=>less_,?_⟩
   iterate 3 refine s1_ ?_
   refine draw_only rfl ?_
   refine s1_ ?_
   refine arun_nil ⟨fun h=>absurd h (by decide),?_⟩
   iterate 3 refine s1_ ?_
   refine su_ [(1,_),(2,_),(3,_),(5,_),(10,_),(12,_),(15,_),(16,_),(38,_),(14,_)] ?_
   rw [set_back _ n5]
   by_cases hc1:(writeD e3 s 0 hs).2=0
   ·rw [if_pos hc1]
    iterate 7 refine s1_ ?_
    refine su_ [(1,_),(2,_),(3,_),(5,_),(10,_),(12,_),(15,_),(16,_),(38,_),(14,_),(74,_)] ?_
    refine cF_ ?_
    obtain ⟨hRw,hfw,hdw⟩:=write_keep hR3 hd3 hf3 s hs 0
    have hsy2:=rd_Sync _ (writeD e3 s 0 hs).1 T4 hdk4 (dz_right hRw hfw)
    rw [opened_ok hRw (hdw hc1)] at hsy2
    iterate 5 refine s1_ ?_
    refine ca_ rfl ((hsy2.frame fa4).frame fb4) ?_
    rintro _ S1 ⟨Sa,⟨T5,⟨v,rfl,hl5,hdk5⟩,fa5,hSa⟩,fb5,h1⟩
    rw [h1,hSa];rw [hSa] at fb5;clear h1 S1 hSa Sa
    obtain ⟨qe5,de5,qw5,dw5,rfl,_⟩:=id hdk5
    obtain ⟨gb,_⟩:=fresh_set fb5
    iterate 6 refine s1_ ?_
    refine su_ [(1,_),(2,_),(3,_),(5,_),(10,_),(12,_),(15,_),(16,_),(38,_),(14,_),(74,_),(11,_)] ?_
    refine s1_ ?_
    refine ⟨_,T5,⟨_,_,_,rfl,.inr ⟨ty_agg_25,[_,_,_,_,_],ty_size_25,rds_,rfl⟩,⟨_,_,rfl,rfl,rfl⟩,rfl⟩,less_,?_⟩
    exact ⟨_,rfl,((hST.trans hl3).trans hl4).trans hl5,hdk5⟩
   ·rw [if_neg hc1]
    iterate 7 refine s1_ ?_
    refine su_ [(1,_),(2,_),(3,_),(5,_),(10,_),(12,_),(15,_),(16,_),(38,_),(14,_),(74,_)] ?_
    refine cT_ ?_
    obtain ⟨gb,_⟩:=fresh_set fb4
    iterate 8 refine s1_ ?_
    refine su_ [(1,_),(2,_),(3,_),(5,_),(10,_),(12,_),(15,_),(16,_),(38,_),(14,_),(74,_),(11,_)] ?_
    iterate 2 refine s1_ ?_
    refine ⟨_,T4,⟨_,_,_,rfl,.inr ⟨ty_agg_25,[_,_,_,_,_],ty_size_25,rds_,rfl⟩,⟨_,_,rfl,rfl,rfl⟩,rfl⟩,less_,?_⟩
    exact ⟨_,rfl,(hST.trans hl3).trans hl4,hdk4⟩
 ·have hres:(if (openD d).2=0 then if (newD d s (n:Int)).2≠0 then newD d s (n:Int) else if (putTo (newD d s (n:Int)).1 s all (n-1)).2≠0 then putTo (newD d s (n:Int)).1 s all (n-1) else sealD (putTo (newD d s (n:Int)).1 s all (n-1)).1 s hs else openD d)=opened d (newD d s (n:Int)):=by
   unfold opened at hq ⊢
   by_cases ho:(openD d).2=0
   ·rw [if_pos ho] at hq ⊢
    rw [if_pos ho,if_pos hq]
   ·rw [if_neg ho,if_neg ho]
  rw [show opened d (if (newD d s (n:Int)).2≠0 then newD d s (n:Int) else if (putTo (newD d s (n:Int)).1 s all (n-1)).2≠0 then putTo (newD d s (n:Int)).1 s all (n-1) else sealD (putTo (newD d s (n:Int)).1 s all (n-1)).1 s hs)=opened d (newD d s (n:Int)) from hres]
  generalize opened d (newD d s (n:Int))=q1 at *
  refine ACall.enter (rs:=[.cell 10 25,.tmp 11]) 81 [(0,.agg #[.int .i64 d.size,.slice pe d.ext.length ce,.slice pw d.waits.length cw,.int .i64 d.fuse,.bool d.down]),(1,.string s),(2,.int .i64 (k:Int)),(3,.int .u64 (c:Int)),(4,.string body)] Tryz.func45 rfl rfl (Nat.le_of_ble_eq_true rfl) rfl ⟨rfl,rfl,rfl,rfl,rfl,trivial⟩ ?_
  iterate 2 refine s1_ ?_
  refine k_b5 rfl ?_
  intro b5 f5
  have g5:=f5
  repeat ((with_reducible replace g5:=fresh_set g5);obtain ⟨g5,_⟩:=g5)
  refine nl_ ?_
  refine ARun.alloc (lit_lt rfl) ty_zero_25 ?_
  intro b10 f10
  have g10:=f10
  repeat ((with_reducible replace g10:=fresh_set g10);obtain ⟨g10,_⟩:=g10)
  refine nl_ ?_
  iterate 7 refine s1_ ?_
  refine ca_ rfl (hN _) ?_
  rintro _ S1 ⟨rfl,h1⟩
  rw [h1];clear h1 S1
  iterate 7 refine s1_ ?_
  refine su_ [(0,_),(1,_),(2,_),(3,_),(4,_),(5,_),(10,_),(11,_),(12,_)] ?_
  iterate 5 refine s1_ ?_
  refine ca_ rfl ((hnew.frame f5).frame f10) ?_
  rintro _ S1 ⟨Sa,⟨T0,⟨v,rfl,hl0,hdk0⟩,fa0,hSa⟩,fb0,h1⟩
  rw [h1,hSa];rw [hSa] at fb0;clear h1 S1 hSa Sa
  obtain ⟨qe0,de0,qw0,dw0,rfl,_⟩:=id hdk0
  have n5:b10≠b5:=(fresh_set fb0).2
  iterate 7 refine s1_ ?_
  refine su_ [(0,_),(1,_),(2,_),(3,_),(4,_),(5,_),(10,_),(11,_),(12,_),(14,_)] ?_
  rw [set_back _ n5]
  iterate 7 refine s1_ ?_
  refine su_ [(0,_),(1,_),(2,_),(3,_),(4,_),(5,_),(10,_),(11,_),(12,_),(14,_),(31,_)] ?_
  refine cT_ ?_
  obtain ⟨gb,_⟩:=fresh_set fb0
  iterate 8 refine s1_ ?_
  refine su_ [(0,_),(1,_),(2,_),(3,_),(4,_),(5,_),(10,_),(11,_),(12,_),(14,_),(31,_)] ?_
  iterate 2 refine s1_ ?_
  refine ⟨_,T0,⟨_,_,_,rfl,.inr ⟨ty_agg_25,[_,_,_,_,_],ty_size_25,rds_,rfl⟩,⟨_,_,rfl,rfl,rfl⟩,rfl⟩,less_,?_⟩
  exact ⟨_,rfl,hl0,hdk0⟩
end Rec
end Go.Proofs.YtceikpipmcadmaaGreatDoor
namespace Go.Proofs.YtceikpipmcadmaaGreatDoor
open Go.RowKit
open Mv Disk Num
set_option maxRecDepth 4000
namespace Rec
theorem rr_WriteText (v : Value) (d : D) (s text : ByteArray) (S : Mem) (hd : DkR S v d) (hz : Dz d) :
  ACall Tryz.prog 14 #[v,.string s,.string text] S (DkRes (writeTextP d s text) S):=by
 have href:=rr_as v d S hd hz
 unfold writeTextP
 by_cases h:65536<text.size
 ·rw [if_pos h]
  obtain ⟨pe,ce,pw,cw,rfl,hE,hW⟩:=id hd
  refine ACall.enter (rs:=[.cell 6 25,.tmp 7]) 24 [(0,.agg #[.int .i64 d.size,.slice pe d.ext.length ce,.slice pw d.waits.length cw,.int .i64 d.fuse,.bool d.down]),(1,.string s),(2,.string text)] Tryz.func14 rfl rfl (Nat.le_of_ble_eq_true rfl) rfl ⟨rfl,rfl,rfl,trivial⟩ ?_
  iterate 2 refine s1_ ?_
  refine k_b5 rfl ?_
  intro b3 f3
  have g3:=f3
  repeat ((with_reducible replace g3:=fresh_set g3);obtain ⟨g3,_⟩:=g3)
  refine nl_ ?_
  refine ARun.alloc (lit_lt rfl) ty_zero_25 ?_
  intro b6 f6
  have g6:=f6
  repeat ((with_reducible replace g6:=fresh_set g6);obtain ⟨g6,_⟩:=g6)
  refine nl_ ?_
  iterate 11 refine s1_ ?_
  refine su_ [(0,_),(1,_),(2,_),(3,_),(6,_),(7,_),(10,_)] ?_
  refine cT_ ?_
  iterate 3 refine s1_ ?_
  refine ca_ rfl ((href.frame f3).frame f6) ?_
  rintro _ S1 ⟨Sa,⟨M2,⟨v,rfl,hl2,hdk⟩,fc,hSa⟩,fd,h1⟩
  rw [h1,hSa];rw [hSa] at fd;clear h1 S1 hSa Sa
  obtain ⟨qe,de,qw,dw,rfl,_⟩:=id hdk
  obtain ⟨ge,_⟩:=fresh_set fd
  iterate 6 refine s1_ ?_
  refine su_ [(0,_),(1,_),(2,_),(3,_),(6,_),(7,_),(10,_)] ?_
  iterate 2 refine s1_ ?_
  refine ⟨_,M2,⟨_,_,_,rfl,.inr ⟨ty_agg_25,[_,_,_,_,_],ty_size_25,rds_,rfl⟩,⟨_,_,rfl,rfl,rfl⟩,rfl⟩,less_,?_⟩
  exact ⟨_,rfl,hl2,hdk⟩
 ·rw [if_neg h]
  have hput:=rr_Put v d s 0 text.size text S hd hz (by omega) (by omega) (by unfold eachN;simp)
  obtain ⟨pe,ce,pw,cw,rfl,hE,hW⟩:=id hd
  refine ACall.enter (rs:=[.cell 6 25,.tmp 7]) 24 [(0,.agg #[.int .i64 d.size,.slice pe d.ext.length ce,.slice pw d.waits.length cw,.int .i64 d.fuse,.bool d.down]),(1,.string s),(2,.string text)] Tryz.func14 rfl rfl (Nat.le_of_ble_eq_true rfl) rfl ⟨rfl,rfl,rfl,trivial⟩ ?_
  iterate 2 refine s1_ ?_
  refine k_b5 rfl ?_
  intro b3 f3
  have g3:=f3
  repeat ((with_reducible replace g3:=fresh_set g3);obtain ⟨g3,_⟩:=g3)
  refine nl_ ?_
  refine ARun.alloc (lit_lt rfl) ty_zero_25 ?_
  intro b6 f6
  have g6:=f6
  repeat ((with_reducible replace g6:=fresh_set g6);obtain ⟨g6,_⟩:=g6)
  refine nl_ ?_
  iterate 11 refine s1_ ?_
  refine su_ [(0,_),(1,_),(2,_),(3,_),(6,_),(7,_),(10,_)] ?_
  refine cF_ ?_
  iterate 10 refine s1_ ?_
  refine ca_ rfl ((hput.frame f3).frame f6) ?_
  rintro _ S1 ⟨Sa,⟨M2,⟨v,rfl,hl2,hdk⟩,fc,hSa⟩,fd,h1⟩
  rw [h1,hSa];rw [hSa] at fd;clear h1 S1 hSa Sa
  obtain ⟨qe,de,qw,dw,rfl,_⟩:=id hdk
  obtain ⟨ge,_⟩:=fresh_set fd
  iterate 6 refine s1_ ?_
  refine su_ [(0,_),(1,_),(2,_),(3,_),(6,_),(7,_),(10,_)] ?_
  refine s1_ ?_
  refine ⟨_,M2,⟨_,_,_,rfl,.inr ⟨ty_agg_25,[_,_,_,_,_],ty_size_25,rds_,rfl⟩,⟨_,_,rfl,rfl,rfl⟩,rfl⟩,less_,?_⟩
  exact ⟨_,rfl,hl2,hdk⟩
set_option maxHeartbeats 4000000 in
theorem rr_Write (v : Value) (d : D) (s : ByteArray) (w : Int) (l : List (List Nat)) (vl : Value) (S : Mem) (hd : DkR S v d) (hz : Dz d) (hl : SlOf RowR S vl l) (hb : ∀ x ∈ l, ∀ n ∈ x, n < 18446744073709551616) :
  ACall Tryz.prog 12 #[v,.string s,.int .i64 w,vl] S (DkRes (writeP d s w l) S):=by
 have href:=rr_as v d S hd hz
 obtain ⟨hs,hlen,⟨pa,ca,rfl,ha1,ha2,ha3⟩,hae⟩:=hl
 unfold writeP
 by_cases hw1:w<1
 ·rw [if_pos (.inl hw1)]
  obtain ⟨pe,ce,pw,cw,rfl,hE,hW⟩:=id hd
  refine ACall.enter (rs:=[.cell 8 25,.tmp 9]) 67 [(0,.agg #[.int .i64 d.size,.slice pe d.ext.length ce,.slice pw d.waits.length cw,.int .i64 d.fuse,.bool d.down]),(1,.string s),(2,.int .i64 w),(3,.slice pa hs.length ca)] Tryz.func12 rfl rfl (Nat.le_of_ble_eq_true rfl) rfl ⟨rfl,rfl,rfl,rfl,trivial⟩ ?_
  iterate 2 refine s1_ ?_
  refine k_b5 rfl ?_
  intro b4 f4
  have g4:=f4
  repeat ((with_reducible replace g4:=fresh_set g4);obtain ⟨g4,_⟩:=g4)
  refine nl_ ?_
  refine ARun.alloc (lit_lt rfl) ty_zero_25 ?_
  intro b8 f8
  have g8:=f8
  repeat ((with_reducible replace g8:=fresh_set g8);obtain ⟨g8,_⟩:=g8)
  refine nl_ ?_
  iterate 19 refine s1_ ?_
  refine su_ [(0,_),(1,_),(2,_),(3,_),(4,_),(8,_),(9,_),(25,_)] ?_
  refine cT_ ?_
  iterate 3 refine s1_ ?_
  refine ca_ rfl ((href.frame f4).frame f8) ?_
  rintro _ S1 ⟨Sa,⟨M2,⟨v,rfl,hl2,hdk⟩,fc,hSa⟩,fd,h1⟩
  rw [h1,hSa];rw [hSa] at fd;clear h1 S1 hSa Sa
  obtain ⟨qe,de,qw,dw,rfl,_⟩:=id hdk
  obtain ⟨ge,_⟩:=fresh_set fd
  iterate 6 refine s1_ ?_
  refine su_ [(0,_),(1,_),(2,_),(3,_),(4,_),(8,_),(9,_),(25,_)] ?_
  iterate 2 refine s1_ ?_
  refine ⟨_,M2,⟨_,_,_,rfl,.inr ⟨ty_agg_25,[_,_,_,_,_],ty_size_25,rds_,rfl⟩,⟨_,_,rfl,rfl,rfl⟩,rfl⟩,less_,?_⟩
  exact ⟨_,rfl,hl2,hdk⟩
 by_cases hw2:8<w
 ·rw [if_pos (.inr (.inl hw2))]
  obtain ⟨pe,ce,pw,cw,rfl,hE,hW⟩:=id hd
  refine ACall.enter (rs:=[.cell 8 25,.tmp 9]) 67 [(0,.agg #[.int .i64 d.size,.slice pe d.ext.length ce,.slice pw d.waits.length cw,.int .i64 d.fuse,.bool d.down]),(1,.string s),(2,.int .i64 w),(3,.slice pa hs.length ca)] Tryz.func12 rfl rfl (Nat.le_of_ble_eq_true rfl) rfl ⟨rfl,rfl,rfl,rfl,trivial⟩ ?_
  iterate 2 refine s1_ ?_
  refine k_b5 rfl ?_
  intro b4 f4
  have g4:=f4
  repeat ((with_reducible replace g4:=fresh_set g4);obtain ⟨g4,_⟩:=g4)
  refine nl_ ?_
  refine ARun.alloc (lit_lt rfl) ty_zero_25 ?_
  intro b8 f8
  have g8:=f8
  repeat ((with_reducible replace g8:=fresh_set g8);obtain ⟨g8,_⟩:=g8)
  refine nl_ ?_
  iterate 19 refine s1_ ?_
  refine su_ [(0,_),(1,_),(2,_),(3,_),(4,_),(8,_),(9,_),(25,_)] ?_
  refine cT_ ?_
  iterate 3 refine s1_ ?_
  refine ca_ rfl ((href.frame f4).frame f8) ?_
  rintro _ S1 ⟨Sa,⟨M2,⟨v,rfl,hl2,hdk⟩,fc,hSa⟩,fd,h1⟩
  rw [h1,hSa];rw [hSa] at fd;clear h1 S1 hSa Sa
  obtain ⟨qe,de,qw,dw,rfl,_⟩:=id hdk
  obtain ⟨ge,_⟩:=fresh_set fd
  iterate 6 refine s1_ ?_
  refine su_ [(0,_),(1,_),(2,_),(3,_),(4,_),(8,_),(9,_),(25,_)] ?_
  iterate 2 refine s1_ ?_
  refine ⟨_,M2,⟨_,_,_,rfl,.inr ⟨ty_agg_25,[_,_,_,_,_],ty_size_25,rds_,rfl⟩,⟨_,_,rfl,rfl,rfl⟩,rfl⟩,less_,?_⟩
  exact ⟨_,rfl,hl2,hdk⟩
 by_cases hw3:65536<l.length
 ·rw [if_pos (.inr (.inr hw3))]
  obtain ⟨pe,ce,pw,cw,rfl,hE,hW⟩:=id hd
  refine ACall.enter (rs:=[.cell 8 25,.tmp 9]) 67 [(0,.agg #[.int .i64 d.size,.slice pe d.ext.length ce,.slice pw d.waits.length cw,.int .i64 d.fuse,.bool d.down]),(1,.string s),(2,.int .i64 w),(3,.slice pa hs.length ca)] Tryz.func12 rfl rfl (Nat.le_of_ble_eq_true rfl) rfl ⟨rfl,rfl,rfl,rfl,trivial⟩ ?_
  iterate 2 refine s1_ ?_
  refine k_b5 rfl ?_
  intro b4 f4
  have g4:=f4
  repeat ((with_reducible replace g4:=fresh_set g4);obtain ⟨g4,_⟩:=g4)
  refine nl_ ?_
  refine ARun.alloc (lit_lt rfl) ty_zero_25 ?_
  intro b8 f8
  have g8:=f8
  repeat ((with_reducible replace g8:=fresh_set g8);obtain ⟨g8,_⟩:=g8)
  refine nl_ ?_
  iterate 19 refine s1_ ?_
  refine su_ [(0,_),(1,_),(2,_),(3,_),(4,_),(8,_),(9,_),(25,_)] ?_
  refine cT_ ?_
  iterate 3 refine s1_ ?_
  refine ca_ rfl ((href.frame f4).frame f8) ?_
  rintro _ S1 ⟨Sa,⟨M2,⟨v,rfl,hl2,hdk⟩,fc,hSa⟩,fd,h1⟩
  rw [h1,hSa];rw [hSa] at fd;clear h1 S1 hSa Sa
  obtain ⟨qe,de,qw,dw,rfl,_⟩:=id hdk
  obtain ⟨ge,_⟩:=fresh_set fd
  iterate 6 refine s1_ ?_
  refine su_ [(0,_),(1,_),(2,_),(3,_),(4,_),(8,_),(9,_),(25,_)] ?_
  iterate 2 refine s1_ ?_
  refine ⟨_,M2,⟨_,_,_,rfl,.inr ⟨ty_agg_25,[_,_,_,_,_],ty_size_25,rds_,rfl⟩,⟨_,_,rfl,rfl,rfl⟩,rfl⟩,less_,?_⟩
  exact ⟨_,rfl,hl2,hdk⟩
 rw [if_neg (by omega)]
 obtain ⟨k,rfl⟩:=Int.eq_ofNat_of_zero_le (by omega:0≤w)
 rw [Int.toNat_natCast]
 have hput:=fun (h:l.all (rowOK k)=true)=>rr_Put v d s k l.length (bs (l.flatMap recB)) S hd hz (by omega) (by omega) (by rw [size_bs,recs_len l h];unfold eachN;rw [if_neg (by omega)])
 have htk:∀ i,i≤l.length→(l.take i).all (rowOK k)=true→((l.take i).flatMap recB).length≤5*k*65536:=fun i hi h=>by
  rw [recs_len _ h,List.length_take]
  exact Nat.mul_le_mul_left _ (by omega)
 have hk40:5*k*65536≤2621440:=by omega
 obtain ⟨pe,ce,pw,cw,rfl,hE,hW⟩:=id hd
 refine ACall.enter (rs:=[.cell 8 25,.tmp 9]) 67 [(0,.agg #[.int .i64 d.size,.slice pe d.ext.length ce,.slice pw d.waits.length cw,.int .i64 d.fuse,.bool d.down]),(1,.string s),(2,.int .i64 (k:Int)),(3,.slice pa hs.length ca)] Tryz.func12 rfl rfl (Nat.le_of_ble_eq_true rfl) rfl ⟨rfl,rfl,rfl,rfl,trivial⟩ ?_
 iterate 2 refine s1_ ?_
 refine k_b5 rfl ?_
 intro b4 f4
 have g4:=f4
 repeat ((with_reducible replace g4:=fresh_set g4);obtain ⟨g4,_⟩:=g4)
 refine nl_ ?_
 refine ARun.alloc (lit_lt rfl) ty_zero_25 ?_
 intro b8 f8
 have g8:=f8
 repeat ((with_reducible replace g8:=fresh_set g8);obtain ⟨g8,_⟩:=g8)
 refine nl_ ?_
 iterate 19 refine s1_ ?_
 refine su_ [(0,_),(1,_),(2,_),(3,_),(4,_),(8,_),(9,_),(25,_)] ?_
 refine cF_ ?_
 iterate 16 refine s1_ ?_
 refine AWP.loop (X:=Nat) (fun i=>[(1,.string s),(2,.int .i64 (k:Int)),(3,.slice pa hs.length ca),(4,.pointer (some ⟨b4,0,none⟩)),(8,.pointer (some ⟨b8,0,none⟩)),(10,.string (bs ((l.take i).flatMap recB))),(30,.slice pa hs.length ca),(31,.int .i64 (hs.length:Int)),(32,.int .i64 (i:Int))]) (fun i=>(S.set b4 (bx d pe ce pw cw)).set b8 zb) (fun i=>i≤l.length∧(l.take i).all (rowOK k)=true) (fun i=>l.length-i) (0) ⟨rfl,rfl,rfl,rfl,rfl,rfl,rfl,rfl,rfl,trivial⟩ (Mem.Less.refl _) (⟨Nat.zero_le _,rfl⟩) ?_
 rintro i ⟨hi,hq⟩
 (try dsimp only at *)
 iterate 6 refine s1_ ?_
 refine AWP.condB rfl (fun hl=>?_) (fun hl=>?_)
 ·have hil:i<l.length:=by have:=of_decide_eq_true hl;omega
  have hia:i<hs.length:=by omega
  obtain ⟨b0,off,rfl,hkn⟩:=ha3.resolve_left (by intro h;rw [h] at hia;exact absurd hia (Nat.not_lt_zero _))
  have hkk:=(hkn i hia).less (show S.Less ((S.set b4 (bx d pe ce pw cw)).set b8 zb) from less_)
  have hrow:=(hae i hil hia).less (show S.Less ((S.set b4 (bx d pe ce pw cw)).set b8 zb) from less_)
  have hmem:=List.getElem_mem hil
  have hRec:=rnumV_Record l[i] hs[i] _ hrow (hb _ hmem)
  unfold recP at hRec
  obtain ⟨xa,xc,hxe,-⟩:=id hrow
  by_cases hr:recOK l[i]=true
  ·rw [if_pos hr] at hRec;simp only [pairV,two] at hRec
   iterate 11 refine s1_ ?_
   refine su_ [(1,_),(2,_),(3,_),(4,_),(8,_),(10,_),(30,_),(31,_),(32,_),(33,_),(12,_)] ?_
   iterate 3 refine s1_ ?_
   refine ca_ rfl (hRec) ?_
   rintro _ S1 ⟨rfl,h1⟩
   rw [h1];clear h1 S1
   rw [hxe]
   iterate 7 refine s1_ ?_
   refine su_ [(1,_),(2,_),(3,_),(4,_),(8,_),(10,_),(30,_),(31,_),(32,_),(33,_),(12,_),(13,_),(14,_)] ?_
   by_cases hx:(l[i]).length=k
   ·iterate 13 refine s1_ ?_
    refine su_ [(1,_),(2,_),(3,_),(4,_),(8,_),(10,_),(30,_),(31,_),(32,_),(33,_),(12,_),(13,_),(14,_),(48,_)] ?_
    refine cF_ ?_
    have hsz:(bs (recB l[i])).size=5*k:=by rw [size_bs,recB_len,hx]
    have hti:=htk i hi hq
    have hts:(bs ((l.take i).flatMap recB)).size=((l.take i).flatMap recB).length:=size_bs _
    iterate 10 refine s1_ ?_
    refine su_ [(1,_),(2,_),(3,_),(4,_),(8,_),(10,_),(30,_),(31,_),(32,_),(33,_),(12,_),(13,_),(14,_),(48,_)] ?_
    iterate 5 refine s1_ ?_
    refine ⟨i+1,?_,?_,?_,?_⟩
    all_goals (try dsimp only)
    ·exact ⟨rfl,rfl,rfl,rfl,rfl,by rw [show (l.take (i+1)).flatMap recB=(l.take i).flatMap recB ++ recB l[i] from by rw [List.take_succ_eq_append_getElem hil,List.flatMap_append];simp,show bs ((l.take i).flatMap recB ++ recB l[i])=bs ((l.take i).flatMap recB) ++ bs (recB l[i]) from by apply str_ext;simp [bs]];rfl,rfl,rfl,some_int (by omega),trivial⟩
    ·exact Mem.Less.refl _
    ·exact ⟨hil,all_take hil hq (by unfold rowOK;rw [hr,decide_eq_true hx];rfl)⟩
    ·omega
   ·iterate 13 refine s1_ ?_
    refine su_ [(1,_),(2,_),(3,_),(4,_),(8,_),(10,_),(30,_),(31,_),(32,_),(33,_),(12,_),(13,_),(14,_),(48,_)] ?_
    refine cT_ ?_
    rw [if_neg (fun h=>by have:=List.all_eq_true.1 h _ hmem;unfold rowOK at this;rw [Bool.and_eq_true,decide_eq_true_eq] at this;exact hx this.2)]
    iterate 3 refine s1_ ?_
    refine ca_ rfl ((href.frame f4).frame f8) ?_
    rintro _ S1 ⟨Sa,⟨M2,⟨v,rfl,hl2,hdk⟩,fc,hSa⟩,fd,h1⟩
    rw [h1,hSa];rw [hSa] at fd;clear h1 S1 hSa Sa
    obtain ⟨qe,de,qw,dw,rfl,_⟩:=id hdk
    obtain ⟨ge,_⟩:=fresh_set fd
    iterate 6 refine s1_ ?_
    refine su_ [(1,_),(2,_),(3,_),(4,_),(8,_),(10,_),(30,_),(31,_),(32,_),(33,_),(12,_),(13,_),(14,_),(48,_),(9,_)] ?_
    iterate 7 refine s1_ ?_
    refine ⟨_,M2,⟨_,_,_,rfl,.inr ⟨ty_agg_25,[_,_,_,_,_],ty_size_25,rds_,rfl⟩,⟨_,_,rfl,rfl,rfl⟩,rfl⟩,less_,?_⟩
    exact ⟨_,rfl,hl2,hdk⟩
  ·rw [if_neg hr] at hRec
   rw [if_neg (fun h=>by have:=List.all_eq_true.1 h _ hmem;unfold rowOK at this;rw [Bool.and_eq_true] at this;exact hr this.1)]
   iterate 11 refine s1_ ?_
   refine su_ [(1,_),(2,_),(3,_),(4,_),(8,_),(10,_),(30,_),(31,_),(32,_),(33,_),(12,_)] ?_
   iterate 3 refine s1_ ?_
   refine ca_ rfl (hRec) ?_
   rintro _ S1 ⟨rfl,h1⟩
   rw [h1];clear h1 S1
   iterate 7 refine s1_ ?_
   refine su_ [(1,_),(2,_),(3,_),(4,_),(8,_),(10,_),(30,_),(31,_),(32,_),(33,_),(12,_),(13,_),(14,_)] ?_
   iterate 13 refine s1_ ?_
   refine su_ [(1,_),(2,_),(3,_),(4,_),(8,_),(10,_),(30,_),(31,_),(32,_),(33,_),(12,_),(13,_),(14,_),(48,_)] ?_
   refine cT_ ?_
   iterate 3 refine s1_ ?_
   refine ca_ rfl ((href.frame f4).frame f8) ?_
   rintro _ S1 ⟨Sa,⟨M2,⟨v,rfl,hl2,hdk⟩,fc,hSa⟩,fd,h1⟩
   rw [h1,hSa];rw [hSa] at fd;clear h1 S1 hSa Sa
   obtain ⟨qe,de,qw,dw,rfl,_⟩:=id hdk
   obtain ⟨ge,_⟩:=fresh_set fd
   iterate 6 refine s1_ ?_
   refine su_ [(1,_),(2,_),(3,_),(4,_),(8,_),(10,_),(30,_),(31,_),(32,_),(33,_),(12,_),(13,_),(14,_),(48,_),(9,_)] ?_
   iterate 7 refine s1_ ?_
   refine ⟨_,M2,⟨_,_,_,rfl,.inr ⟨ty_agg_25,[_,_,_,_,_],ty_size_25,rds_,rfl⟩,⟨_,_,rfl,rfl,rfl⟩,rfl⟩,less_,?_⟩
   exact ⟨_,rfl,hl2,hdk⟩
 ·obtain rfl:i=l.length:=by have:=of_decide_eq_false hl;omega
  rw [List.take_length] at hq ⊢
  rw [if_pos hq,hlen]
  iterate 14 refine s1_ ?_
  refine ca_ rfl (((hput hq).frame f4).frame f8) ?_
  rintro _ S1 ⟨Sa,⟨M2,⟨v,rfl,hl2,hdk⟩,fc,hSa⟩,fd,h1⟩
  rw [h1,hSa];rw [hSa] at fd;clear h1 S1 hSa Sa
  obtain ⟨qe,de,qw,dw,rfl,_⟩:=id hdk
  obtain ⟨ge,_⟩:=fresh_set fd
  iterate 6 refine s1_ ?_
  refine su_ [(1,_),(2,_),(3,_),(4,_),(8,_),(10,_),(30,_),(31,_),(32,_),(33,_),(9,_)] ?_
  refine s1_ ?_
  refine ⟨_,M2,⟨_,_,_,rfl,.inr ⟨ty_agg_25,[_,_,_,_,_],ty_size_25,rds_,rfl⟩,⟨_,_,rfl,rfl,rfl⟩,rfl⟩,less_,?_⟩
  exact ⟨_,rfl,hl2,hdk⟩
end Rec
end Go.Proofs.YtceikpipmcadmaaGreatDoor
namespace Go.Proofs.YtceikpipmcadmaaGreatDoor
open Go.RowKit
open Mv Num
set_option maxRecDepth 4000
theorem cells_snoc (l : List Nat) (x : Nat) : (l ++ [x]).map (fun n : Nat => Value.int .u64 (n : Int)) = l.map (fun n : Nat => Value.int .u64 (n : Int)) ++ [.int .u64 (x : Int)] := by simp
set_option maxHeartbeats 4000000 in
theorem rnumV_Split (s : ByteArray) (w : Int) (S : Mem) (hs : s.size ≤ 16777216) :
  ACall Tryz.prog 58 #[.string s,.int .i64 w] S (SplitR s w S):=by
 have hsz:=size_list s
 by_cases c1:w<1
 ·obtain ⟨q1,q2⟩:=splitE_1 s w (.inl c1)
  refine ACall.enter (rs:=[.tmp 4,.tmp 5]) 55 [(0,.string s),(1,.int .i64 w)] Tryz.func58 rfl rfl (Nat.le_of_ble_eq_true rfl) rfl ⟨rfl,rfl,trivial⟩ ?_
  iterate 17 refine s1_ ?_
  refine su_ [(0,_),(1,_),(4,_),(5,_),(15,_)] ?_
  refine cT_ ?_
  iterate 8 refine s1_ ?_
  refine ⟨_,S,⟨_,_,rfl,⟨_,_,rfl,rfl,rfl⟩,rfl⟩,less_,?_⟩
  exact ⟨_,by rw [q1];rfl,Mem.Less.refl _,by rw [q2];exact SlOf.nil _ _⟩
 by_cases c2:8<w
 ·obtain ⟨q1,q2⟩:=splitE_1 s w (.inr c2)
  refine ACall.enter (rs:=[.tmp 4,.tmp 5]) 55 [(0,.string s),(1,.int .i64 w)] Tryz.func58 rfl rfl (Nat.le_of_ble_eq_true rfl) rfl ⟨rfl,rfl,trivial⟩ ?_
  iterate 17 refine s1_ ?_
  refine su_ [(0,_),(1,_),(4,_),(5,_),(15,_)] ?_
  refine cT_ ?_
  iterate 8 refine s1_ ?_
  refine ⟨_,S,⟨_,_,rfl,⟨_,_,rfl,rfl,rfl⟩,rfl⟩,less_,?_⟩
  exact ⟨_,by rw [q1];rfl,Mem.Less.refl _,by rw [q2];exact SlOf.nil _ _⟩
 obtain ⟨W,rfl⟩ : ∃ W:Nat,w=W:=⟨w.toNat,by omega⟩
 by_cases c3:s.size % (5*W)=0
 ·obtain ⟨q1,q2⟩:=splitE_0 s W (by omega) c3
  rw [Int.toNat_natCast] at q2
  obtain ⟨B,hB⟩ : ∃ B,B=5*W:=⟨_,rfl⟩
  rw [← hB] at c3 q2
  obtain ⟨Q,hQ⟩ : ∃ Q,Q=s.size / B:=⟨_,rfl⟩
  have hQB:s.size=Q*B:=by rw [hQ,Nat.mul_comm];have:=Nat.div_add_mod s.size B;omega
  rw [← hQ] at q2
  have hc3:((s.size:Int) % (5*(W:Int)))=0:=by rw [show (5*(W:Int))=((B:Nat):Int) from by omega,← Int.natCast_emod,c3];rfl
  refine ACall.enter (rs:=[.tmp 4,.tmp 5]) 55 [(0,.string s),(1,.int .i64 (W:Int))] Tryz.func58 rfl rfl (Nat.le_of_ble_eq_true rfl) rfl ⟨rfl,rfl,trivial⟩ ?_
  iterate 17 refine s1_ ?_
  refine su_ [(0,_),(1,_),(4,_),(5,_),(15,_)] ?_
  refine cF_ ?_
  iterate 10 refine s1_ ?_
  refine rC (Calm.bin rfl rfl (bin_bool (bin_neq _ _) (bnot_dec_false hc3))) ?_
  iterate 2 refine s1_ ?_
  refine su_ [(0,_),(1,_),(4,_),(5,_),(15,_),(21,_)] ?_
  refine cF_ ?_
  iterate 14 refine s1_ ?_
  refine AWP.loop (X:=Nat × Mem × Option (Nat × Nat) × List Value) (fun x=>[(0,.string s),(1,.int .i64 W),(6,outV x.2.2.1 x.2.2.2.length),(7,.int .i64 (x.1*B:Nat))]) (fun x=>outM x.2.1 x.2.2.1 69 x.2.2.2) (fun x=>x.1≤Q∧x.2.2.2.length=x.1∧GrowI RowR S x.2.1 x.2.2.1 x.2.2.2 (rowsTo s.data.toList W x.1)) (fun x=>Q-x.1) ((0,S,none,[])) ⟨rfl,rfl,rfl,some_int (by rw [Nat.zero_mul];rfl),trivial⟩ (Mem.Less.refl _) (⟨Nat.zero_le _,rfl,GrowI.nil _ _⟩) ?_
  rintro ⟨k,M,o,hs⟩ ⟨hk,hkl,hI⟩
  (try dsimp only at *)
  have hkQ:k*B≤Q*B:=Nat.mul_le_mul_right _ hk
  have hk5:k*5≤k*B:=Nat.mul_le_mul_left _ (by omega)
  by_cases hl:k<Q
  ·have hkB:(k+1)*B≤Q*B:=Nat.mul_le_mul_right _ hl
   rw [Nat.succ_mul] at hkB
   iterate 9 refine s1_ ?_
   refine su_ [(0,_),(1,_),(6,_),(7,_),(25,_)] ?_
   refine cT_ ?_
   iterate 16 refine s1_ ?_
   refine AWP.loop (X:=Nat × Option (Nat × Nat)) (fun x=>[(0,.string s),(1,.int .i64 W),(6,outV o hs.length),(7,.int .i64 (k*B:Nat)),(8,outV x.2 x.1),(9,.int .i64 x.1)]) (fun x=>outM (outM M o 69 hs) x.2 27 ((nrow s.data.toList x.1 (k*B)).map (fun n:Nat=>Value.int .u64 (n:Int)))) (fun x=>x.1≤W∧OkO (outM M o 69 hs) x.2 x.1) (fun x=>W-x.1) ((0,none)) ⟨rfl,rfl,rfl,rfl,rfl,rfl,trivial⟩ (Mem.Less.refl _) (⟨Nat.zero_le _,okO_nil _⟩) ?_
   rintro ⟨j,o2⟩ ⟨hj,ho2⟩
   (try dsimp only at *)
   have hnl:((nrow s.data.toList j (k*B)).map (fun n:Nat=>Value.int .u64 (n:Int))).length=j:=by rw [List.length_map,nrow_length]
   iterate 8 refine s1_ ?_
   refine su_ [(0,_),(1,_),(6,_),(7,_),(8,_),(9,_),(32,_)] ?_
   refine AWP.condB rfl (fun hjl=>?_) (fun hjl=>?_)
   ·have hjl:j<W:=by have:=of_decide_eq_true hjl;omega
    have he:s.extract ((k*B:Nat)+5*(j:Int)).toNat ((k*B:Nat)+5*(j:Int)+5).toNat=bs ((s.data.toList.drop (k*B+5*j)).take 5):=by rw [show ((k*B:Nat)+5*(j:Int)).toNat=k*B+5*j from by omega,show ((k*B:Nat)+5*(j:Int)+5).toNat=5+(k*B+5*j) from by omega];apply str_ext;rw [data_extract,bs_data,List.drop_take,show 5+(k*B+5*j)-(k*B+5*j)=5 from by omega]
    iterate 16 refine s1_ ?_
    refine rC (Calm.as (congrArg Value.string he) (Calm.sliceStr (strT_spec ty_str_9) rfl (bnd_some _ _ rfl (by omega) (by omega)) (bnd_some _ _ rfl (by omega) (by omega)))) ?_
    refine ca_ rfl (rnumV_Of _ _ (by rw [bs_size,List.length_take,List.length_drop];omega)) ?_
    rintro _ S1 ⟨rfl,h1⟩
    rw [h1,bs_data];clear h1 S1
    refine ARun.build1s (lit_lt rfl) ty_sl_69 rfl rfl ?_
    intro b48 f48
    have g48:=f48
    repeat ((with_reducible replace g48:=fresh_set g48);obtain ⟨g48,_⟩:=g48)
    refine ARun.appendO (lit_lt rfl) ty_sl_69 rfl hnl (appO_of ho2 hnl g48) rfl (news:=[_]) rds_ rfl (by omega) (by simp [Value.oneCell']) (by omega) (by omega) ?_
    intro b49 c49 ho3
    rw [← cells_snoc,← nrow_succ]
    iterate 4 refine s1_ ?_
    refine su_ [(0,_),(1,_),(6,_),(7,_),(8,_),(9,_),(32,_)] ?_
    iterate 6 refine s1_ ?_
    refine ⟨(j+1,some (b49,c49)),?_,?_,?_,?_⟩
    all_goals (try dsimp only)
    ·exact ⟨rfl,rfl,rfl,rfl,rfl,rfl,trivial⟩
    ·exact Mem.Less.refl _
    ·exact ⟨hjl,ho3⟩
    ·omega
   ·have hjl:j=W:=by have:=of_decide_eq_false hjl;omega
    subst hjl
    have hnr:=nrow_length s.data.toList j (k*B)
    obtain ⟨b2,c2,rfl⟩:=ho2.some (by omega)
    obtain ⟨hfb,hcb⟩:=ho2.own b2 c2 rfl
    obtain ⟨hfM,hnq⟩:=fresh_outM hfb
    rw [show outM (outM M o 69 hs) (some (b2,c2)) 27 ((nrow s.data.toList j (k*B)).map (fun n:Nat=>Value.int .u64 (n:Int)))=outM (M.set b2 ⟨27,(nrow s.data.toList j (k*B)).map (fun n:Nat=>Value.int .u64 (n:Int)),c2⟩) o 69 hs from outM_set _ _ _ _ _ _ hnq]
    have ho1:=hI.ok.set (r:=⟨27,(nrow s.data.toList j (k*B)).map (fun n:Nat=>Value.int .u64 (n:Int)),c2⟩) hnq
    have hr:=sl_u64 (S:=M.set b2 ⟨27,(nrow s.data.toList j (k*B)).map (fun n:Nat=>Value.int .u64 (n:Int)),c2⟩) (cap:=c2) (Mem.own_set_same _ _ _) hnr hcb (by omega)
    have hlm:=Mem.less_set M b2 ⟨27,(nrow s.data.toList j (k*B)).map (fun n:Nat=>Value.int .u64 (n:Int)),c2⟩ hfM.1
    obtain ⟨M1,hM1⟩ : ∃ M1,M1=M.set b2 ⟨27,(nrow s.data.toList j (k*B)).map (fun n:Nat=>Value.int .u64 (n:Int)),c2⟩:=⟨_,rfl⟩
    rw [← hM1] at ho1 hr hlm ⊢
    iterate 8 refine s1_ ?_
    refine ARun.build1s (lit_lt rfl) ty_sl_26 rfl rfl ?_
    intro b52 f52
    have g52:=f52
    repeat ((with_reducible replace g52:=fresh_set g52);obtain ⟨g52,_⟩:=g52)
    refine ARun.appendO (lit_lt rfl) ty_sl_26 rfl rfl (appO_of ho1 rfl g52) rfl (news:=[_]) rds_ rfl (by omega) (by simp [Value.oneCell',outV]) (by omega) (by omega) ?_
    intro b53 c53 hoo
    have hI2:=hI.step rowR_less hlm hr hoo
    rw [show k*B=k*(5*j) from by rw [hB],← rowsTo_succ] at hI2
    iterate 4 refine s1_ ?_
    refine su_ [(0,_),(1,_),(6,_),(7,_),(8,_),(9,_),(32,_)] ?_
    iterate 8 refine s1_ ?_
    refine ⟨(k+1,M1,some (b53,c53),hs ++ [.slice (some ⟨b2,0,none⟩) j c2]),?_,?_,?_,?_⟩
    all_goals (try dsimp only)
    ·exact ⟨rfl,rfl,by rw [List.length_append];rfl,some_int (by rw [Nat.succ_mul];omega),trivial⟩
    ·exact Mem.Less.refl _
    ·exact ⟨hl,by rw [List.length_append,hkl];rfl,hI2⟩
    ·omega
  ·have hkQ2:k=Q:=by omega
   subst hkQ2
   iterate 9 refine s1_ ?_
   refine su_ [(0,_),(1,_),(6,_),(7,_),(25,_)] ?_
   refine cF_ ?_
   iterate 12 refine s1_ ?_
   refine su_ [(0,_),(1,_),(6,_),(7,_),(25,_),(4,_),(5,_)] ?_
   refine s1_ ?_
   refine ⟨_,_,⟨_,_,rfl,⟨_,_,rfl,rfl,rfl⟩,rfl⟩,less_,?_⟩
   exact ⟨_,by rw [q1];rfl,hI.less.trans (outM_over hI.ok),by rw [q2];exact hI.slOf rowR_less (by omega)⟩
 ·obtain ⟨q1,q2⟩:=splitE_5 s W (by omega) (by rw [Int.toNat_natCast];exact c3)
  have hc3 : ¬ ((s.size:Int) % (5*(W:Int)))=0:=by rw [show (5*(W:Int))=((5*W:Nat):Int) from by omega,← Int.natCast_emod];omega
  refine ACall.enter (rs:=[.tmp 4,.tmp 5]) 55 [(0,.string s),(1,.int .i64 (W:Int))] Tryz.func58 rfl rfl (Nat.le_of_ble_eq_true rfl) rfl ⟨rfl,rfl,trivial⟩ ?_
  iterate 17 refine s1_ ?_
  refine su_ [(0,_),(1,_),(4,_),(5,_),(15,_)] ?_
  refine cF_ ?_
  iterate 10 refine s1_ ?_
  refine rC (Calm.bin rfl rfl (bin_bool (bin_neq _ _) (bnot_dec_true hc3))) ?_
  iterate 2 refine s1_ ?_
  refine su_ [(0,_),(1,_),(4,_),(5,_),(15,_),(21,_)] ?_
  refine cT_ ?_
  iterate 8 refine s1_ ?_
  refine ⟨_,S,⟨_,_,rfl,⟨_,_,rfl,rfl,rfl⟩,rfl⟩,less_,?_⟩
  exact ⟨_,by rw [q1];rfl,Mem.Less.refl _,by rw [q2];exact SlOf.nil _ _⟩
end Go.Proofs.YtceikpipmcadmaaGreatDoor
namespace Go.Proofs.YtceikpipmcadmaaGreatDoor
open Go.RowKit
open Mv Disk Num
set_option maxRecDepth 4000
namespace Rec
theorem readO_size {d : D} {s : ByteArray} {k : Int} (h : (readO d s k).2 = 0) : openD d = (d, 0) ∧ Right d ∧ d.down = false ∧ (readO d s k).1.size = 64 := by
 unfold readO at h ⊢
 by_cases ho:(openD d).2≠0
 ·rw [if_pos ho] at h;exact absurd h ho
 rw [if_neg ho] at h ⊢
 rcases openD_or d with ⟨h1,hR⟩ | ⟨h1,hR,hdn⟩ | ⟨h1,hR,hdn⟩
 ·rw [h1] at ho;simp at ho
 ·rw [h1] at ho;simp at ho
 ·exact ⟨h1,hR,hdn,(readD_size hR h).2⟩
theorem zero_is (l : List UInt8) : zeroL l = true ↔ l = List.replicate l.length 0 := by
 unfold zeroL
 induction l with
 | nil=>simp
 | cons a l ih =>
  rw [List.all_cons,Bool.and_eq_true,ih,List.length_cons,List.replicate_succ]
  constructor
  ·rintro ⟨h1,h2⟩;rw [← h2];simp at h1;rw [h1]
  ·intro h;obtain ⟨h1,h2⟩:=List.cons.inj h;exact ⟨by simp [h1],h2⟩
theorem made_cells (n : Nat) (k : Nat) (h : k = n) : madeL [.int .u8 0] (k * 1) = cellsB (List.replicate n 0) := by
 subst h
 rw [madeL_one,Nat.mul_one]
 simp [cellsB,nb]
set_option maxHeartbeats 4000000 in
theorem rr_Head (v : Value) (d : D) (s : ByteArray) (S : Mem) (hd : DkR S v d) (hz : Dz d) :
  ACall Tryz.prog 20 #[v,.string s] S fun r S'=>r=formV (headP d s)∧S'=S:=by
 have hread:=fun M h=>rd_Read v d s 0 M h hz
 have hsecs:=fun M h=>rd_Sectors v d s M h hz
 unfold headP
 obtain ⟨pe,ce,pw,cw,rfl,hE,hW⟩:=id hd
 by_cases q1:(readO d s 0).2=0
 ·rw [if_neg (by omega)]
  obtain ⟨_,_,_,h64⟩:=readO_size q1
  obtain ⟨f1,f2,f3⟩:=form_le h64
  rw [show readO d s 0=((readO d s 0).1,0) from Prod.ext rfl q1] at hread
  generalize (readO d s 0).1=y at *
  have hsl:=St.len_list y
  have e2:y.extract 0 (2:Int).toNat=⟨#[87,82]⟩ ↔ y.data.toList.take 2 = [87,82]:=by
   constructor
   ·intro h
    have:=congrArg (fun x=>x.data.toList) h
    rw [show (2:Int).toNat=2 from rfl,Lib.extract_data] at this
    simpa using this
   ·intro h;apply str_ext;rw [show (2:Int).toNat=2 from rfl,Lib.extract_data];simpa using h
  have e12:(y.extract (12:Int).toNat y.size).data.toList=y.data.toList.drop 12:=by rw [show (12:Int).toNat=12 from rfl,Lib.extract_data];rw [List.take_of_length_le (by rw [List.length_drop];omega)]
  have e12':y.extract (12:Int).toNat y.size=bs (List.replicate 52 0) ↔ zeroL (y.data.toList.drop 12)=true:=by
   rw [zero_is,List.length_drop,hsl,show y.size-12=52 from by omega]
   constructor
   ·intro h;rw [← e12,h,bs_data]
   ·intro h;apply str_ext;rw [e12,bs_data];exact h
  unfold formP at f1 f2 f3 ⊢
  by_cases g1:y.data.toList.take 2 = [87,82]
  ·by_cases g2:8<(y.data.toList.getD 2 0).toNat
   ·rw [if_pos (show y.data.toList.take 2 ≠ [87,82]∨8<(y.data.toList.getD 2 0).toNat∨zeroL (y.data.toList.drop 12)=false from .inr (.inl g2)),if_pos (by simp)]
    have hn:(8:Int)<nb (at8 y.data.toList (2:Int).toNat):=by rw [at8_getD];unfold nb;exact Int.ofNat_lt.2 g2
    refine ACall.enter (rs:=[.tmp 4,.tmp 5,.tmp 6]) 74 [(0,.agg #[.int .i64 d.size,.slice pe d.ext.length ce,.slice pw d.waits.length cw,.int .i64 d.fuse,.bool d.down]),(1,.string s)] Tryz.func20 rfl rfl (Nat.le_of_ble_eq_true rfl) rfl ⟨rfl,rfl,trivial⟩ ?_
    iterate 2 refine s1_ ?_
    refine k_b5 rfl ?_
    intro b2 f2
    have g2:=f2
    repeat ((with_reducible replace g2:=fresh_set g2);obtain ⟨g2,_⟩:=g2)
    refine nl_ ?_
    iterate 9 refine s1_ ?_
    refine ca_ rfl (hread _ (hd.less less_)) ?_
    rintro _ S1 ⟨rfl,h1⟩
    rw [h1];clear h1 S1
    iterate 7 refine s1_ ?_
    refine su_ [(0,_),(1,_),(2,_),(4,_),(5,_),(6,_),(7,_),(8,_)] ?_
    iterate 7 refine s1_ ?_
    refine su_ [(0,_),(1,_),(2,_),(4,_),(5,_),(6,_),(7,_),(8,_),(21,_)] ?_
    refine cF_ ?_
    iterate 4 refine s1_ ?_
    refine AWP.draw [(0,true),(1,true),(2,true),(3,true),(4,true),(5,true),(6,true),(7,true),(8,true),(9,true),(10,true),(11,false),(12,false),(13,true),(14,true)] [] mixed (by kernel_rfl) ?_
    iterate 2 refine s1_ ?_
    refine dP (hc:=fun _=>Calm.bin rfl rfl (bin_bool (bin_str_neq _ _) (bnot_dec_false (e2.2 g1)))) (h:=?_)
    iterate 2 refine s1_ ?_
    first|refine k_d ?_|refine dL (hc:=Calm.indexStr (strT_spec ty_str_9) rfl rfl (by omega) (by omega)) (h:=?_)
    iterate 5 refine s1_ ?_
    refine draw_only rfl ?_
    refine s1_ ?_
    refine arun_nil ⟨fun _=>less_,?_⟩
    refine draw_only rfl ?_
    refine s1_ ?_
    refine arun_nil ⟨fun _=>less_,?_⟩
    iterate 4 refine s1_ ?_
    refine su_ [(0,_),(1,_),(2,_),(4,_),(5,_),(6,_),(7,_),(8,_),(21,_),(37,_)] ?_
    refine cT_ ?_
    iterate 9 refine s1_ ?_
    refine ⟨_,S,⟨_,_,rfl,⟨_,_,rfl,⟨_,_,rfl,rfl,rfl⟩,rfl⟩,rfl⟩,less_,?_⟩
    exact ⟨rfl,rfl⟩
   ·have hn : ¬ (8:Int)<nb (at8 y.data.toList (2:Int).toNat):=by rw [at8_getD];unfold nb;exact fun h=>g2 (Int.ofNat_lt.1 h)
    have hn0:=nb_nonneg (at8 y.data.toList (2:Int).toNat)
    by_cases g3:zeroL (y.data.toList.drop 12)=false
    ·rw [if_pos (show y.data.toList.take 2 ≠ [87,82]∨8<(y.data.toList.getD 2 0).toNat∨zeroL (y.data.toList.drop 12)=false from .inr (.inr g3)),if_pos (by simp)]
     have g3' : ¬ y.extract (12:Int).toNat y.size=bs (List.replicate 52 0):=fun h=>by rw [e12'.1 h] at g3;cases g3
     refine ACall.enter (rs:=[.tmp 4,.tmp 5,.tmp 6]) 74 [(0,.agg #[.int .i64 d.size,.slice pe d.ext.length ce,.slice pw d.waits.length cw,.int .i64 d.fuse,.bool d.down]),(1,.string s)] Tryz.func20 rfl rfl (Nat.le_of_ble_eq_true rfl) rfl ⟨rfl,rfl,trivial⟩ ?_
     iterate 2 refine s1_ ?_
     refine k_b5 rfl ?_
     intro b2 f2
     have g2:=f2
     repeat ((with_reducible replace g2:=fresh_set g2);obtain ⟨g2,_⟩:=g2)
     refine nl_ ?_
     iterate 9 refine s1_ ?_
     refine ca_ rfl (hread _ (hd.less less_)) ?_
     rintro _ S1 ⟨rfl,h1⟩
     rw [h1];clear h1 S1
     iterate 7 refine s1_ ?_
     refine su_ [(0,_),(1,_),(2,_),(4,_),(5,_),(6,_),(7,_),(8,_)] ?_
     iterate 7 refine s1_ ?_
     refine su_ [(0,_),(1,_),(2,_),(4,_),(5,_),(6,_),(7,_),(8,_),(21,_)] ?_
     refine cF_ ?_
     iterate 4 refine s1_ ?_
     refine AWP.draw [(0,true),(1,true),(2,true),(3,true),(4,true),(5,true),(6,true),(7,true),(8,true),(9,true),(10,true),(11,false),(12,false),(13,true),(14,true)] [] mixed (by kernel_rfl) ?_
     iterate 2 refine s1_ ?_
     refine dP (hc:=fun _=>Calm.bin rfl rfl (bin_bool (bin_str_neq _ _) (bnot_dec_false (e2.2 g1)))) (h:=?_)
     iterate 2 refine s1_ ?_
     first|refine k_d ?_|refine dL (hc:=Calm.indexStr (strT_spec ty_str_9) rfl rfl (by omega) (by omega)) (h:=?_)
     iterate 5 refine s1_ ?_
     refine draw_only rfl ?_
     refine rUn 31 ?_
     refine ARun.makeSlice (lit_lt rfl) ty_sl_61 rfl rfl (by omega) (by omega) (by omega) (by omega) ?_
     intro b34 f34
     have g34:=f34
     repeat ((with_reducible replace g34:=fresh_set g34);obtain ⟨g34,_⟩:=g34)
     refine arun_nil ⟨fun _=>less_,?_⟩
     refine draw_only rfl ?_
     first|refine k_q 31 ?_|refine rG 31 (Calm.toStr (l:=List.replicate 52 0) ty_bytes_61 ty_str_9 rfl rfl (rds_ownE (Mem.own_set_same _ b34 _) (made_cells 52 _ rfl))) ?_
     refine arun_nil ⟨fun _=>less_,?_⟩
     first|refine k_d ?_|refine dG (hc:=fun _=>Calm.bin rfl rfl (bin_bool (bin_str_neq _ _) (bnot_dec_true g3'))) (h:=?_)
     iterate 3 refine s1_ ?_
     refine su_ [(0,_),(1,_),(2,_),(4,_),(5,_),(6,_),(7,_),(8,_),(21,_),(37,_)] ?_
     refine cT_ ?_
     iterate 9 refine s1_ ?_
     refine ⟨_,S,⟨_,_,rfl,⟨_,_,rfl,⟨_,_,rfl,rfl,rfl⟩,rfl⟩,rfl⟩,less_,?_⟩
     exact ⟨rfl,rfl⟩
    ·have hno : ¬ (y.data.toList.take 2 ≠ [87,82]∨8<(y.data.toList.getD 2 0).toNat∨zeroL (y.data.toList.drop 12)=false):=fun h=>by rcases h with h | h | h;exact h g1;exact g2 h;exact g3 h
     rw [if_neg hno] at f1 f2 f3 ⊢
     have g3':y.extract (12:Int).toNat y.size=bs (List.replicate 52 0):=e12'.2 (by simpa using g3)
     have ho:∀ M,ACall Tryz.prog 52 #[.string (y.extract 0 12)] M fun r S'=>r = .tuple #[.string (openS (y.extract 0 12)).1,.int .i64 (openS (y.extract 0 12)).2]∧S'=M:=fun M=>ACall.of_calls fun w=>ref_Open _ (by rw [ByteArray.size_extract,h64];decide) w
     by_cases g4:(openS (y.extract 0 12)).2=0
     ·rw [if_neg (by omega : ¬ (openS (y.extract 0 12)).2≠0)] at f1 f2 f3 ⊢
      rw [g4] at ho
      have hof:=fun M=>rnumV_Of (y.extract (3:Int).toNat (8:Int).toNat) M (by rw [ByteArray.size_extract,h64];decide)
      rw [show (y.extract (3:Int).toNat (8:Int).toNat).data.toList=(y.data.toList.drop 3).take 5 from by rw [show (3:Int).toNat=3 from rfl,show (8:Int).toNat=8 from rfl,Lib.extract_data]] at hof
      have f3':=f3 rfl
      clear f3
      simp only at f1 f2 f3'
      rw [if_neg (by simp)]
      simp only
      have hwn:((y.data.toList.getD 2 0).toNat:Int)=nb (at8 y.data.toList (2:Int).toNat):=rfl
      rw [← hwn] at hn0
      generalize hwe:(y.data.toList.getD 2 0).toNat=w at *
      generalize ofB ((y.data.toList.drop 3).take 5)=c at *
      obtain ⟨n1,n2⟩:=need_iff (w:=w) (c:=c) f3'
      have hneed:=fun M=>rr_Need (w:Int) c M
      simp only [needV] at hneed
      have hsc:(sectorsD d s).1=(sectorsD d s).1:=rfl
      generalize sectorsD d s=sc at *
      by_cases q3:65536<c
      ·have n1:=n1.2 q3
       rw [if_pos (.inl n1)]
       generalize needP (w:Int) c=nn at *
       refine ACall.enter (rs:=[.tmp 4,.tmp 5,.tmp 6]) 74 [(0,.agg #[.int .i64 d.size,.slice pe d.ext.length ce,.slice pw d.waits.length cw,.int .i64 d.fuse,.bool d.down]),(1,.string s)] Tryz.func20 rfl rfl (Nat.le_of_ble_eq_true rfl) rfl ⟨rfl,rfl,trivial⟩ ?_
       iterate 2 refine s1_ ?_
       refine k_b5 rfl ?_
       intro b2 f2
       have g2:=f2
       repeat ((with_reducible replace g2:=fresh_set g2);obtain ⟨g2,_⟩:=g2)
       refine nl_ ?_
       iterate 9 refine s1_ ?_
       refine ca_ rfl (hread _ (hd.less less_)) ?_
       rintro _ S1 ⟨rfl,h1⟩
       rw [h1];clear h1 S1
       iterate 7 refine s1_ ?_
       refine su_ [(0,_),(1,_),(2,_),(4,_),(5,_),(6,_),(7,_),(8,_)] ?_
       iterate 7 refine s1_ ?_
       refine su_ [(0,_),(1,_),(2,_),(4,_),(5,_),(6,_),(7,_),(8,_),(21,_)] ?_
       refine cF_ ?_
       iterate 4 refine s1_ ?_
       refine AWP.draw [(0,true),(1,true),(2,true),(3,true),(4,true),(5,true),(6,true),(7,true),(8,true),(9,true),(10,true),(11,false),(12,false),(13,true),(14,true)] [] mixed (by kernel_rfl) ?_
       iterate 2 refine s1_ ?_
       refine dP (hc:=fun _=>Calm.bin rfl rfl (bin_bool (bin_str_neq _ _) (bnot_dec_false (e2.2 g1)))) (h:=?_)
       iterate 2 refine s1_ ?_
       first|refine k_d ?_|refine dL (hc:=Calm.indexStr (strT_spec ty_str_9) rfl rfl (by omega) (by omega)) (h:=?_)
       iterate 5 refine s1_ ?_
       refine draw_only rfl ?_
       refine rUn 31 ?_
       refine ARun.makeSlice (lit_lt rfl) ty_sl_61 rfl rfl (by omega) (by omega) (by omega) (by omega) ?_
       intro b34 f34
       have g34:=f34
       repeat ((with_reducible replace g34:=fresh_set g34);obtain ⟨g34,_⟩:=g34)
       refine arun_nil ⟨fun _=>less_,?_⟩
       refine draw_only rfl ?_
       first|refine k_q 31 ?_|refine rG 31 (Calm.toStr (l:=List.replicate 52 0) ty_bytes_61 ty_str_9 rfl rfl (rds_ownE (Mem.own_set_same _ b34 _) (made_cells 52 _ rfl))) ?_
       refine arun_nil ⟨fun _=>less_,?_⟩
       first|refine k_d ?_|refine dG (hc:=fun _=>Calm.bin rfl rfl (bin_bool (bin_str_neq _ _) (bnot_dec_false g3'))) (h:=?_)
       iterate 3 refine s1_ ?_
       refine su_ [(0,_),(1,_),(2,_),(4,_),(5,_),(6,_),(7,_),(8,_),(21,_),(37,_)] ?_
       refine cF_ ?_
       iterate 6 refine s1_ ?_
       refine ca_ rfl (ho _) ?_
       rintro _ S1 ⟨rfl,h1⟩
       rw [h1];clear h1 S1
       iterate 6 refine s1_ ?_
       refine su_ [(0,_),(1,_),(2,_),(4,_),(5,_),(6,_),(7,_),(8,_),(21,_),(37,_)] ?_
       iterate 7 refine s1_ ?_
       refine su_ [(0,_),(1,_),(2,_),(4,_),(5,_),(6,_),(7,_),(8,_),(21,_),(37,_),(45,_)] ?_
       refine cF_ ?_
       iterate 3 refine s1_ ?_
       refine AWP.draw [(0,true),(1,true),(2,true),(3,true),(4,true),(5,false),(6,true),(7,true)] [] mixed (by kernel_rfl) ?_
       refine s1_ ?_
       refine dC (hc:=Calm.indexStr (strT_spec ty_str_9) rfl rfl (by omega) (by omega)) (h:=?_)
       iterate 3 refine s1_ ?_
       refine draw_only rfl ?_
       refine ca_ rfl (hof _) ?_
       rintro _ S1 ⟨rfl,h1⟩
       rw [h1];clear h1 S1
       refine arun_nil ⟨fun _=>less_,?_⟩
       iterate 4 refine s1_ ?_
       refine su_ [(0,_),(1,_),(2,_),(4,_),(5,_),(6,_),(7,_),(8,_),(21,_),(37,_),(45,_),(9,_),(10,_)] ?_
       rw [← hwn]
       iterate 4 refine s1_ ?_
       refine ca_ rfl (hneed _) ?_
       rintro _ S1 ⟨rfl,h1⟩
       rw [h1];clear h1 S1
       iterate 7 refine s1_ ?_
       refine su_ [(0,_),(1,_),(2,_),(4,_),(5,_),(6,_),(7,_),(8,_),(21,_),(37,_),(45,_),(9,_),(10,_),(11,_)] ?_
       iterate 4 refine s1_ ?_
       refine ca_ rfl (hsecs _ (hd.less less_)) ?_
       rintro _ S1 ⟨rfl,h1⟩
       rw [h1];clear h1 S1
       iterate 7 refine s1_ ?_
       refine su_ [(0,_),(1,_),(2,_),(4,_),(5,_),(6,_),(7,_),(8,_),(21,_),(37,_),(45,_),(9,_),(10,_),(11,_),(12,_)] ?_
       iterate 12 refine s1_ ?_
       refine su_ [(0,_),(1,_),(2,_),(4,_),(5,_),(6,_),(7,_),(8,_),(21,_),(37,_),(45,_),(9,_),(10,_),(11,_),(12,_),(71,_)] ?_
       refine cT_ ?_
       iterate 9 refine s1_ ?_
       refine ⟨_,S,⟨_,_,rfl,⟨_,_,rfl,⟨_,_,rfl,rfl,rfl⟩,rfl⟩,rfl⟩,less_,?_⟩
       exact ⟨rfl,rfl⟩
      ·have n2:=n2 (by omega)
       rw [n2] at hneed ⊢
       generalize needN w c=n at *
       by_cases q4:sc.1=(n:Int)
       ·rw [if_neg (by omega)]
        refine ACall.enter (rs:=[.tmp 4,.tmp 5,.tmp 6]) 74 [(0,.agg #[.int .i64 d.size,.slice pe d.ext.length ce,.slice pw d.waits.length cw,.int .i64 d.fuse,.bool d.down]),(1,.string s)] Tryz.func20 rfl rfl (Nat.le_of_ble_eq_true rfl) rfl ⟨rfl,rfl,trivial⟩ ?_
        iterate 2 refine s1_ ?_
        refine k_b5 rfl ?_
        intro b2 f2
        have g2:=f2
        repeat ((with_reducible replace g2:=fresh_set g2);obtain ⟨g2,_⟩:=g2)
        refine nl_ ?_
        iterate 9 refine s1_ ?_
        refine ca_ rfl (hread _ (hd.less less_)) ?_
        rintro _ S1 ⟨rfl,h1⟩
        rw [h1];clear h1 S1
        iterate 7 refine s1_ ?_
        refine su_ [(0,_),(1,_),(2,_),(4,_),(5,_),(6,_),(7,_),(8,_)] ?_
        iterate 7 refine s1_ ?_
        refine su_ [(0,_),(1,_),(2,_),(4,_),(5,_),(6,_),(7,_),(8,_),(21,_)] ?_
        refine cF_ ?_
        iterate 4 refine s1_ ?_
        refine AWP.draw [(0,true),(1,true),(2,true),(3,true),(4,true),(5,true),(6,true),(7,true),(8,true),(9,true),(10,true),(11,false),(12,false),(13,true),(14,true)] [] mixed (by kernel_rfl) ?_
        iterate 2 refine s1_ ?_
        refine dP (hc:=fun _=>Calm.bin rfl rfl (bin_bool (bin_str_neq _ _) (bnot_dec_false (e2.2 g1)))) (h:=?_)
        iterate 2 refine s1_ ?_
        first|refine k_d ?_|refine dL (hc:=Calm.indexStr (strT_spec ty_str_9) rfl rfl (by omega) (by omega)) (h:=?_)
        iterate 5 refine s1_ ?_
        refine draw_only rfl ?_
        refine rUn 31 ?_
        refine ARun.makeSlice (lit_lt rfl) ty_sl_61 rfl rfl (by omega) (by omega) (by omega) (by omega) ?_
        intro b34 f34
        have g34:=f34
        repeat ((with_reducible replace g34:=fresh_set g34);obtain ⟨g34,_⟩:=g34)
        refine arun_nil ⟨fun _=>less_,?_⟩
        refine draw_only rfl ?_
        first|refine k_q 31 ?_|refine rG 31 (Calm.toStr (l:=List.replicate 52 0) ty_bytes_61 ty_str_9 rfl rfl (rds_ownE (Mem.own_set_same _ b34 _) (made_cells 52 _ rfl))) ?_
        refine arun_nil ⟨fun _=>less_,?_⟩
        first|refine k_d ?_|refine dG (hc:=fun _=>Calm.bin rfl rfl (bin_bool (bin_str_neq _ _) (bnot_dec_false g3'))) (h:=?_)
        iterate 3 refine s1_ ?_
        refine su_ [(0,_),(1,_),(2,_),(4,_),(5,_),(6,_),(7,_),(8,_),(21,_),(37,_)] ?_
        refine cF_ ?_
        iterate 6 refine s1_ ?_
        refine ca_ rfl (ho _) ?_
        rintro _ S1 ⟨rfl,h1⟩
        rw [h1];clear h1 S1
        iterate 6 refine s1_ ?_
        refine su_ [(0,_),(1,_),(2,_),(4,_),(5,_),(6,_),(7,_),(8,_),(21,_),(37,_)] ?_
        iterate 7 refine s1_ ?_
        refine su_ [(0,_),(1,_),(2,_),(4,_),(5,_),(6,_),(7,_),(8,_),(21,_),(37,_),(45,_)] ?_
        refine cF_ ?_
        iterate 3 refine s1_ ?_
        refine AWP.draw [(0,true),(1,true),(2,true),(3,true),(4,true),(5,false),(6,true),(7,true)] [] mixed (by kernel_rfl) ?_
        refine s1_ ?_
        refine dC (hc:=Calm.indexStr (strT_spec ty_str_9) rfl rfl (by omega) (by omega)) (h:=?_)
        iterate 3 refine s1_ ?_
        refine draw_only rfl ?_
        refine ca_ rfl (hof _) ?_
        rintro _ S1 ⟨rfl,h1⟩
        rw [h1];clear h1 S1
        refine arun_nil ⟨fun _=>less_,?_⟩
        iterate 4 refine s1_ ?_
        refine su_ [(0,_),(1,_),(2,_),(4,_),(5,_),(6,_),(7,_),(8,_),(21,_),(37,_),(45,_),(9,_),(10,_)] ?_
        rw [← hwn]
        iterate 4 refine s1_ ?_
        refine ca_ rfl (hneed _) ?_
        rintro _ S1 ⟨rfl,h1⟩
        rw [h1];clear h1 S1
        iterate 7 refine s1_ ?_
        refine su_ [(0,_),(1,_),(2,_),(4,_),(5,_),(6,_),(7,_),(8,_),(21,_),(37,_),(45,_),(9,_),(10,_),(11,_)] ?_
        iterate 4 refine s1_ ?_
        refine ca_ rfl (hsecs _ (hd.less less_)) ?_
        rintro _ S1 ⟨rfl,h1⟩
        rw [h1];clear h1 S1
        iterate 7 refine s1_ ?_
        refine su_ [(0,_),(1,_),(2,_),(4,_),(5,_),(6,_),(7,_),(8,_),(21,_),(37,_),(45,_),(9,_),(10,_),(11,_),(12,_)] ?_
        iterate 12 refine s1_ ?_
        refine su_ [(0,_),(1,_),(2,_),(4,_),(5,_),(6,_),(7,_),(8,_),(21,_),(37,_),(45,_),(9,_),(10,_),(11,_),(12,_),(71,_)] ?_
        refine cF_ ?_
        iterate 11 refine s1_ ?_
        refine su_ [(0,_),(1,_),(2,_),(4,_),(5,_),(6,_),(7,_),(8,_),(21,_),(37,_),(45,_),(9,_),(10,_),(11,_),(12,_),(71,_)] ?_
        refine s1_ ?_
        refine ⟨_,S,⟨_,_,rfl,⟨_,_,rfl,⟨_,_,rfl,rfl,rfl⟩,rfl⟩,rfl⟩,less_,?_⟩
        exact ⟨rfl,rfl⟩
       ·rw [if_pos (.inr q4)]
        refine ACall.enter (rs:=[.tmp 4,.tmp 5,.tmp 6]) 74 [(0,.agg #[.int .i64 d.size,.slice pe d.ext.length ce,.slice pw d.waits.length cw,.int .i64 d.fuse,.bool d.down]),(1,.string s)] Tryz.func20 rfl rfl (Nat.le_of_ble_eq_true rfl) rfl ⟨rfl,rfl,trivial⟩ ?_
        iterate 2 refine s1_ ?_
        refine k_b5 rfl ?_
        intro b2 f2
        have g2:=f2
        repeat ((with_reducible replace g2:=fresh_set g2);obtain ⟨g2,_⟩:=g2)
        refine nl_ ?_
        iterate 9 refine s1_ ?_
        refine ca_ rfl (hread _ (hd.less less_)) ?_
        rintro _ S1 ⟨rfl,h1⟩
        rw [h1];clear h1 S1
        iterate 7 refine s1_ ?_
        refine su_ [(0,_),(1,_),(2,_),(4,_),(5,_),(6,_),(7,_),(8,_)] ?_
        iterate 7 refine s1_ ?_
        refine su_ [(0,_),(1,_),(2,_),(4,_),(5,_),(6,_),(7,_),(8,_),(21,_)] ?_
        refine cF_ ?_
        iterate 4 refine s1_ ?_
        refine AWP.draw [(0,true),(1,true),(2,true),(3,true),(4,true),(5,true),(6,true),(7,true),(8,true),(9,true),(10,true),(11,false),(12,false),(13,true),(14,true)] [] mixed (by kernel_rfl) ?_
        iterate 2 refine s1_ ?_
        refine dP (hc:=fun _=>Calm.bin rfl rfl (bin_bool (bin_str_neq _ _) (bnot_dec_false (e2.2 g1)))) (h:=?_)
        iterate 2 refine s1_ ?_
        first|refine k_d ?_|refine dL (hc:=Calm.indexStr (strT_spec ty_str_9) rfl rfl (by omega) (by omega)) (h:=?_)
        iterate 5 refine s1_ ?_
        refine draw_only rfl ?_
        refine rUn 31 ?_
        refine ARun.makeSlice (lit_lt rfl) ty_sl_61 rfl rfl (by omega) (by omega) (by omega) (by omega) ?_
        intro b34 f34
        have g34:=f34
        repeat ((with_reducible replace g34:=fresh_set g34);obtain ⟨g34,_⟩:=g34)
        refine arun_nil ⟨fun _=>less_,?_⟩
        refine draw_only rfl ?_
        first|refine k_q 31 ?_|refine rG 31 (Calm.toStr (l:=List.replicate 52 0) ty_bytes_61 ty_str_9 rfl rfl (rds_ownE (Mem.own_set_same _ b34 _) (made_cells 52 _ rfl))) ?_
        refine arun_nil ⟨fun _=>less_,?_⟩
        first|refine k_d ?_|refine dG (hc:=fun _=>Calm.bin rfl rfl (bin_bool (bin_str_neq _ _) (bnot_dec_false g3'))) (h:=?_)
        iterate 3 refine s1_ ?_
        refine su_ [(0,_),(1,_),(2,_),(4,_),(5,_),(6,_),(7,_),(8,_),(21,_),(37,_)] ?_
        refine cF_ ?_
        iterate 6 refine s1_ ?_
        refine ca_ rfl (ho _) ?_
        rintro _ S1 ⟨rfl,h1⟩
        rw [h1];clear h1 S1
        iterate 6 refine s1_ ?_
        refine su_ [(0,_),(1,_),(2,_),(4,_),(5,_),(6,_),(7,_),(8,_),(21,_),(37,_)] ?_
        iterate 7 refine s1_ ?_
        refine su_ [(0,_),(1,_),(2,_),(4,_),(5,_),(6,_),(7,_),(8,_),(21,_),(37,_),(45,_)] ?_
        refine cF_ ?_
        iterate 3 refine s1_ ?_
        refine AWP.draw [(0,true),(1,true),(2,true),(3,true),(4,true),(5,false),(6,true),(7,true)] [] mixed (by kernel_rfl) ?_
        refine s1_ ?_
        refine dC (hc:=Calm.indexStr (strT_spec ty_str_9) rfl rfl (by omega) (by omega)) (h:=?_)
        iterate 3 refine s1_ ?_
        refine draw_only rfl ?_
        refine ca_ rfl (hof _) ?_
        rintro _ S1 ⟨rfl,h1⟩
        rw [h1];clear h1 S1
        refine arun_nil ⟨fun _=>less_,?_⟩
        iterate 4 refine s1_ ?_
        refine su_ [(0,_),(1,_),(2,_),(4,_),(5,_),(6,_),(7,_),(8,_),(21,_),(37,_),(45,_),(9,_),(10,_)] ?_
        rw [← hwn]
        iterate 4 refine s1_ ?_
        refine ca_ rfl (hneed _) ?_
        rintro _ S1 ⟨rfl,h1⟩
        rw [h1];clear h1 S1
        iterate 7 refine s1_ ?_
        refine su_ [(0,_),(1,_),(2,_),(4,_),(5,_),(6,_),(7,_),(8,_),(21,_),(37,_),(45,_),(9,_),(10,_),(11,_)] ?_
        iterate 4 refine s1_ ?_
        refine ca_ rfl (hsecs _ (hd.less less_)) ?_
        rintro _ S1 ⟨rfl,h1⟩
        rw [h1];clear h1 S1
        iterate 7 refine s1_ ?_
        refine su_ [(0,_),(1,_),(2,_),(4,_),(5,_),(6,_),(7,_),(8,_),(21,_),(37,_),(45,_),(9,_),(10,_),(11,_),(12,_)] ?_
        iterate 12 refine s1_ ?_
        refine su_ [(0,_),(1,_),(2,_),(4,_),(5,_),(6,_),(7,_),(8,_),(21,_),(37,_),(45,_),(9,_),(10,_),(11,_),(12,_),(71,_)] ?_
        refine cT_ ?_
        iterate 9 refine s1_ ?_
        refine ⟨_,S,⟨_,_,rfl,⟨_,_,rfl,⟨_,_,rfl,rfl,rfl⟩,rfl⟩,rfl⟩,less_,?_⟩
        exact ⟨rfl,rfl⟩
     ·rw [if_pos g4,if_pos g4]
      refine ACall.enter (rs:=[.tmp 4,.tmp 5,.tmp 6]) 74 [(0,.agg #[.int .i64 d.size,.slice pe d.ext.length ce,.slice pw d.waits.length cw,.int .i64 d.fuse,.bool d.down]),(1,.string s)] Tryz.func20 rfl rfl (Nat.le_of_ble_eq_true rfl) rfl ⟨rfl,rfl,trivial⟩ ?_
      iterate 2 refine s1_ ?_
      refine k_b5 rfl ?_
      intro b2 f2
      have g2:=f2
      repeat ((with_reducible replace g2:=fresh_set g2);obtain ⟨g2,_⟩:=g2)
      refine nl_ ?_
      iterate 9 refine s1_ ?_
      refine ca_ rfl (hread _ (hd.less less_)) ?_
      rintro _ S1 ⟨rfl,h1⟩
      rw [h1];clear h1 S1
      iterate 7 refine s1_ ?_
      refine su_ [(0,_),(1,_),(2,_),(4,_),(5,_),(6,_),(7,_),(8,_)] ?_
      iterate 7 refine s1_ ?_
      refine su_ [(0,_),(1,_),(2,_),(4,_),(5,_),(6,_),(7,_),(8,_),(21,_)] ?_
      refine cF_ ?_
      iterate 4 refine s1_ ?_
      refine AWP.draw [(0,true),(1,true),(2,true),(3,true),(4,true),(5,true),(6,true),(7,true),(8,true),(9,true),(10,true),(11,false),(12,false),(13,true),(14,true)] [] mixed (by kernel_rfl) ?_
      iterate 2 refine s1_ ?_
      refine dP (hc:=fun _=>Calm.bin rfl rfl (bin_bool (bin_str_neq _ _) (bnot_dec_false (e2.2 g1)))) (h:=?_)
      iterate 2 refine s1_ ?_
      first|refine k_d ?_|refine dL (hc:=Calm.indexStr (strT_spec ty_str_9) rfl rfl (by omega) (by omega)) (h:=?_)
      iterate 5 refine s1_ ?_
      refine draw_only rfl ?_
      refine rUn 31 ?_
      refine ARun.makeSlice (lit_lt rfl) ty_sl_61 rfl rfl (by omega) (by omega) (by omega) (by omega) ?_
      intro b34 f34
      have g34:=f34
      repeat ((with_reducible replace g34:=fresh_set g34);obtain ⟨g34,_⟩:=g34)
      refine arun_nil ⟨fun _=>less_,?_⟩
      refine draw_only rfl ?_
      first|refine k_q 31 ?_|refine rG 31 (Calm.toStr (l:=List.replicate 52 0) ty_bytes_61 ty_str_9 rfl rfl (rds_ownE (Mem.own_set_same _ b34 _) (made_cells 52 _ rfl))) ?_
      refine arun_nil ⟨fun _=>less_,?_⟩
      first|refine k_d ?_|refine dG (hc:=fun _=>Calm.bin rfl rfl (bin_bool (bin_str_neq _ _) (bnot_dec_false g3'))) (h:=?_)
      iterate 3 refine s1_ ?_
      refine su_ [(0,_),(1,_),(2,_),(4,_),(5,_),(6,_),(7,_),(8,_),(21,_),(37,_)] ?_
      refine cF_ ?_
      iterate 6 refine s1_ ?_
      refine ca_ rfl (ho _) ?_
      rintro _ S1 ⟨rfl,h1⟩
      rw [h1];clear h1 S1
      iterate 6 refine s1_ ?_
      refine su_ [(0,_),(1,_),(2,_),(4,_),(5,_),(6,_),(7,_),(8,_),(21,_),(37,_)] ?_
      iterate 7 refine s1_ ?_
      refine su_ [(0,_),(1,_),(2,_),(4,_),(5,_),(6,_),(7,_),(8,_),(21,_),(37,_),(45,_)] ?_
      refine cT_ ?_
      iterate 8 refine s1_ ?_
      refine su_ [(0,_),(1,_),(2,_),(4,_),(5,_),(6,_),(7,_),(8,_),(21,_),(37,_),(45,_)] ?_
      iterate 2 refine s1_ ?_
      refine ⟨_,S,⟨_,_,rfl,⟨_,_,rfl,⟨_,_,rfl,rfl,rfl⟩,rfl⟩,rfl⟩,less_,?_⟩
      exact ⟨rfl,rfl⟩
  ·rw [if_pos (show y.data.toList.take 2 ≠ [87,82]∨8<(y.data.toList.getD 2 0).toNat∨zeroL (y.data.toList.drop 12)=false from .inl g1),if_pos (by simp)]
   refine ACall.enter (rs:=[.tmp 4,.tmp 5,.tmp 6]) 74 [(0,.agg #[.int .i64 d.size,.slice pe d.ext.length ce,.slice pw d.waits.length cw,.int .i64 d.fuse,.bool d.down]),(1,.string s)] Tryz.func20 rfl rfl (Nat.le_of_ble_eq_true rfl) rfl ⟨rfl,rfl,trivial⟩ ?_
   iterate 2 refine s1_ ?_
   refine k_b5 rfl ?_
   intro b2 f2
   have g2:=f2
   repeat ((with_reducible replace g2:=fresh_set g2);obtain ⟨g2,_⟩:=g2)
   refine nl_ ?_
   iterate 9 refine s1_ ?_
   refine ca_ rfl (hread _ (hd.less less_)) ?_
   rintro _ S1 ⟨rfl,h1⟩
   rw [h1];clear h1 S1
   iterate 7 refine s1_ ?_
   refine su_ [(0,_),(1,_),(2,_),(4,_),(5,_),(6,_),(7,_),(8,_)] ?_
   iterate 7 refine s1_ ?_
   refine su_ [(0,_),(1,_),(2,_),(4,_),(5,_),(6,_),(7,_),(8,_),(21,_)] ?_
   refine cF_ ?_
   iterate 4 refine s1_ ?_
   refine AWP.draw [(0,true),(1,true),(2,true),(3,true),(4,true),(5,true),(6,true),(7,true),(8,true),(9,true),(10,true),(11,false),(12,false),(13,true),(14,true)] [] mixed (by kernel_rfl) ?_
   iterate 2 refine s1_ ?_
   refine dP (hc:=fun _=>Calm.bin rfl rfl (bin_bool (bin_str_neq _ _) (bnot_dec_true (fun h=>g1 (e2.1 h))))) (h:=?_)
   iterate 8 refine s1_ ?_
   refine draw_only rfl ?_
   refine s1_ ?_
   refine arun_nil ⟨fun _=>less_,?_⟩
   refine draw_only rfl ?_
   refine s1_ ?_
   refine arun_nil ⟨fun _=>less_,?_⟩
   iterate 4 refine s1_ ?_
   refine su_ [(0,_),(1,_),(2,_),(4,_),(5,_),(6,_),(7,_),(8,_),(21,_),(37,_)] ?_
   refine cT_ ?_
   iterate 9 refine s1_ ?_
   refine ⟨_,S,⟨_,_,rfl,⟨_,_,rfl,⟨_,_,rfl,rfl,rfl⟩,rfl⟩,rfl⟩,less_,?_⟩
   exact ⟨rfl,rfl⟩
 ·rw [if_pos q1]
  refine ACall.enter (rs:=[.tmp 4,.tmp 5,.tmp 6]) 74 [(0,.agg #[.int .i64 d.size,.slice pe d.ext.length ce,.slice pw d.waits.length cw,.int .i64 d.fuse,.bool d.down]),(1,.string s)] Tryz.func20 rfl rfl (Nat.le_of_ble_eq_true rfl) rfl ⟨rfl,rfl,trivial⟩ ?_
  iterate 2 refine s1_ ?_
  refine k_b5 rfl ?_
  intro b2 f2
  have g2:=f2
  repeat ((with_reducible replace g2:=fresh_set g2);obtain ⟨g2,_⟩:=g2)
  refine nl_ ?_
  iterate 9 refine s1_ ?_
  refine ca_ rfl (hread _ (hd.less less_)) ?_
  rintro _ S1 ⟨rfl,h1⟩
  rw [h1];clear h1 S1
  iterate 7 refine s1_ ?_
  refine su_ [(0,_),(1,_),(2,_),(4,_),(5,_),(6,_),(7,_),(8,_)] ?_
  iterate 7 refine s1_ ?_
  refine su_ [(0,_),(1,_),(2,_),(4,_),(5,_),(6,_),(7,_),(8,_),(21,_)] ?_
  refine cT_ ?_
  iterate 8 refine s1_ ?_
  refine su_ [(0,_),(1,_),(2,_),(4,_),(5,_),(6,_),(7,_),(8,_),(21,_)] ?_
  iterate 2 refine s1_ ?_
  refine ⟨_,S,⟨_,_,rfl,⟨_,_,rfl,⟨_,_,rfl,rfl,rfl⟩,rfl⟩,rfl⟩,less_,?_⟩
  exact ⟨rfl,rfl⟩
end Rec
end Go.Proofs.YtceikpipmcadmaaGreatDoor
namespace Go.Proofs.YtceikpipmcadmaaGreatDoor
open Go.RowKit
open Mv Disk Num
set_option maxRecDepth 4000
namespace Rec
theorem zero_rest (l : List UInt8) (k m : Nat) (hl : l.length = m) : decide ((bs l).extract ((k : Nat) : Int).toNat (bs l).size = bs (List.replicate (m - k) 0)) = zeroL (l.drop k) := by
 rw [Bool.eq_iff_iff,decide_eq_true_eq,zero_is,List.length_drop,hl]
 have e:((bs l).extract ((k:Nat):Int).toNat (bs l).size).data.toList=l.drop k:=by
  rw [Lib.extract_data,bs_data,size_bs,Int.toNat_natCast,List.take_of_length_le (by rw [List.length_drop];omega)]
 constructor
 ·intro h;rw [← e,h,bs_data]
 ·intro h;apply str_ext;rw [e,h,bs_data]
set_option maxHeartbeats 2000000 in
theorem rr_Body (v : Value) (d : D) (s : ByteArray) (w c : Nat) (S : Mem) (hd : DkR S v d) (hz : Dz d) (hh : headP d s = (w, c, 0)) :
  ACall Tryz.prog 57 #[v,.string s,.int .i64 (w:Int),.int .u64 (c:Int)] S fun r S'=>r = .tuple #[.string (bs ((bodyL d s (needN w c-1)).take (eachN w*c))),.bool (zeroL ((bodyL d s (needN w c-1)).drop (eachN w*c)))]∧S'=S:=by
 obtain ⟨ho,hR,hdn,k1,k2,k3,k4⟩:=headP_ok hh
 have hread:=fun k M h=>rd_Read v d s k M h hz
 have hrin:=fun i=>@readD_in d s hR (needN w c) k1 k4 i
 have hro:∀ k,readO d s k=readD d s k:=fun k=>readO_open (by rw [ho]) s k
 have hbl:=@bodyL_len d s hR (by rw [ho]) (needN w c) k1 k4
 have hneed:=fun M=>rr_Need (w:Int) c M
 rw [(need_iff k2).2 k3] at hneed
 simp only [needV] at hneed
 have heach:=fun M=>rr_each w M k2
 obtain ⟨m1,m2,m3⟩:=mul_le_each k2 k3
 have hn1:=needN_pos w c
 have hn2:=needN_le k2 k3
 have hnn:eachN w*c≤64*(needN w c-1):=by unfold needN;omega
 have hbs:∀ k,bodyL d s (k+1)=bodyL d s k ++ (readO d s ((k+1:Nat):Int)).1.data.toList:=fun k=>by rw [bodyL]
 have hb0:bodyL d s 0 = []:=rfl
 generalize needN w c=n at *
 generalize bodyL d s=bL at *
 generalize eachN w=ew at *
 obtain ⟨pe,ce,pw,cw,rfl,hE,hW⟩:=id hd
 refine ACall.enter (rs:=[.tmp 8,.tmp 9]) 56 [(0,.agg #[.int .i64 d.size,.slice pe d.ext.length ce,.slice pw d.waits.length cw,.int .i64 d.fuse,.bool d.down]),(1,.string s),(2,.int .i64 (w:Int)),(3,.int .u64 (c:Int))] Tryz.func57 rfl rfl (Nat.le_of_ble_eq_true rfl) rfl ⟨rfl,rfl,rfl,rfl,trivial⟩ ?_
 iterate 2 refine s1_ ?_
 refine k_b5 rfl ?_
 intro b4 f4
 have g4:=f4
 repeat ((with_reducible replace g4:=fresh_set g4);obtain ⟨g4,_⟩:=g4)
 refine nl_ ?_
 iterate 8 refine s1_ ?_
 refine ca_ rfl (hneed _) ?_
 rintro _ S1 ⟨rfl,h1⟩
 rw [h1];clear h1 S1
 iterate 7 refine s1_ ?_
 refine su_ [(0,_),(1,_),(2,_),(3,_),(4,_),(8,_),(9,_),(10,_)] ?_
 iterate 12 refine s1_ ?_
 refine AWP.loop (X:=Nat) (fun x=>[(1,.string s),(2,.int .i64 (w:Int)),(3,.int .u64 (c:Int)),(4,.pointer (some ⟨b4,0,none⟩)),(10,.int .i64 (n:Int)),(12,.string (bs (bL x))),(13,.int .i64 ((x+1:Nat):Int))]) (fun x=>S.set b4 (bx d pe ce pw cw)) (fun x=>x+1≤n) (fun x=>n-x) (0) ⟨rfl,rfl,rfl,rfl,rfl,by rw [hb0];rfl,rfl,trivial⟩ (Mem.Less.refl _) (by show 0+1≤n;omega) ?_
 rintro i hi
 (try dsimp only at *)
 by_cases hin:i+1<n
 ·iterate 8 refine s1_ ?_
  refine su_ [(1,_),(2,_),(3,_),(4,_),(10,_),(12,_),(13,_),(25,_)] ?_
  refine cT_ ?_
  obtain ⟨r1,r2⟩:=hrin (i+1) hin
  have hlen:=hbl i (by omega)
  have hlb:(bs (bL i)).size=64*i:=by rw [size_bs,hlen]
  have hrr:=hread ((i+1:Nat):Int) (S.set b4 (bx d pe ce pw cw)) (hd.less less_)
  rw [hro] at hrr
  iterate 9 refine s1_ ?_
  refine ca_ rfl (hrr) ?_
  rintro _ S1 ⟨rfl,h1⟩
  rw [h1];clear h1 S1
  iterate 7 refine s1_ ?_
  refine su_ [(1,_),(2,_),(3,_),(4,_),(10,_),(12,_),(13,_),(25,_),(14,_)] ?_
  iterate 8 refine s1_ ?_
  refine su_ [(1,_),(2,_),(3,_),(4,_),(10,_),(12,_),(13,_),(25,_),(14,_)] ?_
  iterate 6 refine s1_ ?_
  refine ⟨i+1,?_,?_,?_,?_⟩
  all_goals (try dsimp only)
  ·exact ⟨rfl,rfl,rfl,rfl,rfl,by rw [hbs i,hro,show bs (bL i ++ (readD d s ((i+1:Nat):Int)).1.data.toList)=bs (bL i) ++ (readD d s ((i+1:Nat):Int)).1 from by apply str_ext;simp [bs]];rfl,some_int (by omega),trivial⟩
  ·exact Mem.Less.refl _
  ·exact hin
  ·omega
 ·iterate 8 refine s1_ ?_
  refine su_ [(1,_),(2,_),(3,_),(4,_),(10,_),(12,_),(13,_),(25,_)] ?_
  refine cF_ ?_
  obtain rfl:i=n-1:=by omega
  have hlen:=hbl (n-1) (by omega)
  have hlb:(bs (bL (n-1))).size=64*(n-1):=by rw [size_bs,hlen]
  iterate 8 refine s1_ ?_
  refine ca_ rfl (heach _) ?_
  rintro _ S1 ⟨rfl,h1⟩
  rw [h1];clear h1 S1
  iterate 6 refine s1_ ?_
  refine su_ [(1,_),(2,_),(3,_),(4,_),(10,_),(12,_),(13,_),(25,_),(16,_)] ?_
  rw [m3]
  refine s1_ ?_
  refine AWP.draw [(0,true),(1,true),(2,true),(3,true),(4,true),(5,true),(6,true),(7,true),(8,true),(9,true),(13,true),(10,false),(11,false),(12,true),(14,true)] [] mixed (by kernel_rfl) ?_
  iterate 11 refine s1_ ?_
  refine draw_only rfl ?_
  refine ARun.makeSlice (lit_lt rfl) ty_sl_61 rfl rfl (by omega) (by omega) (by omega) (by omega) ?_
  intro b53 f53
  have g53:=f53
  repeat ((with_reducible replace g53:=fresh_set g53);obtain ⟨g53,_⟩:=g53)
  refine arun_nil ⟨fun _=>less_,?_⟩
  refine draw_only rfl ?_
  refine rC (Calm.toStr (l:=List.replicate (64*(n-1)-ew*c) 0) ty_bytes_61 ty_str_9 rfl (by rw [List.length_replicate,hlb];omega) (rds_ownE (Mem.own_set_same _ b53 _) (made_cells _ _ (by rw [hlb];omega)))) ?_
  refine arun_nil ⟨fun _=>less_,?_⟩
  have h1:(bs (bL (n-1))).extract 0 (((ew*c:Nat):Int)).toNat=bs ((bL (n-1)).take (ew*c)):=by apply str_ext;rw [Lib.extract_data,bs_data,bs_data,Int.toNat_natCast];simp
  have h2:=zero_rest (bL (n-1)) (ew*c) (64*(n-1)) hlen
  iterate 4 refine s1_ ?_
  refine su_ [(1,_),(2,_),(3,_),(4,_),(10,_),(12,_),(13,_),(25,_),(16,_),(8,_),(9,_)] ?_
  refine s1_ ?_
  refine ⟨_,S,⟨_,_,rfl,⟨_,_,rfl,rfl,rfl⟩,rfl⟩,less_,?_⟩
  exact ⟨by rw [← h1,← h2];rfl,rfl⟩
theorem body_head {d : D} {s : ByteArray} {w c : Nat} (hh : headP d s = (w, c, 0)) (t : Bool) : bodyP d s t = if t ≠ decide (w = 0) then (0, ByteArray.empty, 7) else if zeroL ((bodyL d s (needN w c - 1)).drop (eachN w * c)) = false then (0, ByteArray.empty, 7) else (w, bs ((bodyL d s (needN w c - 1)).take (eachN w * c)), 0) := by
 unfold bodyP
 rw [hh]
 simp
theorem body_fall {d : D} {s : ByteArray} (h : (headP d s).2.2 ≠ 0) (t : Bool) : bodyP d s t = (0, ByteArray.empty, (headP d s).2.2) := by
 unfold bodyP;rw [if_pos h]
theorem rr_ReadText (v : Value) (d : D) (s : ByteArray) (S : Mem) (hd : DkR S v d) (hz : Dz d) :
  ACall Tryz.prog 24 #[v,.string s] S fun r S'=>r = .tuple #[.string (readTP d s).1,.int .i64 (readTP d s).2]∧S'=S:=by
 have hhd:=fun M h=>rr_Head v d s M h hz
 have hbd:=fun w c M h=>rr_Body v d s w c M h hz
 unfold readTP
 have hb1:=fun w c=>@body_head d s w c
 have hb2:=@body_fall d s
 simp only [formV] at hhd
 obtain ⟨pe,ce,pw,cw,rfl,hE,hW⟩:=id hd
 rcases hq:headP d s with ⟨w,c,e⟩
 rw [hq] at hhd hb2
 by_cases he:e=0
 ·subst he
  rw [hb1 w c hq true]
  have hbd:=fun M h=>hbd w c M h hq
  by_cases hw:w=0
  ·subst hw
   rw [if_neg (by simp)]
   generalize (bodyL d s (needN 0 c-1)).take (eachN 0*c)=l1 at *
   cases hzz:zeroL ((bodyL d s (needN 0 c-1)).drop (eachN 0*c))
   ·rw [if_pos rfl]
    rw [hzz] at hbd
    refine ACall.enter (rs:=[.tmp 4,.tmp 5]) 34 [(0,.agg #[.int .i64 d.size,.slice pe d.ext.length ce,.slice pw d.waits.length cw,.int .i64 d.fuse,.bool d.down]),(1,.string s)] Tryz.func24 rfl rfl (Nat.le_of_ble_eq_true rfl) rfl ⟨rfl,rfl,trivial⟩ ?_
    iterate 2 refine s1_ ?_
    refine k_b5 rfl ?_
    intro b2 f2
    have g2:=f2
    repeat ((with_reducible replace g2:=fresh_set g2);obtain ⟨g2,_⟩:=g2)
    refine nl_ ?_
    iterate 8 refine s1_ ?_
    refine ca_ rfl (hhd _ (hd.less less_)) ?_
    rintro _ S1 ⟨rfl,h1⟩
    rw [h1];clear h1 S1
    iterate 9 refine s1_ ?_
    refine su_ [(0,_),(1,_),(2,_),(4,_),(5,_),(6,_),(7,_),(8,_)] ?_
    iterate 7 refine s1_ ?_
    refine su_ [(0,_),(1,_),(2,_),(4,_),(5,_),(6,_),(7,_),(8,_),(19,_)] ?_
    refine cF_ ?_
    iterate 9 refine s1_ ?_
    refine su_ [(0,_),(1,_),(2,_),(4,_),(5,_),(6,_),(7,_),(8,_),(19,_),(22,_)] ?_
    refine cF_ ?_
    iterate 8 refine s1_ ?_
    refine ca_ rfl (hbd _ (hd.less less_)) ?_
    rintro _ S1 ⟨rfl,h1⟩
    rw [h1];clear h1 S1
    iterate 7 refine s1_ ?_
    refine su_ [(0,_),(1,_),(2,_),(4,_),(5,_),(6,_),(7,_),(8,_),(19,_),(22,_),(9,_),(10,_)] ?_
    iterate 7 refine s1_ ?_
    refine su_ [(0,_),(1,_),(2,_),(4,_),(5,_),(6,_),(7,_),(8,_),(19,_),(22,_),(9,_),(10,_),(32,_)] ?_
    refine cT_ ?_
    iterate 8 refine s1_ ?_
    refine ⟨_,S,⟨_,_,rfl,⟨_,_,rfl,rfl,rfl⟩,rfl⟩,less_,?_⟩
    exact ⟨rfl,rfl⟩
   ·rw [if_neg (by simp)]
    rw [hzz] at hbd
    refine ACall.enter (rs:=[.tmp 4,.tmp 5]) 34 [(0,.agg #[.int .i64 d.size,.slice pe d.ext.length ce,.slice pw d.waits.length cw,.int .i64 d.fuse,.bool d.down]),(1,.string s)] Tryz.func24 rfl rfl (Nat.le_of_ble_eq_true rfl) rfl ⟨rfl,rfl,trivial⟩ ?_
    iterate 2 refine s1_ ?_
    refine k_b5 rfl ?_
    intro b2 f2
    have g2:=f2
    repeat ((with_reducible replace g2:=fresh_set g2);obtain ⟨g2,_⟩:=g2)
    refine nl_ ?_
    iterate 8 refine s1_ ?_
    refine ca_ rfl (hhd _ (hd.less less_)) ?_
    rintro _ S1 ⟨rfl,h1⟩
    rw [h1];clear h1 S1
    iterate 9 refine s1_ ?_
    refine su_ [(0,_),(1,_),(2,_),(4,_),(5,_),(6,_),(7,_),(8,_)] ?_
    iterate 7 refine s1_ ?_
    refine su_ [(0,_),(1,_),(2,_),(4,_),(5,_),(6,_),(7,_),(8,_),(19,_)] ?_
    refine cF_ ?_
    iterate 9 refine s1_ ?_
    refine su_ [(0,_),(1,_),(2,_),(4,_),(5,_),(6,_),(7,_),(8,_),(19,_),(22,_)] ?_
    refine cF_ ?_
    iterate 8 refine s1_ ?_
    refine ca_ rfl (hbd _ (hd.less less_)) ?_
    rintro _ S1 ⟨rfl,h1⟩
    rw [h1];clear h1 S1
    iterate 7 refine s1_ ?_
    refine su_ [(0,_),(1,_),(2,_),(4,_),(5,_),(6,_),(7,_),(8,_),(19,_),(22,_),(9,_),(10,_)] ?_
    iterate 7 refine s1_ ?_
    refine su_ [(0,_),(1,_),(2,_),(4,_),(5,_),(6,_),(7,_),(8,_),(19,_),(22,_),(9,_),(10,_),(32,_)] ?_
    refine cF_ ?_
    iterate 9 refine s1_ ?_
    refine su_ [(0,_),(1,_),(2,_),(4,_),(5,_),(6,_),(7,_),(8,_),(19,_),(22,_),(9,_),(10,_),(32,_)] ?_
    refine s1_ ?_
    refine ⟨_,S,⟨_,_,rfl,⟨_,_,rfl,rfl,rfl⟩,rfl⟩,less_,?_⟩
    exact ⟨rfl,rfl⟩
  ·rw [if_pos (by rw [decide_eq_false hw];decide)]
   refine ACall.enter (rs:=[.tmp 4,.tmp 5]) 34 [(0,.agg #[.int .i64 d.size,.slice pe d.ext.length ce,.slice pw d.waits.length cw,.int .i64 d.fuse,.bool d.down]),(1,.string s)] Tryz.func24 rfl rfl (Nat.le_of_ble_eq_true rfl) rfl ⟨rfl,rfl,trivial⟩ ?_
   iterate 2 refine s1_ ?_
   refine k_b5 rfl ?_
   intro b2 f2
   have g2:=f2
   repeat ((with_reducible replace g2:=fresh_set g2);obtain ⟨g2,_⟩:=g2)
   refine nl_ ?_
   iterate 8 refine s1_ ?_
   refine ca_ rfl (hhd _ (hd.less less_)) ?_
   rintro _ S1 ⟨rfl,h1⟩
   rw [h1];clear h1 S1
   iterate 9 refine s1_ ?_
   refine su_ [(0,_),(1,_),(2,_),(4,_),(5,_),(6,_),(7,_),(8,_)] ?_
   iterate 7 refine s1_ ?_
   refine su_ [(0,_),(1,_),(2,_),(4,_),(5,_),(6,_),(7,_),(8,_),(19,_)] ?_
   refine cF_ ?_
   iterate 9 refine s1_ ?_
   refine su_ [(0,_),(1,_),(2,_),(4,_),(5,_),(6,_),(7,_),(8,_),(19,_),(22,_)] ?_
   refine cT_ ?_
   iterate 8 refine s1_ ?_
   refine ⟨_,S,⟨_,_,rfl,⟨_,_,rfl,rfl,rfl⟩,rfl⟩,less_,?_⟩
   exact ⟨rfl,rfl⟩
 ·rw [hb2 he true]
  refine ACall.enter (rs:=[.tmp 4,.tmp 5]) 34 [(0,.agg #[.int .i64 d.size,.slice pe d.ext.length ce,.slice pw d.waits.length cw,.int .i64 d.fuse,.bool d.down]),(1,.string s)] Tryz.func24 rfl rfl (Nat.le_of_ble_eq_true rfl) rfl ⟨rfl,rfl,trivial⟩ ?_
  iterate 2 refine s1_ ?_
  refine k_b5 rfl ?_
  intro b2 f2
  have g2:=f2
  repeat ((with_reducible replace g2:=fresh_set g2);obtain ⟨g2,_⟩:=g2)
  refine nl_ ?_
  iterate 8 refine s1_ ?_
  refine ca_ rfl (hhd _ (hd.less less_)) ?_
  rintro _ S1 ⟨rfl,h1⟩
  rw [h1];clear h1 S1
  iterate 9 refine s1_ ?_
  refine su_ [(0,_),(1,_),(2,_),(4,_),(5,_),(6,_),(7,_),(8,_)] ?_
  iterate 7 refine s1_ ?_
  refine su_ [(0,_),(1,_),(2,_),(4,_),(5,_),(6,_),(7,_),(8,_),(19,_)] ?_
  refine cT_ ?_
  iterate 7 refine s1_ ?_
  refine su_ [(0,_),(1,_),(2,_),(4,_),(5,_),(6,_),(7,_),(8,_),(19,_)] ?_
  iterate 2 refine s1_ ?_
  refine ⟨_,S,⟨_,_,rfl,⟨_,_,rfl,rfl,rfl⟩,rfl⟩,less_,?_⟩
  exact ⟨rfl,rfl⟩
/-- A body of records is records. -/
theorem split_body {d : D} {s : ByteArray} {w c : Nat} (hh : headP d s = (w, c, 0)) (hw : w ≠ 0) : splitE (bs ((bodyL d s (needN w c - 1)).take (eachN w * c))) (w : Int) = 0 := by
 obtain ⟨ho,hR,hdn,k1,k2,k3,k4⟩:=headP_ok hh
 have hn1:=needN_pos w c
 have hbl:=@bodyL_len d s hR (by rw [ho]) (needN w c) k1 k4 (needN w c-1) (by omega)
 have hnn:eachN w*c≤64*(needN w c-1):=by unfold needN;omega
 have he:eachN w=5*w:=by unfold eachN;rw [if_neg hw]
 unfold splitE
 rw [if_neg (by omega),size_bs,List.length_take,hbl,Nat.min_eq_left hnn,he,Int.toNat_natCast,Nat.mul_mod_right]
 rfl
theorem rr_Read (v : Value) (d : D) (s : ByteArray) (S : Mem) (hd : DkR S v d) (hz : Dz d) :
  ACall Tryz.prog 22 #[v,.string s] S (ReadR (readRP d s) S):=by
 have hhd:=fun M h=>rr_Head v d s M h hz
 have hbd:=fun w c M h=>rr_Body v d s w c M h hz
 have hsz:=body_size d s false
 unfold readRP
 have hb1:=fun w c=>@body_head d s w c
 have hb2:=@body_fall d s
 simp only [formV] at hhd
 obtain ⟨pe,ce,pw,cw,rfl,hE,hW⟩:=id hd
 rcases hq:headP d s with ⟨w,c,e⟩
 rw [hq] at hhd hb2
 by_cases he:e=0
 ·subst he
  have hspl:=@split_body d s w c hq
  rw [hb1 w c hq false] at hsz ⊢
  have hbd:=fun M h=>hbd w c M h hq
  by_cases hw:w=0
  ·subst hw
   rw [if_pos (show false≠decide ((0:Nat)=0) from by decide),if_pos (by decide)]
   refine ACall.enter (rs:=[.tmp 4,.tmp 5,.tmp 6]) 44 [(0,.agg #[.int .i64 d.size,.slice pe d.ext.length ce,.slice pw d.waits.length cw,.int .i64 d.fuse,.bool d.down]),(1,.string s)] Tryz.func22 rfl rfl (Nat.le_of_ble_eq_true rfl) rfl ⟨rfl,rfl,trivial⟩ ?_
   iterate 2 refine s1_ ?_
   refine k_b5 rfl ?_
   intro b2 f2
   have g2:=f2
   repeat ((with_reducible replace g2:=fresh_set g2);obtain ⟨g2,_⟩:=g2)
   refine nl_ ?_
   iterate 9 refine s1_ ?_
   refine ca_ rfl (hhd _ (hd.less less_)) ?_
   rintro _ S1 ⟨rfl,h1⟩
   rw [h1];clear h1 S1
   iterate 9 refine s1_ ?_
   refine su_ [(0,_),(1,_),(2,_),(4,_),(5,_),(6,_),(7,_),(8,_),(9,_)] ?_
   iterate 7 refine s1_ ?_
   refine su_ [(0,_),(1,_),(2,_),(4,_),(5,_),(6,_),(7,_),(8,_),(9,_),(22,_)] ?_
   refine cF_ ?_
   iterate 9 refine s1_ ?_
   refine su_ [(0,_),(1,_),(2,_),(4,_),(5,_),(6,_),(7,_),(8,_),(9,_),(22,_),(25,_)] ?_
   refine cT_ ?_
   iterate 9 refine s1_ ?_
   refine ⟨_,S,⟨_,_,rfl,⟨_,_,rfl,⟨_,_,rfl,rfl,rfl⟩,rfl⟩,rfl⟩,less_,?_⟩
   exact ⟨_,rfl,Mem.Less.refl _,SlOf.nil _ _⟩
  ·have hspl:=hspl hw
   have hnw : ¬ false≠decide (w=0):=by rw [decide_eq_false hw];decide
   rw [if_neg hnw] at hsz ⊢
   generalize (bodyL d s (needN w c-1)).take (eachN w*c)=l1 at *
   cases hzz:zeroL ((bodyL d s (needN w c-1)).drop (eachN w*c))
   ·rw [if_pos rfl,if_pos (by simp)]
    rw [hzz] at hbd
    refine ACall.enter (rs:=[.tmp 4,.tmp 5,.tmp 6]) 44 [(0,.agg #[.int .i64 d.size,.slice pe d.ext.length ce,.slice pw d.waits.length cw,.int .i64 d.fuse,.bool d.down]),(1,.string s)] Tryz.func22 rfl rfl (Nat.le_of_ble_eq_true rfl) rfl ⟨rfl,rfl,trivial⟩ ?_
    iterate 2 refine s1_ ?_
    refine k_b5 rfl ?_
    intro b2 f2
    have g2:=f2
    repeat ((with_reducible replace g2:=fresh_set g2);obtain ⟨g2,_⟩:=g2)
    refine nl_ ?_
    iterate 9 refine s1_ ?_
    refine ca_ rfl (hhd _ (hd.less less_)) ?_
    rintro _ S1 ⟨rfl,h1⟩
    rw [h1];clear h1 S1
    iterate 9 refine s1_ ?_
    refine su_ [(0,_),(1,_),(2,_),(4,_),(5,_),(6,_),(7,_),(8,_),(9,_)] ?_
    iterate 7 refine s1_ ?_
    refine su_ [(0,_),(1,_),(2,_),(4,_),(5,_),(6,_),(7,_),(8,_),(9,_),(22,_)] ?_
    refine cF_ ?_
    iterate 9 refine s1_ ?_
    refine su_ [(0,_),(1,_),(2,_),(4,_),(5,_),(6,_),(7,_),(8,_),(9,_),(22,_),(25,_)] ?_
    refine cF_ ?_
    iterate 8 refine s1_ ?_
    refine ca_ rfl (hbd _ (hd.less less_)) ?_
    rintro _ S1 ⟨rfl,h1⟩
    rw [h1];clear h1 S1
    iterate 7 refine s1_ ?_
    refine su_ [(0,_),(1,_),(2,_),(4,_),(5,_),(6,_),(7,_),(8,_),(9,_),(22,_),(25,_),(10,_),(11,_)] ?_
    iterate 7 refine s1_ ?_
    refine su_ [(0,_),(1,_),(2,_),(4,_),(5,_),(6,_),(7,_),(8,_),(9,_),(22,_),(25,_),(10,_),(11,_),(35,_)] ?_
    refine cT_ ?_
    iterate 9 refine s1_ ?_
    refine ⟨_,S,⟨_,_,rfl,⟨_,_,rfl,⟨_,_,rfl,rfl,rfl⟩,rfl⟩,rfl⟩,less_,?_⟩
    exact ⟨_,rfl,Mem.Less.refl _,SlOf.nil _ _⟩
   ·rw [hzz] at hbd hsz
    rw [if_neg (by simp)] at hsz
    rw [if_neg (by simp),if_neg (by simp)]
    simp only at hsz ⊢
    have hsp:=fun M=>rnumV_Split (bs l1) (w:Int) M (by omega)
    unfold SplitR at hsp
    rw [hspl] at hsp ⊢
    refine ACall.enter (rs:=[.tmp 4,.tmp 5,.tmp 6]) 44 [(0,.agg #[.int .i64 d.size,.slice pe d.ext.length ce,.slice pw d.waits.length cw,.int .i64 d.fuse,.bool d.down]),(1,.string s)] Tryz.func22 rfl rfl (Nat.le_of_ble_eq_true rfl) rfl ⟨rfl,rfl,trivial⟩ ?_
    iterate 2 refine s1_ ?_
    refine k_b5 rfl ?_
    intro b2 f2
    have g2:=f2
    repeat ((with_reducible replace g2:=fresh_set g2);obtain ⟨g2,_⟩:=g2)
    refine nl_ ?_
    iterate 9 refine s1_ ?_
    refine ca_ rfl (hhd _ (hd.less less_)) ?_
    rintro _ S1 ⟨rfl,h1⟩
    rw [h1];clear h1 S1
    iterate 9 refine s1_ ?_
    refine su_ [(0,_),(1,_),(2,_),(4,_),(5,_),(6,_),(7,_),(8,_),(9,_)] ?_
    iterate 7 refine s1_ ?_
    refine su_ [(0,_),(1,_),(2,_),(4,_),(5,_),(6,_),(7,_),(8,_),(9,_),(22,_)] ?_
    refine cF_ ?_
    iterate 9 refine s1_ ?_
    refine su_ [(0,_),(1,_),(2,_),(4,_),(5,_),(6,_),(7,_),(8,_),(9,_),(22,_),(25,_)] ?_
    refine cF_ ?_
    iterate 8 refine s1_ ?_
    refine ca_ rfl (hbd _ (hd.less less_)) ?_
    rintro _ S1 ⟨rfl,h1⟩
    rw [h1];clear h1 S1
    iterate 7 refine s1_ ?_
    refine su_ [(0,_),(1,_),(2,_),(4,_),(5,_),(6,_),(7,_),(8,_),(9,_),(22,_),(25,_),(10,_),(11,_)] ?_
    iterate 7 refine s1_ ?_
    refine su_ [(0,_),(1,_),(2,_),(4,_),(5,_),(6,_),(7,_),(8,_),(9,_),(22,_),(25,_),(10,_),(11,_),(35,_)] ?_
    refine cF_ ?_
    iterate 6 refine s1_ ?_
    refine ca_ rfl (hsp _) ?_
    rintro _ T ⟨v,rfl,hl,hv⟩
    have hST:=(show S.Less _ from less_).trans hl
    iterate 7 refine s1_ ?_
    refine su_ [(0,_),(1,_),(2,_),(4,_),(5,_),(6,_),(7,_),(8,_),(9,_),(22,_),(25,_),(10,_),(11,_),(35,_),(12,_)] ?_
    iterate 9 refine s1_ ?_
    refine su_ [(0,_),(1,_),(2,_),(4,_),(5,_),(6,_),(7,_),(8,_),(9,_),(22,_),(25,_),(10,_),(11,_),(35,_),(12,_)] ?_
    refine s1_ ?_
    refine ⟨_,T,⟨_,_,rfl,⟨_,_,rfl,⟨_,_,rfl,rfl,rfl⟩,rfl⟩,rfl⟩,less_,?_⟩
    exact ⟨v,rfl,hST,hv⟩
 ·rw [hb2 he false,if_pos he]
  refine ACall.enter (rs:=[.tmp 4,.tmp 5,.tmp 6]) 44 [(0,.agg #[.int .i64 d.size,.slice pe d.ext.length ce,.slice pw d.waits.length cw,.int .i64 d.fuse,.bool d.down]),(1,.string s)] Tryz.func22 rfl rfl (Nat.le_of_ble_eq_true rfl) rfl ⟨rfl,rfl,trivial⟩ ?_
  iterate 2 refine s1_ ?_
  refine k_b5 rfl ?_
  intro b2 f2
  have g2:=f2
  repeat ((with_reducible replace g2:=fresh_set g2);obtain ⟨g2,_⟩:=g2)
  refine nl_ ?_
  iterate 9 refine s1_ ?_
  refine ca_ rfl (hhd _ (hd.less less_)) ?_
  rintro _ S1 ⟨rfl,h1⟩
  rw [h1];clear h1 S1
  iterate 9 refine s1_ ?_
  refine su_ [(0,_),(1,_),(2,_),(4,_),(5,_),(6,_),(7,_),(8,_),(9,_)] ?_
  iterate 7 refine s1_ ?_
  refine su_ [(0,_),(1,_),(2,_),(4,_),(5,_),(6,_),(7,_),(8,_),(9,_),(22,_)] ?_
  refine cT_ ?_
  iterate 8 refine s1_ ?_
  refine su_ [(0,_),(1,_),(2,_),(4,_),(5,_),(6,_),(7,_),(8,_),(9,_),(22,_)] ?_
  iterate 2 refine s1_ ?_
  refine ⟨_,S,⟨_,_,rfl,⟨_,_,rfl,⟨_,_,rfl,rfl,rfl⟩,rfl⟩,rfl⟩,less_,?_⟩
  exact ⟨_,rfl,Mem.Less.refl _,SlOf.nil _ _⟩
end Rec
end Go.Proofs.YtceikpipmcadmaaGreatDoor
namespace Go.Proofs.YtceikpipmcadmaaGreatDoor
open Go.RowKit
open Mv Disk
set_option maxRecDepth 20000
theorem opens_Ext : OpensF Tryz.prog 81 2 extF (fun y => y.1.size ≤ 140737488351232 ∧ y.2.size ≤ 140737488351232) :=
 OpensFL.struct Tryz.underlying81 (by kernel_rfl) (OpensFL.cons (opensF_string Tryz.underlying9 (by kernel_rfl)) rfl (OpensFL.one (opensF_string Tryz.underlying9 (by kernel_rfl)) rfl))
theorem opens_Wr : OpensF Tryz.prog 83 3 wrF (fun y => y.1.size ≤ 140737488351232 ∧ (Lit.int .i64 y.2.1).wf = true ∧ y.2.2.size ≤ 140737488351232) :=
 OpensFL.struct (n:=1+(1+1)) Tryz.underlying83 (by kernel_rfl) (OpensFL.cons (opensF_string Tryz.underlying9 (by kernel_rfl)) rfl (OpensFL.cons (opensF_int Tryz.underlying3 (by kernel_rfl)) rfl (OpensFL.one (opensF_string Tryz.underlying9 (by kernel_rfl)) rfl)))
/-- A disk that comes in. -/
def DkV (S : Mem) (cs : List Value) (d : D) : Prop := DkR S (.agg cs.toArray) d ∧ Dz d
theorem wfi {n : Int} (h : (Lit.int .i64 n).wf = true) : -9223372036854775808 ≤ n ∧ n ≤ 9223372036854775807 := by simp [Lit.wf, IntKind.min, IntKind.max, IntKind.signed, IntKind.bits] at h; omega
theorem opens_DkV : Opens Tryz.prog 25 5 DkV :=
 (OpensL.struct (n:=1+(1+(1+(1+1)))) Tryz.underlying25 (by kernel_rfl) (OpensL.cons (opensF_int Tryz.underlying3 (by kernel_rfl)).opens rfl
  (OpensL.cons (opens_slice Tryz.underlying22 (by kernel_rfl) (b:=32) (by kernel_rfl) opens_Ext) rfl
  (OpensL.cons (opens_slice Tryz.underlying23 (by kernel_rfl) (b:=40) (by kernel_rfl) opens_Wr) rfl
  (OpensL.cons (opensF_int Tryz.underlying3 (by kernel_rfl)).opens rfl
  (OpensL.one (opensF_bool Tryz.underlying4 (by kernel_rfl)).opens rfl)))))).mono
  fun S cs y ⟨c0,c1,e,⟨e0,g0⟩,c2,c3,e1,⟨v1,e2,s1,p1,l1⟩,c4,c5,e3,⟨v2,e4,s2,p2,l2⟩,c6,c7,e5,⟨e6,g6⟩,e7,_⟩=>by
   subst e e0 e1 e2 e3 e4 e5 e6 e7
   obtain ⟨a1,k1,rfl,_⟩:=id s1
   obtain ⟨a2,k2,rfl,_⟩:=id s2
   refine ⟨⟨y.1,y.2.1,y.2.2.1,y.2.2.2.1,y.2.2.2.2⟩,⟨a1,k1,a2,k2,rfl,s1,s2⟩,(wfi g0).1,(wfi g0).2,(wfi g6).1,(wfi g6).2,by simp only;omega,by simp only;omega,fun x hx=>p1 x hx,fun w hw=>?_⟩
   obtain ⟨h1,h2,h3⟩:=p2 w hw
   exact ⟨h1,(wfi h2).1,(wfi h2).2,h3⟩

def BoolsV (S : Mem) (cs : List Value) (l : List Bool) : Prop := ∃ v, cs = [v] ∧ Sl 1 bools S v l
theorem opens_BoolsV : Opens Tryz.prog 48 1 BoolsV :=
 (opens_slice Tryz.underlying48 (by kernel_rfl) (b:=1) (by kernel_rfl) (opensF_bool Tryz.underlying4 (by kernel_rfl))).mono
  fun S cs y ⟨v,e,hv,_,hl⟩=>⟨y,v,e,hv⟩
end Go.Proofs.YtceikpipmcadmaaGreatDoor
namespace Go.Proofs.YtceikpipmcadmaaGreatDoor
open Go.RowKit
open Mv Disk Num
set_option maxRecDepth 4000
namespace Rec
set_option maxHeartbeats 8000000 in
theorem law_RecsWrites (v vl : Value) (d : D) (s : ByteArray) (w : Int) (l : List (List Nat)) (text : ByteArray) (c : Nat) (S : Mem) (hd : DkR S v d) (hz : Dz d) (hl : SlOf RowR S vl l) (hb : ∀ x ∈ l, ∀ n ∈ x, n < 18446744073709551616) :
  ACall Tryz.prog 3 #[v,.string s,.int .i64 w,vl,.string text,.int .u64 (c:Int)] S fun r S'=>r = .bool true:=by
 have e0:=fun v S h=>rd_CopyW v d S h hz
 have c2:=fun v vl S h hl=>rec_Write v d s w l vl S h hz hl hb
 have e2:=fun v vl S h hl=>rr_Write v d s w l vl S h hz hl hb
 have c3:=fun v S h=>rec_WriteText v d s text S h hz
 have e3:=fun v S h=>rr_WriteText v d s text S h hz
 have c4:=fun S=>rec_Need w c S
 have e4:=fun S=>rr_Need w c S
 simp only [needV] at c4 e4
 generalize writeP d s w l=u2 at *
 generalize writeTextP d s text=u3 at *
 generalize needP w c=u4 at *
 obtain ⟨pe,ce,pw,cw,rfl,hE,hW⟩:=id hd
 obtain ⟨hs0,hlen0,⟨pa,ca,rfl,ha1,ha2,ha3⟩,hae⟩:=id hl
 refine ACall.enter (rs:=[.tmp 12]) 106 [(0,.agg #[.int .i64 d.size,.slice pe d.ext.length ce,.slice pw d.waits.length cw,.int .i64 d.fuse,.bool d.down]),(1,.string s),(2,.int .i64 w),(3,.slice pa hs0.length ca),(4,.string text),(5,.int .u64 (c:Int))] Tryz.func3 rfl rfl (Nat.le_of_ble_eq_true rfl) rfl ⟨rfl,rfl,rfl,rfl,rfl,rfl,trivial⟩ ?_
 iterate 2 refine s1_ ?_
 refine k_b5 rfl ?_
 intro b6 f6
 have g6:=f6
 repeat ((with_reducible replace g6:=fresh_set g6);obtain ⟨g6,_⟩:=g6)
 refine nl_ ?_
 iterate 3 refine s1_ ?_
 refine named (S:=S) (b:=b6) g6.1 ?_
 intro T6 hT6 kb6
 replace hd:=hd.less hT6
 replace hl:=hl.less rowR_less hT6
 iterate 3 refine s1_ ?_
 refine ca_ rfl (e0 _ _ hd) ?_
 rintro _ S1 ⟨hS1,hd1⟩
 obtain ⟨p1,q1,r1,s1,rfl,hE1,hW1⟩:=id hd1
 replace hd:=hd.less hS1
 replace hl:=hl.less rowR_less hS1
 replace kb6:=hS1.own kb6
 refine ARun.alloc (lit_lt rfl) ty_zero_25 ?_
 intro b13 f13
 have g13:=f13
 repeat ((with_reducible replace g13:=fresh_set g13);obtain ⟨g13,_⟩:=g13)
 have:=g13.ne kb6;have:=g13.ne' kb6
 refine nl_ ?_
 iterate 3 refine s1_ ?_
 refine su_ [(0,_),(1,_),(2,_),(3,_),(4,_),(5,_),(6,_),(12,_),(13,_)] ?_
 refine named (S:=S1) (b:=b13) g13.1 ?_
 intro T13 hT13 kb13
 replace hd:=hd.less hT13
 replace hl:=hl.less rowR_less hT13
 replace kb6:=hT13.own kb6
 replace hd1:=hd1.less hT13
 iterate 6 refine s1_ ?_
 refine ca_ rfl (c2 _ _ _ hd1 hl) ?_
 rintro _ S2 ⟨v,rfl,hS2,hd2⟩
 obtain ⟨p2,q2,r2,s2,rfl,hE2,hW2⟩:=id hd2
 replace hd:=hd.less hS2
 replace hl:=hl.less rowR_less hS2
 replace kb6:=hS2.own kb6
 replace hd1:=hd1.less hS2
 replace kb13:=hS2.own kb13
 iterate 3 refine s1_ ?_
 refine ARun.alloc (lit_lt rfl) ty_zero_25 ?_
 intro b14 f14
 have g14:=f14
 repeat ((with_reducible replace g14:=fresh_set g14);obtain ⟨g14,_⟩:=g14)
 have:=g14.ne kb6;have:=g14.ne' kb6
 have:=g14.ne kb13;have:=g14.ne' kb13
 refine nl_ ?_
 iterate 4 refine s1_ ?_
 refine su_ [(0,_),(1,_),(2,_),(3,_),(4,_),(5,_),(6,_),(12,_),(13,_),(14,_),(15,_)] ?_
 refine named (S:=S2) (b:=b14) g14.1 ?_
 intro T14 hT14 kb14
 replace hd:=hd.less hT14
 replace hl:=hl.less rowR_less hT14
 replace kb6:=hT14.own kb6
 replace hd1:=hd1.less hT14
 replace kb13:=hT14.own kb13
 replace hd2:=hd2.less hT14
 iterate 6 refine s1_ ?_
 refine ca_ rfl (e2 _ _ _ hd hl) ?_
 rintro _ S3 ⟨v,rfl,hS3,hd3⟩
 obtain ⟨p3,q3,r3,s3,rfl,hE3,hW3⟩:=id hd3
 replace hd:=hd.less hS3
 replace hl:=hl.less rowR_less hS3
 replace kb6:=hS3.own kb6
 replace hd1:=hd1.less hS3
 replace kb13:=hS3.own kb13
 replace hd2:=hd2.less hS3
 replace kb14:=hS3.own kb14
 iterate 3 refine s1_ ?_
 refine ARun.alloc (lit_lt rfl) ty_zero_25 ?_
 intro b16 f16
 have g16:=f16
 repeat ((with_reducible replace g16:=fresh_set g16);obtain ⟨g16,_⟩:=g16)
 have:=g16.ne kb6;have:=g16.ne' kb6
 have:=g16.ne kb13;have:=g16.ne' kb13
 have:=g16.ne kb14;have:=g16.ne' kb14
 refine nl_ ?_
 iterate 4 refine s1_ ?_
 refine su_ [(0,_),(1,_),(2,_),(3,_),(4,_),(5,_),(6,_),(12,_),(13,_),(14,_),(15,_),(16,_),(17,_)] ?_
 refine named (S:=S3) (b:=b16) g16.1 ?_
 intro T16 hT16 kb16
 replace hd:=hd.less hT16
 replace hl:=hl.less rowR_less hT16
 replace kb6:=hT16.own kb6
 replace hd1:=hd1.less hT16
 replace kb13:=hT16.own kb13
 replace hd2:=hd2.less hT16
 replace kb14:=hT16.own kb14
 replace hd3:=hd3.less hT16
 iterate 5 refine s1_ ?_
 refine ca_ rfl (c3 _ _ hd1) ?_
 rintro _ S4 ⟨v,rfl,hS4,hd4⟩
 obtain ⟨p4,q4,r4,s4,rfl,hE4,hW4⟩:=id hd4
 replace hd:=hd.less hS4
 replace hl:=hl.less rowR_less hS4
 replace kb6:=hS4.own kb6
 replace hd1:=hd1.less hS4
 replace kb13:=hS4.own kb13
 replace hd2:=hd2.less hS4
 replace kb14:=hS4.own kb14
 replace hd3:=hd3.less hS4
 replace kb16:=hS4.own kb16
 iterate 3 refine s1_ ?_
 refine ARun.alloc (lit_lt rfl) ty_zero_25 ?_
 intro b18 f18
 have g18:=f18
 repeat ((with_reducible replace g18:=fresh_set g18);obtain ⟨g18,_⟩:=g18)
 have:=g18.ne kb6;have:=g18.ne' kb6
 have:=g18.ne kb13;have:=g18.ne' kb13
 have:=g18.ne kb14;have:=g18.ne' kb14
 have:=g18.ne kb16;have:=g18.ne' kb16
 refine nl_ ?_
 iterate 4 refine s1_ ?_
 refine su_ [(0,_),(1,_),(2,_),(3,_),(4,_),(5,_),(6,_),(12,_),(13,_),(14,_),(15,_),(16,_),(17,_),(18,_),(19,_)] ?_
 refine named (S:=S4) (b:=b18) g18.1 ?_
 intro T18 hT18 kb18
 replace hd:=hd.less hT18
 replace hl:=hl.less rowR_less hT18
 replace kb6:=hT18.own kb6
 replace hd1:=hd1.less hT18
 replace kb13:=hT18.own kb13
 replace hd2:=hd2.less hT18
 replace kb14:=hT18.own kb14
 replace hd3:=hd3.less hT18
 replace kb16:=hT18.own kb16
 replace hd4:=hd4.less hT18
 iterate 5 refine s1_ ?_
 refine ca_ rfl (e3 _ _ hd) ?_
 rintro _ S5 ⟨v,rfl,hS5,hd5⟩
 obtain ⟨p5,q5,r5,s5,rfl,hE5,hW5⟩:=id hd5
 replace hd:=hd.less hS5
 replace hl:=hl.less rowR_less hS5
 replace kb6:=hS5.own kb6
 replace hd1:=hd1.less hS5
 replace kb13:=hS5.own kb13
 replace hd2:=hd2.less hS5
 replace kb14:=hS5.own kb14
 replace hd3:=hd3.less hS5
 replace kb16:=hS5.own kb16
 replace hd4:=hd4.less hS5
 replace kb18:=hS5.own kb18
 iterate 3 refine s1_ ?_
 refine ARun.alloc (lit_lt rfl) ty_zero_25 ?_
 intro b20 f20
 have g20:=f20
 repeat ((with_reducible replace g20:=fresh_set g20);obtain ⟨g20,_⟩:=g20)
 have:=g20.ne kb6;have:=g20.ne' kb6
 have:=g20.ne kb13;have:=g20.ne' kb13
 have:=g20.ne kb14;have:=g20.ne' kb14
 have:=g20.ne kb16;have:=g20.ne' kb16
 have:=g20.ne kb18;have:=g20.ne' kb18
 refine nl_ ?_
 iterate 4 refine s1_ ?_
 refine su_ [(0,_),(1,_),(2,_),(3,_),(4,_),(5,_),(6,_),(12,_),(13,_),(14,_),(15,_),(16,_),(17,_),(18,_),(19,_),(20,_),(21,_)] ?_
 refine named (S:=S5) (b:=b20) g20.1 ?_
 intro T20 hT20 kb20
 replace hd:=hd.less hT20
 replace hl:=hl.less rowR_less hT20
 replace kb6:=hT20.own kb6
 replace hd1:=hd1.less hT20
 replace kb13:=hT20.own kb13
 replace hd2:=hd2.less hT20
 replace kb14:=hT20.own kb14
 replace hd3:=hd3.less hT20
 replace kb16:=hT20.own kb16
 replace hd4:=hd4.less hT20
 replace kb18:=hT20.own kb18
 replace hd5:=hd5.less hT20
 iterate 4 refine s1_ ?_
 refine ca_ rfl (c4 _) ?_
 rintro _ Sx ⟨rfl,h1⟩
 rw [h1];clear h1 Sx
 iterate 7 refine s1_ ?_
 refine su_ [(0,_),(1,_),(2,_),(3,_),(4,_),(5,_),(6,_),(12,_),(13,_),(14,_),(15,_),(16,_),(17,_),(18,_),(19,_),(20,_),(21,_),(22,_),(23,_)] ?_
 iterate 4 refine s1_ ?_
 refine ca_ rfl (e4 _) ?_
 rintro _ Sx ⟨rfl,h1⟩
 rw [h1];clear h1 Sx
 iterate 7 refine s1_ ?_
 refine su_ [(0,_),(1,_),(2,_),(3,_),(4,_),(5,_),(6,_),(12,_),(13,_),(14,_),(15,_),(16,_),(17,_),(18,_),(19,_),(20,_),(21,_),(22,_),(23,_),(24,_),(25,_)] ?_
 iterate 2 refine s1_ ?_
 refine ca_ rfl (rec_lives _) ?_
 rintro _ Sx ⟨rfl,h1⟩
 rw [h1];clear h1 Sx
 iterate 3 refine s1_ ?_
 refine ARun.callG 1 true 71 rfl (lit_lt rfl) rfl (lit_lt rfl) go_18 rfl (rd_Same _ _ u2.1 _ hd2 hd3) ?_
 rintro _ Sx ⟨rfl,h1⟩
 rw [h1];clear h1 Sx
 iterate 9 refine s1_ ?_
 refine ARun.callG 11 true 81 rfl (lit_lt rfl) rfl (lit_lt rfl) go_18 rfl (rd_Same _ _ u3.1 _ hd4 hd5) ?_
 rintro _ Sx ⟨rfl,h1⟩
 rw [h1];clear h1 Sx
 iterate 19 refine s1_ ?_
 refine ARun.callG 31 true 101 rfl (lit_lt rfl) rfl (lit_lt rfl) go_18 rfl (rd_Same _ _ d _ hd1 hd) ?_
 rintro _ Sx ⟨rfl,h1⟩
 rw [h1];clear h1 Sx
 iterate 4 refine s1_ ?_
 refine su_ [(0,_),(1,_),(2,_),(3,_),(4,_),(5,_),(6,_),(12,_),(13,_),(14,_),(15,_),(16,_),(17,_),(18,_),(19,_),(20,_),(21,_),(22,_),(23,_),(24,_),(25,_)] ?_
 refine s1_ ?_
 refine ⟨_,_,⟨_,_,rfl,rfl,rfl⟩,less_,?_⟩
 rfl
set_option maxHeartbeats 8000000 in
theorem law_RecsReads (v : Value) (d : D) (s : ByteArray) (S : Mem) (hd : DkR S v d) (hz : Dz d) :
  ACall Tryz.prog 4 #[v,.string s] S fun r S'=>r = .bool true:=by
 have e0:=fun v S h=>rd_CopyW v d S h hz
 have c2:=fun v S h=>rec_Head v d s S h hz
 have e2:=fun v S h=>rr_Head v d s S h hz
 have c3:=fun v S h=>rec_Read v d s S h hz
 have e3:=fun v S h=>rr_Read v d s S h hz
 have c4:=fun v S h=>rec_ReadText v d s S h hz
 have e4:=fun v S h=>rr_ReadText v d s S h hz
 simp only [formV] at c2 e2
 unfold ReadR at c3 e3
 generalize headP d s=u2 at *
 generalize readRP d s=u3 at *
 generalize readTP d s=u4 at *
 obtain ⟨pe,ce,pw,cw,rfl,hE,hW⟩:=id hd
 refine ACall.enter (rs:=[.tmp 4]) 110 [(0,.agg #[.int .i64 d.size,.slice pe d.ext.length ce,.slice pw d.waits.length cw,.int .i64 d.fuse,.bool d.down]),(1,.string s)] Tryz.func4 rfl rfl (Nat.le_of_ble_eq_true rfl) rfl ⟨rfl,rfl,trivial⟩ ?_
 iterate 2 refine s1_ ?_
 refine k_b5 rfl ?_
 intro b2 f2
 have g2:=f2
 repeat ((with_reducible replace g2:=fresh_set g2);obtain ⟨g2,_⟩:=g2)
 refine nl_ ?_
 iterate 3 refine s1_ ?_
 refine named (S:=S) (b:=b2) g2.1 ?_
 intro T2 hT2 kb2
 replace hd:=hd.less hT2
 iterate 3 refine s1_ ?_
 refine ca_ rfl (e0 _ _ hd) ?_
 rintro _ S1 ⟨hS1,hd1⟩
 obtain ⟨p1,q1,r1,s1,rfl,hE1,hW1⟩:=id hd1
 replace hd:=hd.less hS1
 replace kb2:=hS1.own kb2
 refine ARun.alloc (lit_lt rfl) ty_zero_25 ?_
 intro b5 f5
 have g5:=f5
 repeat ((with_reducible replace g5:=fresh_set g5);obtain ⟨g5,_⟩:=g5)
 have:=g5.ne kb2;have:=g5.ne' kb2
 refine nl_ ?_
 iterate 3 refine s1_ ?_
 refine su_ [(0,_),(1,_),(2,_),(4,_),(5,_)] ?_
 refine named (S:=S1) (b:=b5) g5.1 ?_
 intro T5 hT5 kb5
 replace hd:=hd.less hT5
 replace kb2:=hT5.own kb2
 replace hd1:=hd1.less hT5
 iterate 4 refine s1_ ?_
 refine ca_ rfl (c2 _ _ hd1) ?_
 rintro _ Sx ⟨rfl,h1⟩
 rw [h1];clear h1 Sx
 iterate 9 refine s1_ ?_
 refine su_ [(0,_),(1,_),(2,_),(4,_),(5,_),(6,_),(7,_),(8,_)] ?_
 iterate 4 refine s1_ ?_
 refine ca_ rfl (e2 _ _ hd) ?_
 rintro _ Sx ⟨rfl,h1⟩
 rw [h1];clear h1 Sx
 iterate 9 refine s1_ ?_
 refine su_ [(0,_),(1,_),(2,_),(4,_),(5,_),(6,_),(7,_),(8,_),(9,_),(10,_),(11,_)] ?_
 iterate 4 refine s1_ ?_
 refine ca_ rfl (c3 _ _ hd1) ?_
 rintro _ S2 ⟨v2,rfl,hS2,hr2⟩
 replace hd:=hd.less hS2
 replace kb2:=hS2.own kb2
 replace hd1:=hd1.less hS2
 replace kb5:=hS2.own kb5
 iterate 9 refine s1_ ?_
 refine su_ [(0,_),(1,_),(2,_),(4,_),(5,_),(6,_),(7,_),(8,_),(9,_),(10,_),(11,_),(12,_),(13,_),(14,_)] ?_
 iterate 4 refine s1_ ?_
 refine ca_ rfl (e3 _ _ hd) ?_
 rintro _ S3 ⟨v3,rfl,hS3,hr3⟩
 replace hd:=hd.less hS3
 replace kb2:=hS3.own kb2
 replace hd1:=hd1.less hS3
 replace kb5:=hS3.own kb5
 replace hr2:=hr2.less rowR_less hS3
 iterate 9 refine s1_ ?_
 refine su_ [(0,_),(1,_),(2,_),(4,_),(5,_),(6,_),(7,_),(8,_),(9,_),(10,_),(11,_),(12,_),(13,_),(14,_),(15,_),(16,_),(17,_)] ?_
 iterate 4 refine s1_ ?_
 refine ca_ rfl (c4 _ _ hd1) ?_
 rintro _ Sx ⟨rfl,h1⟩
 rw [h1];clear h1 Sx
 iterate 7 refine s1_ ?_
 refine su_ [(0,_),(1,_),(2,_),(4,_),(5,_),(6,_),(7,_),(8,_),(9,_),(10,_),(11,_),(12,_),(13,_),(14,_),(15,_),(16,_),(17,_),(18,_),(19,_)] ?_
 iterate 4 refine s1_ ?_
 refine ca_ rfl (e4 _ _ hd) ?_
 rintro _ Sx ⟨rfl,h1⟩
 rw [h1];clear h1 Sx
 iterate 7 refine s1_ ?_
 refine su_ [(0,_),(1,_),(2,_),(4,_),(5,_),(6,_),(7,_),(8,_),(9,_),(10,_),(11,_),(12,_),(13,_),(14,_),(15,_),(16,_),(17,_),(18,_),(19,_),(20,_),(21,_)] ?_
 iterate 2 refine s1_ ?_
 refine ca_ rfl (rec_lives _) ?_
 rintro _ Sx ⟨rfl,h1⟩
 rw [h1];clear h1 Sx
 iterate 23 refine s1_ ?_
 refine ARun.callG 21 true 85 rfl (lit_lt rfl) rfl (lit_lt rfl) go_25 rfl (rnumV_Same u3.2.1 u3.2.1 _ _ _ hr2 hr3) ?_
 rintro _ Sx ⟨rfl,h1⟩
 rw [h1,decide_eq_true rfl];clear h1 Sx
 iterate 9 refine s1_ ?_
 first|refine k_q 95 ?_|refine rG 95 (Calm.bin rfl rfl (bin_bool (bin_str_eql _ _) (decide_eq_true rfl))) ?_
 iterate 9 refine s1_ ?_
 refine ARun.callG 41 true 105 rfl (lit_lt rfl) rfl (lit_lt rfl) go_18 rfl (rd_Same _ _ d _ hd1 hd) ?_
 rintro _ Sx ⟨rfl,h1⟩
 rw [h1];clear h1 Sx
 iterate 4 refine s1_ ?_
 refine su_ [(0,_),(1,_),(2,_),(4,_),(5,_),(6,_),(7,_),(8,_),(9,_),(10,_),(11,_),(12,_),(13,_),(14,_),(15,_),(16,_),(17,_),(18,_),(19,_),(20,_),(21,_)] ?_
 refine s1_ ?_
 refine ⟨_,_,⟨_,_,rfl,rfl,rfl⟩,less_,?_⟩
 rfl
end Rec
theorem walk_RecsWrites (cs : List Value) (y : D) (s : ByteArray) (w : Int) (pa : Option Addr) (la ca : Nat) (l : List (List Nat)) (text : ByteArray) (c : Int) (W : World) (w0 : DkV (roM W) cs y) (w1 : s.size ≤ maxLen) (z1 : s.size < 140737488355328) (w2 : (Lit.int .i64 w).wf = true) (w3 : SlOf (fun S v l => Sl 1 (fun x : Nat => [Value.int .u64 (x : Int)]) S v l) (roM W) (.slice pa la ca) l) (wb : ∀ x ∈ l, ∀ n ∈ x, n < 18446744073709551616) (zl : l.length ≤ 5864062014634) (zr : ∀ x ∈ l, x.length ≤ 17592186043904) (w4 : text.size ≤ maxLen) (z4 : text.size < 140737488355328) (w5 : (Lit.int .u64 c).wf = true) :
  Calls Tryz.prog 3 #[.agg cs.toArray,.string s,.int .i64 w,.slice pa la ca,.string text,.int .u64 c] W fun e w'=>e = .returned (.bool true)∧Below W.heap.size W w':=by
 have h:=wfu64 w5
 obtain ⟨n,rfl⟩:=Int.eq_ofNat_of_zero_le h.1
 exact ACall.callsW (Rec.law_RecsWrites _ _ y s w l text n _ w0.1 w0.2 w3 wb)
theorem walk_RecsReads (cs : List Value) (y : D) (s : ByteArray) (W : World) (w0 : DkV (roM W) cs y) (w1 : s.size ≤ maxLen) (z1 : s.size < 140737488355328) :
  Calls Tryz.prog 4 #[.agg cs.toArray,.string s] W fun e w'=>e = .returned (.bool true)∧Below W.heap.size W w' :=
 ACall.callsW (Rec.law_RecsReads _ y s _ w0.1 w0.2)
end Go.Proofs.YtceikpipmcadmaaGreatDoor
namespace Go.Proofs.YtceikpipmcadmaaGreatDoor
open Go.RowKit
set_option maxRecDepth 100000
/-- A start for the witnesses: the door's run, and the pinned table. -/
noncomputable def laidW (os : Os) : World :=
  { World.doorLaid Tryz.prog 400 os with heap := (World.doorLaid Tryz.prog 400 os).heap.modify 2 fun
      | .cells _ t frozen => .cells (match (Rows.laid_unicode_utf8_first) with | .agg l => (l.map fun d => match d with | .lit (.int k n) => Value.int k n | _ => .int .u8 0).toArray | _ => #[]) t frozen
      | o => o }
theorem laidW_shaped (os : Os) (args : Array Value) : ((laidW os).forCall (fun _ _ => 0) ⟨#[], args, []⟩).Shaped Tryz.prog :=
 World.shaped_of_RefB (by kernel_rfl) (by kernel_rfl)
theorem laidW_2 (os : Os) (args : Array Value) : laidMet Tryz.prog [("unicode/utf8.acceptRanges", Rows.laid_unicode_utf8_acceptRanges), ("unicode/utf8.first", Rows.laid_unicode_utf8_first)] ((laidW os).forCall (fun _ _ => 0) ⟨#[], args, []⟩).memory :=
 laidMet_of_run' 8 (by kernel_rfl) (by kernel_rfl)
theorem laidW_met2 (os : Os) (args : Array Value) {l : List (String × DataW Unit)} (h : l = [("unicode/utf8.acceptRanges", Rows.laid_unicode_utf8_acceptRanges), ("unicode/utf8.first", Rows.laid_unicode_utf8_first)]) : laidMetH Tryz.prog l ((laidW os).forCall (fun _ _ => 0) ⟨#[], args, []⟩).memory := by
 subst h
 rw [MakeChecks.laidMetH_plain _ _ _ (by kernel_rfl)]
 exact laidW_2 os args
end Go.Proofs.YtceikpipmcadmaaGreatDoor
namespace Go.Proofs.YtceikpipmcadmaaGreatDoor
open Go.RowKit
open Mv Disk Num
namespace Rec
theorem row_all {w : Nat} {l : List (List Nat)} (h : l.all (rowOK w) = true) : ∀ x ∈ l, x.length = w ∧ ∀ n ∈ x, n < top := by
 intro x hx
 have:=List.all_eq_true.1 h x hx
 unfold rowOK at this
 rw [Bool.and_eq_true,decide_eq_true_eq] at this
 exact ⟨this.2,(recOK_all this.1).2.2⟩
theorem rows_read {z : D} {s : ByteArray} {w : Nat} {l : List (List Nat)} (h1 : 1 ≤ w) (h8 : w ≤ 8) (hl : l.all (rowOK w) = true) (h : bodyP z s false = (w, bs (recsB l), 0)) : readRP z s = (w, l, 0) := by
 have ha:=row_all hl
 have hsz:(bs (recsB l)).size=l.length*(5*w):=by rw [size_bs,recsB_length l w fun x hx=>(ha x hx).1]
 have e:splitE (bs (recsB l)) (w:Int)=0:=by
  unfold splitE
  rw [if_neg (by omega),if_neg]
  rw [hsz,Int.toNat_natCast]
  simp
 have e2:splitL (bs (recsB l)) (w:Int)=l:=by
  unfold splitL
  rw [if_pos e,rowsOf,bs_data,Int.toNat_natCast,recsB_length l w fun x hx=>(ha x hx).1,Nat.mul_div_cancel _ (by omega)]
  exact rows_recs l w (fun x hx=>(ha x hx).1) (fun x hx=>(ha x hx).2)
 unfold readRP
 rw [h]
 simp only
 rw [if_neg (by simp),e,e2]
theorem file_rows {z : D} {s : ByteArray} {w : Nat} {l : List (List Nat)} (h1 : 1 ≤ w) (h8 : w ≤ 8) (hc : l.length ≤ 65536) (hl : l.all (rowOK w) = true) (h : FileR z s w l.length (bs (l.flatMap recB))) : readRP z s = (w, l, 0) := by
 refine rows_read h1 h8 hl ?_
 have:=file_body h8 hc (by
  have ha:=row_all hl
  show (bs (recsB l)).size=_
  rw [size_bs,recsB_length l w fun x hx=>(ha x hx).1]
  unfold eachN
  rw [if_neg (by omega),Nat.mul_comm]) h
 rw [decide_eq_false (by omega)] at this
 exact this
theorem file_text {z : D} {s text : ByteArray} (hc : text.size ≤ 65536) (h : FileR z s 0 text.size text) : readTP z s = (text, 0) := by
 have:=file_body (Nat.zero_le 8) hc (by unfold eachN;simp) h
 rw [decide_eq_true rfl] at this
 unfold readTP
 rw [this]
theorem write_yes {d : D} {s : ByteArray} {w : Int} {l : List (List Nat)} (hf : d.fuse ≤ 9223372036854775807) (h : (writeP d s w l).2 = 0) :
  ∃ z,writeP d s w l=(z,0)∧Right z∧z.down=false∧z.fuse≤9223372036854775807∧z.waits = []∧1≤w∧w≤8∧l.length≤65536∧l.all (rowOK w.toNat)=true∧FileR z s w.toNat l.length (bs (l.flatMap recB)) ∧ ∀ o k,o≠s→readO z o k=readO d o k:=by
 unfold writeP at h ⊢
 by_cases q1:w<1∨8<w∨65536<l.length
 ·rw [if_pos q1] at h;exact absurd h (by unfold refD;simp)
 rw [if_neg q1] at h ⊢
 by_cases q2:l.all (rowOK w.toNat)=true
 ·rw [if_pos q2] at h ⊢
  unfold opened at h ⊢
  rcases openD_or d with ⟨ho,hR⟩ | ⟨ho,hR,hdn⟩ | ⟨ho,hR,hdn⟩ <;> rw [ho] at h ⊢
  ·simp at h
  ·simp at h
  ·rw [if_pos rfl] at h ⊢
   have ha:=row_all q2
   obtain ⟨z,z1,z2,z3,z4,z5,z6,z7⟩:=put_law hR hdn hf (by omega) (by omega) (by
    show (bs (recsB l)).size=_
    rw [size_bs,recsB_length l w.toNat fun x hx=>(ha x hx).1]
    unfold eachN
    rw [if_neg (by omega),Nat.mul_comm]) h
   exact ⟨z,z1,z2,z3,z4,z5,by omega,by omega,by omega,q2,z6,z7⟩
 ·rw [if_neg q2] at h;exact absurd h (by unfold refD;simp)
theorem text_yes {d : D} {s text : ByteArray} (hf : d.fuse ≤ 9223372036854775807) (h : (writeTextP d s text).2 = 0) :
  ∃ z,writeTextP d s text=(z,0)∧Right z∧z.down=false∧z.fuse≤9223372036854775807∧z.waits = []∧text.size≤65536∧FileR z s 0 text.size text ∧ ∀ o k,o≠s→readO z o k=readO d o k:=by
 unfold writeTextP at h ⊢
 by_cases q1:65536<text.size
 ·rw [if_pos q1] at h;exact absurd h (by unfold refD;simp)
 rw [if_neg q1] at h ⊢
 unfold opened at h ⊢
 rcases openD_or d with ⟨ho,hR⟩ | ⟨ho,hR,hdn⟩ | ⟨ho,hR,hdn⟩ <;> rw [ho] at h ⊢
 ·simp at h
 ·simp at h
 ·rw [if_pos rfl] at h ⊢
  obtain ⟨z,z1,z2,z3,z4,z5,z6,z7⟩:=put_law hR hdn hf (Nat.zero_le 8) (by omega) (by unfold eachN;simp) h
  exact ⟨z,z1,z2,z3,z4,z5,by omega,z6,z7⟩
/-! ### What the power leaves -/
theorem read_none {c : D} {s : ByteArray} (hR : Right c) (hdn : c.down = false) (h : has c.ext s = false) : (readRP c s).2.2 = 3 := by
 have hp:(placeD c s 0).2=3:=by unfold placeD;rw [if_neg (by rw [h];simp)]
 have hr:readO c s 0=(ByteArray.empty,3):=by rw [read_ok hR hdn,hp,if_pos (by simp)]
 have hh:headP c s=(0,0,3):=by unfold headP;rw [hr];rfl
 have hb:bodyP c s false=(0,ByteArray.empty,3):=by unfold bodyP;rw [hh];rfl
 unfold readRP
 rw [hb];rfl
theorem place_zero {c : D} {s : ByteArray} (hR : Right c) (h : has c.ext s = true) : (placeD c s 0).2 = 0 := by
 have:=(eok_sec (hR.ex.ok _ (exOf_has hR.ex.asc h).1)).1
 unfold placeD
 rw [if_pos h,if_neg (by omega)]
theorem read_zero {c : D} {s : ByteArray} (hR : Right c) (hdn : c.down = false) (h : has c.ext s = true) (hz : seen c s 0 = zeros 1) : (readRP c s).2.2 = 2 := by
 have hr:readO c s 0=(zeros 1,0):=by rw [read_ok hR hdn,place_zero hR h,if_neg (by simp),hz]
 have hf:formP (zeros 1)=(0,0,2):=by
  unfold formP
  rw [if_pos]
  left
  decide +kernel
 have hh:headP c s=(0,0,2):=by unfold headP;rw [hr];simp only;rw [hf];rfl
 have hb:bodyP c s false=(0,ByteArray.empty,2):=by unfold bodyP;rw [hh];rfl
 unfold readRP
 rw [hb];rfl
theorem right_crash {a : D} (hR : Right a) (kp : Nat → Bool) : Right (upD (settleD a kp)) := right_fuse (right_settle hR kp) (by decide) false
theorem has_crash (a : D) (kp : Nat → Bool) (s : ByteArray) : has (upD (settleD a kp)).ext s = has a.ext s := has_map (f := doneX kp a.waits) (fun _ => rfl) a.ext s
/-- A crash leaves no head where none waits, or none that is kept. -/
theorem crash_zero {a : D} {s : ByteArray} (hR : Right a) (kp : Nat → Bool) (h : has a.ext s = true) (hb : (exOf a.ext s).2.extract 0 64 = zeros 1) (hw : ∀ i (hi : i < a.waits.length), a.waits[i].1 = s → a.waits[i].2.1 = 0 → kp i = false) : (readRP (upD (settleD a kp)) s).2.2 = 2 := by
 refine read_zero (right_crash hR kp) rfl ((has_crash a kp s).trans h) ?_
 show seen (settleD a kp) s 0=_
 rw [seen_settle hR (place_zero hR h) kp]
 have:∀ n,n≤a.waits.length→seeW kp a.waits s 0 ((exOf a.ext s).2.extract (64*(0:Int).toNat) (64*(0:Int).toNat+64)) n=zeros 1:=by
  intro n
  induction n with
  | zero=>intro _;exact hb
  | succ n ih =>
   intro hn
   rw [seeW_succ _ _ _ _ _ (by omega),if_neg,ih (by omega)]
   rintro ⟨h1,h2,h3⟩
   rw [hw n (by omega) h1 h2] at h3;cases h3
 exact this _ (Nat.le_refl _)
theorem write_bad {d : D} {s y : ByteArray} {k : Int} (h : (writeD d s k y).2 ≠ 0) : (writeD d s k y).1 = d ∨ ((writeD d s k y).2 = 10 ∧ d.fuse = 0 ∧ (placeD d s k).2 = 0 ∧ y.size = 64 ∧ d.waits.length ≠ 16384 ∧ (writeD d s k y).1 = { addW d (s, k, y) with down := true }) := by
 unfold writeD at h ⊢
 by_cases q0:(placeD d s k).2≠0
 ·rw [if_pos q0];exact .inl rfl
 rw [if_neg q0] at h ⊢
 by_cases q1:y.size≠64
 ·rw [if_pos q1];exact .inl rfl
 rw [if_neg q1] at h ⊢
 by_cases q2:d.waits.length=16384
 ·rw [if_pos q2];exact .inl rfl
 rw [if_neg q2] at h ⊢
 unfold fuseD at h ⊢
 by_cases q3:(addW d (s,k,y)).fuse=0
 ·rw [if_pos q3];exact .inr ⟨rfl,q3,by simpa using q0,by simpa using q1,q2,rfl⟩
 ·rw [if_neg q3] at h;exfalso;apply h;split <;> rfl
theorem done_nil (kp : Nat → Bool) (l : List Ext) : l.map (doneX kp []) = l := by
 have:doneX kp []=id:=by funext x;rfl
 rw [this,List.map_id]
theorem file_fuse {z : D} {s : ByteArray} {w c : Nat} {body : ByteArray} (hR : Right z) (hdn : z.down = false) {f : Int} (hf : -1 ≤ f) (h : FileR z s w c body) : FileR { z with fuse := f, down := false } s w c body := by
 have hR':=right_fuse hR hf false
 have hr:∀ o k,readO { z with fuse:=f,down:=false } o k=readO z o k:=fun o k=>(read_ok hR' rfl o k).trans (read_ok hR hdn o k).symm
 refine ⟨(hr _ _).trans h.head,fun i hi=>(hr _ _).trans (h.secs i hi),?_⟩
 have h2:=h.size
 unfold sectorsD at h2 ⊢
 rw [open_ok hR hdn] at h2
 rw [open_ok hR' rfl]
 exact h2
theorem settle_nil {a : D} (h : a.waits = []) (kp : Nat → Bool) : upD (settleD a kp) = { a with fuse := -1, down := false } := by
 obtain ⟨z,e,w,f,b⟩:=a
 obtain rfl:w = []:=h
 show (⟨z,e.map (doneX kp []),[],-1,false⟩ : D)=⟨z,e,[],-1,false⟩
 rw [done_nil]
/-- What may stand behind a crash. -/
def AfterW (c : D) (s : ByteArray) (w : Nat) (l : List (List Nat)) (e : Int) : Prop :=
  (e = 0 → readRP c s = (w, l, 0) ∧ 1 ≤ w) ∧ (e ≠ 0 → (readRP c s).2.2 = 3 ∨ (readRP c s).2.2 = 2 ∨ (e = 10 ∧ readRP c s = (w, l, 0) ∧ 1 ≤ w))
theorem zeros_head {n : Nat} (h : 1 ≤ n) : (zeros n).extract 0 64 = zeros 1 := by
 apply str_ext
 rw [Lib.extract_data]
 unfold zeros
 rw [bs_data,bs_data,List.drop_zero,List.take_replicate]
 congr 1;omega
theorem put_whole {d : D} {s : ByteArray} {w : Nat} {l : List (List Nat)} (hR : Right d) (hdn : d.down = false) (hf : d.fuse ≤ 9223372036854775807) (hw0 : d.waits = []) (hno : has d.ext s = false) (h1 : 1 ≤ w) (h8 : w ≤ 8) (hc : l.length ≤ 65536) (hl : l.all (rowOK w) = true) (kp : Nat → Bool) :
  Right (putP d s w l.length (bs (l.flatMap recB))).1∧(putP d s w l.length (bs (l.flatMap recB))).1.fuse≤9223372036854775807∧AfterW (upD (settleD (putP d s w l.length (bs (l.flatMap recB))).1 kp)) s w l (putP d s w l.length (bs (l.flatMap recB))).2:=by
 have ha:=row_all hl
 have hbody:(bs (l.flatMap recB)).size=eachN w*l.length:=by
  show (bs (recsB l)).size=_
  rw [size_bs,recsB_length l w fun x hx=>(ha x hx).1]
  unfold eachN
  rw [if_neg (by omega),Nat.mul_comm]
 generalize hB:bs (l.flatMap recB)=body at *
 by_cases q:(putP d s w l.length body).2=0
 ·obtain ⟨z,z1,z2,z3,z4,z5,z6,_⟩:=put_law hR hdn hf h8 hc hbody q
  rw [z1]
  refine ⟨z2,z4,fun _=>⟨?_,h1⟩,fun h=>absurd rfl h⟩
  simp only
  rw [settle_nil z5]
  exact file_rows h1 h8 hc hl (by rw [hB];exact file_fuse z2 z3 (by decide) z6)
 have hAW:∀ {a:D} {e:Int},e≠0→((readRP (upD (settleD a kp)) s).2.2=3∨(readRP (upD (settleD a kp)) s).2.2=2∨(e=10∧readRP (upD (settleD a kp)) s=(w,l,0)∧1≤w))→AfterW (upD (settleD a kp)) s w l e:=fun he h=>⟨fun h=>absurd h he,fun _=>h⟩
 have hn1:=needN_pos w l.length
 unfold putP at q ⊢
 by_cases q1:(newD d s (needN w l.length:Nat)).2≠0
 ·rw [if_pos q1] at q ⊢
  rw [new_no q1]
  exact ⟨hR,hf,hAW q1 (.inl (read_none (right_crash hR kp) rfl ((has_crash d kp s).trans hno)))⟩
 rw [if_neg q1] at q ⊢
 have q1:(newD d s (needN w l.length:Nat)).2=0:=by simpa using q1
 obtain ⟨hR1,hd1,hf1,_⟩:=(new_law (s:=s) (n:=((needN w l.length:Nat):Int)) hR hdn).2 q1
 have hf1:(newD d s (needN w l.length:Nat)).1.fuse≤9223372036854775807:=by rw [hf1];exact hf
 obtain ⟨x1,x2⟩:=exOf_new hR q1
 -- a disk in the middle of it
 have hmid:∀ j,(putTo (newD d s (needN w l.length:Nat)).1 s (padS body) j).2=0 → ∃ P,(putTo (newD d s (needN w l.length:Nat)).1 s (padS body) j).1=P∧Right P∧P.fuse≤9223372036854775807∧P.down=false∧has P.ext s=true∧exOf P.ext s=(s,zeros (needN w l.length))∧P.waits=secsW s (padS body) j:=fun j hj=>by
  obtain ⟨kR,kf,kd⟩:=putTo_keep hR1 hd1 hf1 s (padS body) j
  have kd:=kd hj
  obtain ⟨f,f0,f1,e⟩:=putTo_yes (s:=s) (all:=padS body) hR hdn hf q1 _ hj
  rw [e] at kR kf kd ⊢
  exact ⟨_,rfl,kR,kf,kd,x2,x1,by show d.waits ++ _=_;rw [hw0];rfl⟩
 by_cases q2:(putTo (newD d s (needN w l.length:Nat)).1 s (padS body) (needN w l.length-1)).2≠0
 ·rw [if_pos q2] at q ⊢
  obtain ⟨kR,kF,_⟩:=putTo_keep hR1 hd1 hf1 s (padS body) (needN w l.length-1)
  refine ⟨kR,kF,hAW q2 (.inr (.inl ?_))⟩
  obtain ⟨j,j1,j2,j3⟩:=putTo_no _ s (padS body) _ q2
  obtain ⟨P,hP,pR,pf,pd,ph,px,pw⟩:=hmid j j2
  rw [j3] at kR q2 ⊢
  rw [hP] at kR q2 ⊢
  have hb:(exOf P.ext s).2.extract 0 64=zeros 1:=by rw [px];exact zeros_head hn1
  rcases write_bad q2 with e | ⟨_,_,_,_,_,e⟩
  ·rw [e]
   refine crash_zero pR kp ph hb fun i hi h1 h2=>?_
   have:=secsW_zero (s:=s) (all:=padS body) (k:=j) (by rw [← pw];exact List.getElem_mem hi)
   exact absurd h2 this.2
  ·rw [e] at kR ⊢
   refine crash_zero kR kp ph hb fun i hi h1 h2=>?_
   have hall:∀ y ∈ P.waits ++ [(s,((j+1:Nat):Int),secAt (padS body) j)],y.2.1≠0:=by rw [pw,← secsW_succ];exact fun y hy=>(secsW_zero hy).2
   exact absurd h2 (hall _ (List.getElem_mem hi))
 rw [if_neg q2] at q ⊢
 have q2:(putTo (newD d s (needN w l.length:Nat)).1 s (padS body) (needN w l.length-1)).2=0:=by simpa using q2
 obtain ⟨P,hP,pR,pf,pd,ph,px,pw⟩:=hmid _ q2
 have hsee:∀ i,i<needN w l.length-1→seen P s ((i+1:Nat):Int)=secAt (padS body) i:=fun i hi=>by
  obtain ⟨f,f0,f1,e⟩:=putTo_yes (s:=s) (all:=padS body) hR hdn hf q1 _ q2
  rw [← hP,e]
  refine (seen_put hR q1 _ _ _ f).trans ?_
  rw [if_pos ⟨rfl,by omega,by omega⟩,show (((i+1:Nat):Int)).toNat-1=i from by omega]
 rw [hP] at q ⊢
 have pS:=right_settle pR (fun _=>true)
 have hsd:sealD P s (headS w l.length)=writeD (settleD P fun _=>true) s 0 (headS w l.length)∧(writeD (settleD P fun _=>true) s 0 (headS w l.length)).2≠0:=by
  unfold sealD at q ⊢
  by_cases q3:(writeD (settleD P fun _=>true) s 0 (headS w l.length)).2=0
  ·rw [if_pos q3] at q;exact absurd rfl q
  ·rw [if_neg q3];exact ⟨rfl,q3⟩
 obtain ⟨e0,q3⟩:=hsd
 rw [e0]
 have hh1:has (settleD P fun _=>true).ext s=true:=(has_crash P _ s).trans ph
 have hz0:seen P s 0=zeros 1:=by
  unfold seen
  refine (seeW_none _ _ _ _ _ (fun y hy h=>?_) _).trans ?_
  ·rw [pw] at hy;exact (secsW_zero hy).2
  ·rw [px];exact zeros_head hn1
 have hb:(exOf (settleD P fun _=>true).ext s).2.extract 0 64=zeros 1:=by
  have h:=seen_settle pR (place_zero pR ph) (fun _=>true)
  exact h.trans hz0
 obtain ⟨hRw,hFw,_⟩:=write_keep pS (show (settleD P fun _=>true).down=false from pd) pf s (headS w l.length) 0
 refine ⟨hRw,hFw,hAW q3 ?_⟩
 rcases write_bad q3 with e | ⟨e10,ef,ep,es,ew,e⟩
 ·rw [e]
  exact .inr (.inl (crash_zero pS kp hh1 hb fun i hi=>absurd hi (by show ¬ i<0;omega)))
 ·rw [e] at hRw ⊢
  by_cases hk:kp 0=true
  ·refine .inr (.inr ⟨e10,?_,h1⟩)
   have hP1:Right { P with fuse:=-1,down:=false }:=right_fuse pR (by decide) false
   have hw1:writeD (settleD { P with fuse:=-1,down:=false } fun _=>true) s 0 (headS w l.length)=({ addW (settleD P fun _=>true) (s,0,headS w l.length) with fuse:=-1,down:=false },0):=by
    unfold writeD
    rw [if_neg (by show ¬ (placeD (settleD P fun _=>true) s 0).2≠0;simpa using ep),if_neg (by simpa using es),if_neg (by exact ew)]
    rfl
   have hs1:sealD { P with fuse:=-1,down:=false } s (headS w l.length)=(settleD { addW (settleD P fun _=>true) (s,0,headS w l.length) with fuse:=-1,down:=false } fun _=>true,0):=by
    unfold sealD
    rw [hw1];rfl
   obtain ⟨z,z1,z2,z3,z4,z5,z6,_⟩:=sealed (e:={ P with fuse:=-1,down:=false }) (s:=s) (w:=w) (c:=l.length) (body:=body) hP1 rfl (by show (-1:Int)≤_;decide) ph (by
    show sec (exOf P.ext s)=_
    rw [px];unfold sec;simp only;rw [zeros_size];omega) hsee (by rw [hs1])
   have hz:upD (settleD { addW (settleD P fun _=>true) (s,0,headS w l.length) with down:=true } kp)=z:=by
    rw [hs1] at z1
    refine Eq.trans ?_ (congrArg Prod.fst z1)
    show (⟨_,_,_,_,_⟩ : D)=⟨_,_,_,_,_⟩
    congr 1
    show List.map (doneX kp ([] ++ [(s,0,headS w l.length)])) _=List.map (doneX (fun _=>true) ([] ++ [(s,0,headS w l.length)])) _
    congr 1
    funext x
    simp only [doneX,accW,List.nil_append,List.length_cons,List.length_nil,List.getElem?_cons_zero,hk]
   rw [hz]
   exact file_rows h1 h8 hc hl (by rw [hB];exact z6)
  ·refine .inr (.inl (crash_zero hRw kp hh1 hb fun i hi h1 h2=>?_))
   have:i=0:=by
    have:i<([] ++ [(s,(0:Int),headS w l.length)] : List Wr).length:=hi
    simpa using this
   subst this
   simpa using hk
/-- A write on a disk on which no power is lacking yet, and the crash behind it. -/
theorem write_whole {d : D} {s : ByteArray} {w : Int} {l : List (List Nat)} (hR : Right d) (hdn : d.down = false) (hf : d.fuse ≤ 9223372036854775807) (hw0 : d.waits = []) (hno : has d.ext s = false) (kp : Nat → Bool) :
  Right (writeP d s w l).1∧(writeP d s w l).1.fuse≤9223372036854775807∧AfterW (upD (settleD (writeP d s w l).1 kp)) s w.toNat l (writeP d s w l).2:=by
 have href:Right (refD d).1∧(refD d).1.fuse≤9223372036854775807∧AfterW (upD (settleD (refD d).1 kp)) s w.toNat l (refD d).2:=by
  unfold refD
  rw [open_ok hR hdn]
  exact ⟨hR,hf,fun h=>absurd (show (1:Int)=0 from h) (by decide),fun _=>.inl (read_none (right_crash hR kp) rfl ((has_crash d kp s).trans hno))⟩
 unfold writeP
 by_cases q1:w<1∨8<w∨65536<l.length
 ·rw [if_pos q1];exact href
 rw [if_neg q1]
 by_cases q2:l.all (rowOK w.toNat)=true
 ·rw [if_pos q2]
  unfold opened
  rw [open_ok hR hdn,if_pos rfl]
  exact put_whole hR hdn hf hw0 hno (by omega) (by omega) (by omega) q2 kp
 ·rw [if_neg q2];exact href
theorem head_none {d : D} {s : ByteArray} (hR : Right d) (hdn : d.down = false) (h : (headP d s).2.2 = 3) : has d.ext s = false := by
 by_cases q:has d.ext s=true
 ·exfalso
  have hr:readO d s 0=(seen d s 0,0):=by rw [read_ok hR hdn,place_zero hR q,if_neg (by simp)]
  unfold headP at h
  rw [hr,if_neg (by simp)] at h
  simp only at h
  have hf:(formP (seen d s 0)).2.2≠3:=by
   unfold formP
   split
   ·simp
   ·unfold openS
    split
    ·simp
    ·split
     ·simp
     ·split
      ·simp
      ·simp
  split at h
  ·exact hf h
  ·split at h
   ·simp at h
   ·exact hf h
 ·simpa using q
end Rec
end Go.Proofs.YtceikpipmcadmaaGreatDoor
namespace Go.Proofs.YtceikpipmcadmaaGreatDoor
open Go.RowKit
open Mv Disk Num
set_option maxRecDepth 4000
namespace Rec
set_option maxHeartbeats 8000000 in
theorem law_RecsBack (v vl : Value) (d : D) (s : ByteArray) (w : Int) (l : List (List Nat)) (text o : ByteArray) (k : Int) (S : Mem) (hd : DkR S v d) (hz : Dz d) (hl : SlOf RowR S vl l) (hb : ∀ x ∈ l, ∀ n ∈ x, n < 18446744073709551616) :
  ACall Tryz.prog 5 #[v,.string s,.int .i64 w,vl,.string text,.string o,.int .i64 k] S fun r S'=>r = .bool true:=by
 have c0:=fun v S h=>disk_Read v d o k S h hz
 have c2:=fun v vl S h hl=>rec_Write v d s w l vl S h hz hl hb
 have c3:=fun v S h=>rec_WriteText v d s text S h hz
 generalize hu1:readO d o k=u1 at *
 obtain ⟨pe,ce,pw,cw,rfl,hE,hW⟩:=id hd
 obtain ⟨hs0,hlen0,⟨pa,ca,rfl,ha1,ha2,ha3⟩,hae⟩:=id hl
 by_cases q0:o=s
 ·skip
  refine ACall.enter (rs:=[.tmp 14]) 128 [(0,.agg #[.int .i64 d.size,.slice pe d.ext.length ce,.slice pw d.waits.length cw,.int .i64 d.fuse,.bool d.down]),(1,.string s),(2,.int .i64 w),(3,.slice pa hs0.length ca),(4,.string text),(5,.string o),(6,.int .i64 k)] Tryz.func5 rfl rfl (Nat.le_of_ble_eq_true rfl) rfl ⟨rfl,rfl,rfl,rfl,rfl,rfl,rfl,trivial⟩ ?_
  iterate 2 refine s1_ ?_
  refine k_b5 rfl ?_
  intro b7 f7
  have g7:=f7
  repeat ((with_reducible replace g7:=fresh_set g7);obtain ⟨g7,_⟩:=g7)
  refine nl_ ?_
  iterate 3 refine s1_ ?_
  refine named (S:=S) (b:=b7) g7.1 ?_
  intro T7 hT7 kb7
  replace hd:=hd.less hT7
  replace hl:=hl.less rowR_less hT7
  iterate 3 refine s1_ ?_
  refine ca_ rfl (rec_lives _) ?_
  rintro _ Sx ⟨rfl,h1⟩
  rw [h1];clear h1 Sx
  iterate 3 refine s1_ ?_
  refine su_ [(0,_),(1,_),(2,_),(3,_),(4,_),(5,_),(6,_),(7,_),(14,_),(31,_)] ?_
  refine cF_ ?_
  iterate 7 refine s1_ ?_
  refine ca_ rfl (c0 _ _ hd) ?_
  rintro _ Sx ⟨rfl,h1⟩
  rw [h1];clear h1 Sx
  iterate 7 refine s1_ ?_
  refine su_ [(0,_),(1,_),(2,_),(3,_),(4,_),(5,_),(6,_),(7,_),(14,_),(31,_),(15,_),(16,_)] ?_
  iterate 5 refine s1_ ?_
  refine rC (Calm.bin rfl rfl (bin_bool (bin_str_eql _ _) (decide_eq_true q0))) ?_
  iterate 2 refine s1_ ?_
  refine su_ [(0,_),(1,_),(2,_),(3,_),(4,_),(5,_),(6,_),(7,_),(14,_),(31,_),(15,_),(16,_),(41,_)] ?_
  refine cT_ ?_
  iterate 7 refine s1_ ?_
  refine ⟨_,_,⟨_,_,rfl,rfl,rfl⟩,less_,?_⟩
  rfl
 by_cases q2:(writeP d s w l).2=0
 ·obtain ⟨z,z1,z2,z3,z4,z5,z6,z7,z8,z9,z10,z11⟩:=write_yes hz.f1 q2
  have hz2:=dz_right z2 z4
  obtain ⟨w,rfl⟩:=Int.eq_ofNat_of_zero_le (show 0≤w by omega)
  rw [Int.toNat_natCast] at z9 z10
  have e2:=fun v S h=>rec_Read v z s S h hz2
  have e4:=fun v S h=>disk_Read v z o k S h hz2
  rw [file_rows (by omega) (by omega) z8 z9 z10] at e2
  rw [z11 o k q0,hu1] at e4
  rw [z1] at c2
  unfold ReadR at e2
  simp only at e2
  clear z1 z2 z3 z4 z5 z6 z7 z8 z9 z10 z11 hz2 q2
  by_cases q3:(writeTextP d s text).2=0
  ·obtain ⟨y,y1,y2,y3,y4,y5,y6,y7,y8⟩:=text_yes hz.f1 q3
   have hy2:=dz_right y2 y4
   have e3:=fun v S h=>rec_ReadText v y s S h hy2
   have e5:=fun v S h=>disk_Read v y o k S h hy2
   rw [file_text y6 y7] at e3
   rw [y8 o k q0,hu1] at e5
   rw [y1] at c3
   clear y1 y2 y3 y4 y5 y6 y7 y8 hy2 q3
   refine ACall.enter (rs:=[.tmp 14]) 128 [(0,.agg #[.int .i64 d.size,.slice pe d.ext.length ce,.slice pw d.waits.length cw,.int .i64 d.fuse,.bool d.down]),(1,.string s),(2,.int .i64 w),(3,.slice pa hs0.length ca),(4,.string text),(5,.string o),(6,.int .i64 k)] Tryz.func5 rfl rfl (Nat.le_of_ble_eq_true rfl) rfl ⟨rfl,rfl,rfl,rfl,rfl,rfl,rfl,trivial⟩ ?_
   iterate 2 refine s1_ ?_
   refine k_b5 rfl ?_
   intro b7 f7
   have g7:=f7
   repeat ((with_reducible replace g7:=fresh_set g7);obtain ⟨g7,_⟩:=g7)
   refine nl_ ?_
   iterate 3 refine s1_ ?_
   refine named (S:=S) (b:=b7) g7.1 ?_
   intro T7 hT7 kb7
   replace hd:=hd.less hT7
   replace hl:=hl.less rowR_less hT7
   iterate 3 refine s1_ ?_
   refine ca_ rfl (rec_lives _) ?_
   rintro _ Sx ⟨rfl,h1⟩
   rw [h1];clear h1 Sx
   iterate 3 refine s1_ ?_
   refine su_ [(0,_),(1,_),(2,_),(3,_),(4,_),(5,_),(6,_),(7,_),(14,_),(31,_)] ?_
   refine cF_ ?_
   iterate 7 refine s1_ ?_
   refine ca_ rfl (c0 _ _ hd) ?_
   rintro _ Sx ⟨rfl,h1⟩
   rw [h1];clear h1 Sx
   iterate 7 refine s1_ ?_
   refine su_ [(0,_),(1,_),(2,_),(3,_),(4,_),(5,_),(6,_),(7,_),(14,_),(31,_),(15,_),(16,_)] ?_
   iterate 5 refine s1_ ?_
   refine rC (Calm.bin rfl rfl (bin_bool (bin_str_eql _ _) (decide_eq_false q0))) ?_
   iterate 2 refine s1_ ?_
   refine su_ [(0,_),(1,_),(2,_),(3,_),(4,_),(5,_),(6,_),(7,_),(14,_),(31,_),(15,_),(16,_),(41,_)] ?_
   refine cF_ ?_
   iterate 8 refine s1_ ?_
   refine ca_ rfl (c2 _ _ _ hd hl) ?_
   rintro _ S2 ⟨v,rfl,hS2,hd2⟩
   obtain ⟨p2,q2',r2,s2,rfl,hE2,hW2⟩:=id hd2
   replace hd:=hd.less hS2
   replace hl:=hl.less rowR_less hS2
   replace kb7:=hS2.own kb7
   iterate 3 refine s1_ ?_
   refine ARun.alloc (lit_lt rfl) ty_zero_25 ?_
   intro b17 f17
   have g17:=f17
   repeat ((with_reducible replace g17:=fresh_set g17);obtain ⟨g17,_⟩:=g17)
   have:=g17.ne kb7;have:=g17.ne' kb7
   refine nl_ ?_
   iterate 4 refine s1_ ?_
   refine su_ [(0,_),(1,_),(2,_),(3,_),(4,_),(5,_),(6,_),(7,_),(14,_),(31,_),(15,_),(16,_),(41,_),(17,_),(18,_)] ?_
   refine named (S:=S2) (b:=b17) g17.1 ?_
   intro T17 hT17 kb17
   replace hd:=hd.less hT17
   replace hl:=hl.less rowR_less hT17
   replace kb7:=hT17.own kb7
   replace hd2:=hd2.less hT17
   iterate 7 refine s1_ ?_
   refine su_ [(0,_),(1,_),(2,_),(3,_),(4,_),(5,_),(6,_),(7,_),(14,_),(31,_),(15,_),(16,_),(41,_),(17,_),(18,_),(51,_)] ?_
   refine cT_ ?_
   iterate 4 refine s1_ ?_
   refine ca_ rfl (e2 _ _ hd2) ?_
   rintro _ S3 ⟨v3,rfl,hS3,hr3⟩
   replace hd:=hd.less hS3
   replace hl:=hl.less rowR_less hS3
   replace kb7:=hS3.own kb7
   replace hd2:=hd2.less hS3
   replace kb17:=hS3.own kb17
   iterate 9 refine s1_ ?_
   refine su_ [(0,_),(1,_),(2,_),(3,_),(4,_),(5,_),(6,_),(7,_),(14,_),(31,_),(15,_),(16,_),(41,_),(17,_),(18,_),(51,_),(19,_),(20,_),(21,_)] ?_
   iterate 5 refine s1_ ?_
   refine ca_ rfl (e4 _ _ hd2) ?_
   rintro _ Sx ⟨rfl,h1⟩
   rw [h1];clear h1 Sx
   iterate 7 refine s1_ ?_
   refine su_ [(0,_),(1,_),(2,_),(3,_),(4,_),(5,_),(6,_),(7,_),(14,_),(31,_),(15,_),(16,_),(41,_),(17,_),(18,_),(51,_),(19,_),(20,_),(21,_),(22,_),(23,_)] ?_
   iterate 7 refine s1_ ?_
   first|refine k_q 68 ?_|refine rG 68 (Calm.bin rfl rfl (bin_bool (bin_neq _ _) (bnot_dec_false rfl))) ?_
   iterate 4 refine s1_ ?_
   refine ARun.callG 7 false 73 rfl (lit_lt rfl) rfl (lit_lt rfl) go_25 rfl (rnumV_Same l l _ _ _ hl hr3) ?_
   rintro _ Sx ⟨rfl,h1⟩
   rw [h1,decide_eq_true rfl];clear h1 Sx
   iterate 5 refine s1_ ?_
   first|refine k_q 79 ?_|refine rG 79 (Calm.bin rfl rfl (bin_bool (bin_neq _ _) (bnot_dec_false rfl))) ?_
   iterate 4 refine s1_ ?_
   first|refine k_q 84 ?_|refine rG 84 (Calm.bin rfl rfl (bin_bool (bin_str_neq _ _) (bnot_dec_false rfl))) ?_
   iterate 3 refine s1_ ?_
   refine su_ [(0,_),(1,_),(2,_),(3,_),(4,_),(5,_),(6,_),(7,_),(14,_),(31,_),(15,_),(16,_),(41,_),(17,_),(18,_),(51,_),(19,_),(20,_),(21,_),(22,_),(23,_),(88,_)] ?_
   refine cF_ ?_
   iterate 7 refine s1_ ?_
   refine ca_ rfl (c3 _ _ hd) ?_
   rintro _ S4 ⟨v,rfl,hS4,hd4⟩
   obtain ⟨p4,q4,r4,s4,rfl,hE4,hW4⟩:=id hd4
   replace hd:=hd.less hS4
   replace hl:=hl.less rowR_less hS4
   replace kb7:=hS4.own kb7
   replace hd2:=hd2.less hS4
   replace kb17:=hS4.own kb17
   replace hr3:=hr3.less rowR_less hS4
   iterate 3 refine s1_ ?_
   refine ARun.alloc (lit_lt rfl) ty_zero_25 ?_
   intro b24 f24
   have g24:=f24
   repeat ((with_reducible replace g24:=fresh_set g24);obtain ⟨g24,_⟩:=g24)
   have:=g24.ne kb7;have:=g24.ne' kb7
   have:=g24.ne kb17;have:=g24.ne' kb17
   refine nl_ ?_
   iterate 4 refine s1_ ?_
   refine su_ [(0,_),(1,_),(2,_),(3,_),(4,_),(5,_),(6,_),(7,_),(14,_),(31,_),(15,_),(16,_),(41,_),(17,_),(18,_),(51,_),(19,_),(20,_),(21,_),(22,_),(23,_),(88,_),(24,_),(25,_)] ?_
   refine named (S:=S4) (b:=b24) g24.1 ?_
   intro T24 hT24 kb24
   replace hd:=hd.less hT24
   replace hl:=hl.less rowR_less hT24
   replace kb7:=hT24.own kb7
   replace hd2:=hd2.less hT24
   replace kb17:=hT24.own kb17
   replace hr3:=hr3.less rowR_less hT24
   replace hd4:=hd4.less hT24
   iterate 7 refine s1_ ?_
   refine su_ [(0,_),(1,_),(2,_),(3,_),(4,_),(5,_),(6,_),(7,_),(14,_),(31,_),(15,_),(16,_),(41,_),(17,_),(18,_),(51,_),(19,_),(20,_),(21,_),(22,_),(23,_),(88,_),(24,_),(25,_),(97,_)] ?_
   refine cT_ ?_
   iterate 4 refine s1_ ?_
   refine ca_ rfl (e3 _ _ hd4) ?_
   rintro _ Sx ⟨rfl,h1⟩
   rw [h1];clear h1 Sx
   iterate 7 refine s1_ ?_
   refine su_ [(0,_),(1,_),(2,_),(3,_),(4,_),(5,_),(6,_),(7,_),(14,_),(31,_),(15,_),(16,_),(41,_),(17,_),(18,_),(51,_),(19,_),(20,_),(21,_),(22,_),(23,_),(88,_),(24,_),(25,_),(97,_),(26,_),(27,_)] ?_
   iterate 5 refine s1_ ?_
   refine ca_ rfl (e5 _ _ hd4) ?_
   rintro _ Sx ⟨rfl,h1⟩
   rw [h1];clear h1 Sx
   iterate 7 refine s1_ ?_
   refine su_ [(0,_),(1,_),(2,_),(3,_),(4,_),(5,_),(6,_),(7,_),(14,_),(31,_),(15,_),(16,_),(41,_),(17,_),(18,_),(51,_),(19,_),(20,_),(21,_),(22,_),(23,_),(88,_),(24,_),(25,_),(97,_),(26,_),(27,_),(28,_),(29,_)] ?_
   iterate 7 refine s1_ ?_
   first|refine k_q 113 ?_|refine rG 113 (Calm.bin rfl rfl (bin_bool (bin_str_neq _ _) (bnot_dec_false rfl))) ?_
   iterate 4 refine s1_ ?_
   first|refine k_q 118 ?_|refine rG 118 (Calm.bin rfl rfl (bin_bool (bin_neq _ _) (bnot_dec_false rfl))) ?_
   iterate 4 refine s1_ ?_
   first|refine k_q 123 ?_|refine rG 123 (Calm.bin rfl rfl (bin_bool (bin_str_neq _ _) (bnot_dec_false rfl))) ?_
   iterate 3 refine s1_ ?_
   refine su_ [(0,_),(1,_),(2,_),(3,_),(4,_),(5,_),(6,_),(7,_),(14,_),(31,_),(15,_),(16,_),(41,_),(17,_),(18,_),(51,_),(19,_),(20,_),(21,_),(22,_),(23,_),(88,_),(24,_),(25,_),(97,_),(26,_),(27,_),(28,_),(29,_),(127,_)] ?_
   refine cF_ ?_
   iterate 8 refine s1_ ?_
   refine ⟨_,_,⟨_,_,rfl,rfl,rfl⟩,less_,?_⟩
   rfl
  ·generalize writeTextP d s text=u3 at *
   refine ACall.enter (rs:=[.tmp 14]) 128 [(0,.agg #[.int .i64 d.size,.slice pe d.ext.length ce,.slice pw d.waits.length cw,.int .i64 d.fuse,.bool d.down]),(1,.string s),(2,.int .i64 w),(3,.slice pa hs0.length ca),(4,.string text),(5,.string o),(6,.int .i64 k)] Tryz.func5 rfl rfl (Nat.le_of_ble_eq_true rfl) rfl ⟨rfl,rfl,rfl,rfl,rfl,rfl,rfl,trivial⟩ ?_
   iterate 2 refine s1_ ?_
   refine k_b5 rfl ?_
   intro b7 f7
   have g7:=f7
   repeat ((with_reducible replace g7:=fresh_set g7);obtain ⟨g7,_⟩:=g7)
   refine nl_ ?_
   iterate 3 refine s1_ ?_
   refine named (S:=S) (b:=b7) g7.1 ?_
   intro T7 hT7 kb7
   replace hd:=hd.less hT7
   replace hl:=hl.less rowR_less hT7
   iterate 3 refine s1_ ?_
   refine ca_ rfl (rec_lives _) ?_
   rintro _ Sx ⟨rfl,h1⟩
   rw [h1];clear h1 Sx
   iterate 3 refine s1_ ?_
   refine su_ [(0,_),(1,_),(2,_),(3,_),(4,_),(5,_),(6,_),(7,_),(14,_),(31,_)] ?_
   refine cF_ ?_
   iterate 7 refine s1_ ?_
   refine ca_ rfl (c0 _ _ hd) ?_
   rintro _ Sx ⟨rfl,h1⟩
   rw [h1];clear h1 Sx
   iterate 7 refine s1_ ?_
   refine su_ [(0,_),(1,_),(2,_),(3,_),(4,_),(5,_),(6,_),(7,_),(14,_),(31,_),(15,_),(16,_)] ?_
   iterate 5 refine s1_ ?_
   refine rC (Calm.bin rfl rfl (bin_bool (bin_str_eql _ _) (decide_eq_false q0))) ?_
   iterate 2 refine s1_ ?_
   refine su_ [(0,_),(1,_),(2,_),(3,_),(4,_),(5,_),(6,_),(7,_),(14,_),(31,_),(15,_),(16,_),(41,_)] ?_
   refine cF_ ?_
   iterate 8 refine s1_ ?_
   refine ca_ rfl (c2 _ _ _ hd hl) ?_
   rintro _ S2 ⟨v,rfl,hS2,hd2⟩
   obtain ⟨p2,q2',r2,s2,rfl,hE2,hW2⟩:=id hd2
   replace hd:=hd.less hS2
   replace hl:=hl.less rowR_less hS2
   replace kb7:=hS2.own kb7
   iterate 3 refine s1_ ?_
   refine ARun.alloc (lit_lt rfl) ty_zero_25 ?_
   intro b17 f17
   have g17:=f17
   repeat ((with_reducible replace g17:=fresh_set g17);obtain ⟨g17,_⟩:=g17)
   have:=g17.ne kb7;have:=g17.ne' kb7
   refine nl_ ?_
   iterate 4 refine s1_ ?_
   refine su_ [(0,_),(1,_),(2,_),(3,_),(4,_),(5,_),(6,_),(7,_),(14,_),(31,_),(15,_),(16,_),(41,_),(17,_),(18,_)] ?_
   refine named (S:=S2) (b:=b17) g17.1 ?_
   intro T17 hT17 kb17
   replace hd:=hd.less hT17
   replace hl:=hl.less rowR_less hT17
   replace kb7:=hT17.own kb7
   replace hd2:=hd2.less hT17
   iterate 7 refine s1_ ?_
   refine su_ [(0,_),(1,_),(2,_),(3,_),(4,_),(5,_),(6,_),(7,_),(14,_),(31,_),(15,_),(16,_),(41,_),(17,_),(18,_),(51,_)] ?_
   refine cT_ ?_
   iterate 4 refine s1_ ?_
   refine ca_ rfl (e2 _ _ hd2) ?_
   rintro _ S3 ⟨v3,rfl,hS3,hr3⟩
   replace hd:=hd.less hS3
   replace hl:=hl.less rowR_less hS3
   replace kb7:=hS3.own kb7
   replace hd2:=hd2.less hS3
   replace kb17:=hS3.own kb17
   iterate 9 refine s1_ ?_
   refine su_ [(0,_),(1,_),(2,_),(3,_),(4,_),(5,_),(6,_),(7,_),(14,_),(31,_),(15,_),(16,_),(41,_),(17,_),(18,_),(51,_),(19,_),(20,_),(21,_)] ?_
   iterate 5 refine s1_ ?_
   refine ca_ rfl (e4 _ _ hd2) ?_
   rintro _ Sx ⟨rfl,h1⟩
   rw [h1];clear h1 Sx
   iterate 7 refine s1_ ?_
   refine su_ [(0,_),(1,_),(2,_),(3,_),(4,_),(5,_),(6,_),(7,_),(14,_),(31,_),(15,_),(16,_),(41,_),(17,_),(18,_),(51,_),(19,_),(20,_),(21,_),(22,_),(23,_)] ?_
   iterate 7 refine s1_ ?_
   first|refine k_q 68 ?_|refine rG 68 (Calm.bin rfl rfl (bin_bool (bin_neq _ _) (bnot_dec_false rfl))) ?_
   iterate 4 refine s1_ ?_
   refine ARun.callG 7 false 73 rfl (lit_lt rfl) rfl (lit_lt rfl) go_25 rfl (rnumV_Same l l _ _ _ hl hr3) ?_
   rintro _ Sx ⟨rfl,h1⟩
   rw [h1,decide_eq_true rfl];clear h1 Sx
   iterate 5 refine s1_ ?_
   first|refine k_q 79 ?_|refine rG 79 (Calm.bin rfl rfl (bin_bool (bin_neq _ _) (bnot_dec_false rfl))) ?_
   iterate 4 refine s1_ ?_
   first|refine k_q 84 ?_|refine rG 84 (Calm.bin rfl rfl (bin_bool (bin_str_neq _ _) (bnot_dec_false rfl))) ?_
   iterate 3 refine s1_ ?_
   refine su_ [(0,_),(1,_),(2,_),(3,_),(4,_),(5,_),(6,_),(7,_),(14,_),(31,_),(15,_),(16,_),(41,_),(17,_),(18,_),(51,_),(19,_),(20,_),(21,_),(22,_),(23,_),(88,_)] ?_
   refine cF_ ?_
   iterate 7 refine s1_ ?_
   refine ca_ rfl (c3 _ _ hd) ?_
   rintro _ S4 ⟨v,rfl,hS4,hd4⟩
   obtain ⟨p4,q4,r4,s4,rfl,hE4,hW4⟩:=id hd4
   replace hd:=hd.less hS4
   replace hl:=hl.less rowR_less hS4
   replace kb7:=hS4.own kb7
   replace hd2:=hd2.less hS4
   replace kb17:=hS4.own kb17
   replace hr3:=hr3.less rowR_less hS4
   iterate 3 refine s1_ ?_
   refine ARun.alloc (lit_lt rfl) ty_zero_25 ?_
   intro b24 f24
   have g24:=f24
   repeat ((with_reducible replace g24:=fresh_set g24);obtain ⟨g24,_⟩:=g24)
   have:=g24.ne kb7;have:=g24.ne' kb7
   have:=g24.ne kb17;have:=g24.ne' kb17
   refine nl_ ?_
   iterate 4 refine s1_ ?_
   refine su_ [(0,_),(1,_),(2,_),(3,_),(4,_),(5,_),(6,_),(7,_),(14,_),(31,_),(15,_),(16,_),(41,_),(17,_),(18,_),(51,_),(19,_),(20,_),(21,_),(22,_),(23,_),(88,_),(24,_),(25,_)] ?_
   refine named (S:=S4) (b:=b24) g24.1 ?_
   intro T24 hT24 kb24
   replace hd:=hd.less hT24
   replace hl:=hl.less rowR_less hT24
   replace kb7:=hT24.own kb7
   replace hd2:=hd2.less hT24
   replace kb17:=hT24.own kb17
   replace hr3:=hr3.less rowR_less hT24
   replace hd4:=hd4.less hT24
   iterate 4 refine s1_ ?_
   refine rC (Calm.bin rfl rfl (bin_bool (bin_eql _ _) (decide_eq_false q3))) ?_
   iterate 2 refine s1_ ?_
   refine su_ [(0,_),(1,_),(2,_),(3,_),(4,_),(5,_),(6,_),(7,_),(14,_),(31,_),(15,_),(16,_),(41,_),(17,_),(18,_),(51,_),(19,_),(20,_),(21,_),(22,_),(23,_),(88,_),(24,_),(25,_),(97,_)] ?_
   refine cF_ ?_
   iterate 8 refine s1_ ?_
   refine ⟨_,_,⟨_,_,rfl,rfl,rfl⟩,less_,?_⟩
   rfl
 ·generalize writeP d s w l=u2 at *
  by_cases q3:(writeTextP d s text).2=0
  ·obtain ⟨y,y1,y2,y3,y4,y5,y6,y7,y8⟩:=text_yes hz.f1 q3
   have hy2:=dz_right y2 y4
   have e3:=fun v S h=>rec_ReadText v y s S h hy2
   have e5:=fun v S h=>disk_Read v y o k S h hy2
   rw [file_text y6 y7] at e3
   rw [y8 o k q0,hu1] at e5
   rw [y1] at c3
   clear y1 y2 y3 y4 y5 y6 y7 y8 hy2 q3
   refine ACall.enter (rs:=[.tmp 14]) 128 [(0,.agg #[.int .i64 d.size,.slice pe d.ext.length ce,.slice pw d.waits.length cw,.int .i64 d.fuse,.bool d.down]),(1,.string s),(2,.int .i64 w),(3,.slice pa hs0.length ca),(4,.string text),(5,.string o),(6,.int .i64 k)] Tryz.func5 rfl rfl (Nat.le_of_ble_eq_true rfl) rfl ⟨rfl,rfl,rfl,rfl,rfl,rfl,rfl,trivial⟩ ?_
   iterate 2 refine s1_ ?_
   refine k_b5 rfl ?_
   intro b7 f7
   have g7:=f7
   repeat ((with_reducible replace g7:=fresh_set g7);obtain ⟨g7,_⟩:=g7)
   refine nl_ ?_
   iterate 3 refine s1_ ?_
   refine named (S:=S) (b:=b7) g7.1 ?_
   intro T7 hT7 kb7
   replace hd:=hd.less hT7
   replace hl:=hl.less rowR_less hT7
   iterate 3 refine s1_ ?_
   refine ca_ rfl (rec_lives _) ?_
   rintro _ Sx ⟨rfl,h1⟩
   rw [h1];clear h1 Sx
   iterate 3 refine s1_ ?_
   refine su_ [(0,_),(1,_),(2,_),(3,_),(4,_),(5,_),(6,_),(7,_),(14,_),(31,_)] ?_
   refine cF_ ?_
   iterate 7 refine s1_ ?_
   refine ca_ rfl (c0 _ _ hd) ?_
   rintro _ Sx ⟨rfl,h1⟩
   rw [h1];clear h1 Sx
   iterate 7 refine s1_ ?_
   refine su_ [(0,_),(1,_),(2,_),(3,_),(4,_),(5,_),(6,_),(7,_),(14,_),(31,_),(15,_),(16,_)] ?_
   iterate 5 refine s1_ ?_
   refine rC (Calm.bin rfl rfl (bin_bool (bin_str_eql _ _) (decide_eq_false q0))) ?_
   iterate 2 refine s1_ ?_
   refine su_ [(0,_),(1,_),(2,_),(3,_),(4,_),(5,_),(6,_),(7,_),(14,_),(31,_),(15,_),(16,_),(41,_)] ?_
   refine cF_ ?_
   iterate 8 refine s1_ ?_
   refine ca_ rfl (c2 _ _ _ hd hl) ?_
   rintro _ S2 ⟨v,rfl,hS2,hd2⟩
   obtain ⟨p2,q2',r2,s2,rfl,hE2,hW2⟩:=id hd2
   replace hd:=hd.less hS2
   replace hl:=hl.less rowR_less hS2
   replace kb7:=hS2.own kb7
   iterate 3 refine s1_ ?_
   refine ARun.alloc (lit_lt rfl) ty_zero_25 ?_
   intro b17 f17
   have g17:=f17
   repeat ((with_reducible replace g17:=fresh_set g17);obtain ⟨g17,_⟩:=g17)
   have:=g17.ne kb7;have:=g17.ne' kb7
   refine nl_ ?_
   iterate 4 refine s1_ ?_
   refine su_ [(0,_),(1,_),(2,_),(3,_),(4,_),(5,_),(6,_),(7,_),(14,_),(31,_),(15,_),(16,_),(41,_),(17,_),(18,_)] ?_
   refine named (S:=S2) (b:=b17) g17.1 ?_
   intro T17 hT17 kb17
   replace hd:=hd.less hT17
   replace hl:=hl.less rowR_less hT17
   replace kb7:=hT17.own kb7
   replace hd2:=hd2.less hT17
   iterate 4 refine s1_ ?_
   refine rC (Calm.bin rfl rfl (bin_bool (bin_eql _ _) (decide_eq_false q2))) ?_
   iterate 2 refine s1_ ?_
   refine su_ [(0,_),(1,_),(2,_),(3,_),(4,_),(5,_),(6,_),(7,_),(14,_),(31,_),(15,_),(16,_),(41,_),(17,_),(18,_),(51,_)] ?_
   refine cF_ ?_
   iterate 7 refine s1_ ?_
   refine ca_ rfl (c3 _ _ hd) ?_
   rintro _ S4 ⟨v,rfl,hS4,hd4⟩
   obtain ⟨p4,q4,r4,s4,rfl,hE4,hW4⟩:=id hd4
   replace hd:=hd.less hS4
   replace hl:=hl.less rowR_less hS4
   replace kb7:=hS4.own kb7
   replace hd2:=hd2.less hS4
   replace kb17:=hS4.own kb17
   iterate 3 refine s1_ ?_
   refine ARun.alloc (lit_lt rfl) ty_zero_25 ?_
   intro b24 f24
   have g24:=f24
   repeat ((with_reducible replace g24:=fresh_set g24);obtain ⟨g24,_⟩:=g24)
   have:=g24.ne kb7;have:=g24.ne' kb7
   have:=g24.ne kb17;have:=g24.ne' kb17
   refine nl_ ?_
   iterate 4 refine s1_ ?_
   refine su_ [(0,_),(1,_),(2,_),(3,_),(4,_),(5,_),(6,_),(7,_),(14,_),(31,_),(15,_),(16,_),(41,_),(17,_),(18,_),(51,_),(24,_),(25,_)] ?_
   refine named (S:=S4) (b:=b24) g24.1 ?_
   intro T24 hT24 kb24
   replace hd:=hd.less hT24
   replace hl:=hl.less rowR_less hT24
   replace kb7:=hT24.own kb7
   replace hd2:=hd2.less hT24
   replace kb17:=hT24.own kb17
   replace hd4:=hd4.less hT24
   iterate 7 refine s1_ ?_
   refine su_ [(0,_),(1,_),(2,_),(3,_),(4,_),(5,_),(6,_),(7,_),(14,_),(31,_),(15,_),(16,_),(41,_),(17,_),(18,_),(51,_),(24,_),(25,_),(97,_)] ?_
   refine cT_ ?_
   iterate 4 refine s1_ ?_
   refine ca_ rfl (e3 _ _ hd4) ?_
   rintro _ Sx ⟨rfl,h1⟩
   rw [h1];clear h1 Sx
   iterate 7 refine s1_ ?_
   refine su_ [(0,_),(1,_),(2,_),(3,_),(4,_),(5,_),(6,_),(7,_),(14,_),(31,_),(15,_),(16,_),(41,_),(17,_),(18,_),(51,_),(24,_),(25,_),(97,_),(26,_),(27,_)] ?_
   iterate 5 refine s1_ ?_
   refine ca_ rfl (e5 _ _ hd4) ?_
   rintro _ Sx ⟨rfl,h1⟩
   rw [h1];clear h1 Sx
   iterate 7 refine s1_ ?_
   refine su_ [(0,_),(1,_),(2,_),(3,_),(4,_),(5,_),(6,_),(7,_),(14,_),(31,_),(15,_),(16,_),(41,_),(17,_),(18,_),(51,_),(24,_),(25,_),(97,_),(26,_),(27,_),(28,_),(29,_)] ?_
   iterate 7 refine s1_ ?_
   first|refine k_q 113 ?_|refine rG 113 (Calm.bin rfl rfl (bin_bool (bin_str_neq _ _) (bnot_dec_false rfl))) ?_
   iterate 4 refine s1_ ?_
   first|refine k_q 118 ?_|refine rG 118 (Calm.bin rfl rfl (bin_bool (bin_neq _ _) (bnot_dec_false rfl))) ?_
   iterate 4 refine s1_ ?_
   first|refine k_q 123 ?_|refine rG 123 (Calm.bin rfl rfl (bin_bool (bin_str_neq _ _) (bnot_dec_false rfl))) ?_
   iterate 3 refine s1_ ?_
   refine su_ [(0,_),(1,_),(2,_),(3,_),(4,_),(5,_),(6,_),(7,_),(14,_),(31,_),(15,_),(16,_),(41,_),(17,_),(18,_),(51,_),(24,_),(25,_),(97,_),(26,_),(27,_),(28,_),(29,_),(127,_)] ?_
   refine cF_ ?_
   iterate 8 refine s1_ ?_
   refine ⟨_,_,⟨_,_,rfl,rfl,rfl⟩,less_,?_⟩
   rfl
  ·generalize writeTextP d s text=u3 at *
   refine ACall.enter (rs:=[.tmp 14]) 128 [(0,.agg #[.int .i64 d.size,.slice pe d.ext.length ce,.slice pw d.waits.length cw,.int .i64 d.fuse,.bool d.down]),(1,.string s),(2,.int .i64 w),(3,.slice pa hs0.length ca),(4,.string text),(5,.string o),(6,.int .i64 k)] Tryz.func5 rfl rfl (Nat.le_of_ble_eq_true rfl) rfl ⟨rfl,rfl,rfl,rfl,rfl,rfl,rfl,trivial⟩ ?_
   iterate 2 refine s1_ ?_
   refine k_b5 rfl ?_
   intro b7 f7
   have g7:=f7
   repeat ((with_reducible replace g7:=fresh_set g7);obtain ⟨g7,_⟩:=g7)
   refine nl_ ?_
   iterate 3 refine s1_ ?_
   refine named (S:=S) (b:=b7) g7.1 ?_
   intro T7 hT7 kb7
   replace hd:=hd.less hT7
   replace hl:=hl.less rowR_less hT7
   iterate 3 refine s1_ ?_
   refine ca_ rfl (rec_lives _) ?_
   rintro _ Sx ⟨rfl,h1⟩
   rw [h1];clear h1 Sx
   iterate 3 refine s1_ ?_
   refine su_ [(0,_),(1,_),(2,_),(3,_),(4,_),(5,_),(6,_),(7,_),(14,_),(31,_)] ?_
   refine cF_ ?_
   iterate 7 refine s1_ ?_
   refine ca_ rfl (c0 _ _ hd) ?_
   rintro _ Sx ⟨rfl,h1⟩
   rw [h1];clear h1 Sx
   iterate 7 refine s1_ ?_
   refine su_ [(0,_),(1,_),(2,_),(3,_),(4,_),(5,_),(6,_),(7,_),(14,_),(31,_),(15,_),(16,_)] ?_
   iterate 5 refine s1_ ?_
   refine rC (Calm.bin rfl rfl (bin_bool (bin_str_eql _ _) (decide_eq_false q0))) ?_
   iterate 2 refine s1_ ?_
   refine su_ [(0,_),(1,_),(2,_),(3,_),(4,_),(5,_),(6,_),(7,_),(14,_),(31,_),(15,_),(16,_),(41,_)] ?_
   refine cF_ ?_
   iterate 8 refine s1_ ?_
   refine ca_ rfl (c2 _ _ _ hd hl) ?_
   rintro _ S2 ⟨v,rfl,hS2,hd2⟩
   obtain ⟨p2,q2',r2,s2,rfl,hE2,hW2⟩:=id hd2
   replace hd:=hd.less hS2
   replace hl:=hl.less rowR_less hS2
   replace kb7:=hS2.own kb7
   iterate 3 refine s1_ ?_
   refine ARun.alloc (lit_lt rfl) ty_zero_25 ?_
   intro b17 f17
   have g17:=f17
   repeat ((with_reducible replace g17:=fresh_set g17);obtain ⟨g17,_⟩:=g17)
   have:=g17.ne kb7;have:=g17.ne' kb7
   refine nl_ ?_
   iterate 4 refine s1_ ?_
   refine su_ [(0,_),(1,_),(2,_),(3,_),(4,_),(5,_),(6,_),(7,_),(14,_),(31,_),(15,_),(16,_),(41,_),(17,_),(18,_)] ?_
   refine named (S:=S2) (b:=b17) g17.1 ?_
   intro T17 hT17 kb17
   replace hd:=hd.less hT17
   replace hl:=hl.less rowR_less hT17
   replace kb7:=hT17.own kb7
   replace hd2:=hd2.less hT17
   iterate 4 refine s1_ ?_
   refine rC (Calm.bin rfl rfl (bin_bool (bin_eql _ _) (decide_eq_false q2))) ?_
   iterate 2 refine s1_ ?_
   refine su_ [(0,_),(1,_),(2,_),(3,_),(4,_),(5,_),(6,_),(7,_),(14,_),(31,_),(15,_),(16,_),(41,_),(17,_),(18,_),(51,_)] ?_
   refine cF_ ?_
   iterate 7 refine s1_ ?_
   refine ca_ rfl (c3 _ _ hd) ?_
   rintro _ S4 ⟨v,rfl,hS4,hd4⟩
   obtain ⟨p4,q4,r4,s4,rfl,hE4,hW4⟩:=id hd4
   replace hd:=hd.less hS4
   replace hl:=hl.less rowR_less hS4
   replace kb7:=hS4.own kb7
   replace hd2:=hd2.less hS4
   replace kb17:=hS4.own kb17
   iterate 3 refine s1_ ?_
   refine ARun.alloc (lit_lt rfl) ty_zero_25 ?_
   intro b24 f24
   have g24:=f24
   repeat ((with_reducible replace g24:=fresh_set g24);obtain ⟨g24,_⟩:=g24)
   have:=g24.ne kb7;have:=g24.ne' kb7
   have:=g24.ne kb17;have:=g24.ne' kb17
   refine nl_ ?_
   iterate 4 refine s1_ ?_
   refine su_ [(0,_),(1,_),(2,_),(3,_),(4,_),(5,_),(6,_),(7,_),(14,_),(31,_),(15,_),(16,_),(41,_),(17,_),(18,_),(51,_),(24,_),(25,_)] ?_
   refine named (S:=S4) (b:=b24) g24.1 ?_
   intro T24 hT24 kb24
   replace hd:=hd.less hT24
   replace hl:=hl.less rowR_less hT24
   replace kb7:=hT24.own kb7
   replace hd2:=hd2.less hT24
   replace kb17:=hT24.own kb17
   replace hd4:=hd4.less hT24
   iterate 4 refine s1_ ?_
   refine rC (Calm.bin rfl rfl (bin_bool (bin_eql _ _) (decide_eq_false q3))) ?_
   iterate 2 refine s1_ ?_
   refine su_ [(0,_),(1,_),(2,_),(3,_),(4,_),(5,_),(6,_),(7,_),(14,_),(31,_),(15,_),(16,_),(41,_),(17,_),(18,_),(51,_),(24,_),(25,_),(97,_)] ?_
   refine cF_ ?_
   iterate 8 refine s1_ ?_
   refine ⟨_,_,⟨_,_,rfl,rfl,rfl⟩,less_,?_⟩
   rfl
end Rec
theorem walk_RecsBack (cs : List Value) (y : D) (s : ByteArray) (w : Int) (pa : Option Addr) (la ca : Nat) (l : List (List Nat)) (text o : ByteArray) (k : Int) (W : World) (w0 : DkV (roM W) cs y) (w1 : s.size ≤ maxLen) (z1 : s.size < 140737488355328) (w2 : (Lit.int .i64 w).wf = true) (w3 : SlOf (fun S v l => Sl 1 (fun x : Nat => [Value.int .u64 (x : Int)]) S v l) (roM W) (.slice pa la ca) l) (wb : ∀ x ∈ l, ∀ n ∈ x, n < 18446744073709551616) (zl : l.length ≤ 5864062014634) (zr : ∀ x ∈ l, x.length ≤ 17592186043904) (w4 : text.size ≤ maxLen) (z4 : text.size < 140737488355328) (w5 : o.size ≤ maxLen) (z5 : o.size < 140737488355328) (w6 : (Lit.int .i64 k).wf = true) :
  Calls Tryz.prog 5 #[.agg cs.toArray,.string s,.int .i64 w,.slice pa la ca,.string text,.string o,.int .i64 k] W fun e w'=>e = .returned (.bool true)∧Below W.heap.size W w' :=
 ACall.callsW (Rec.law_RecsBack _ _ y s w l text o k _ w0.1 w0.2 w3 wb)
end Go.Proofs.YtceikpipmcadmaaGreatDoor
